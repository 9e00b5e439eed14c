/- Regions that draw their order, upon abstract values: whatever the order, all comes as it comes one behind the other. No condition. -/
import Derived.Test.YtgepadjkegfokaaDoorPAvReg
set_option linter.unusedSimpArgs false
set_option linter.unusedVariables false
namespace Go.Proofs.YtgepadjkegfokaaDoor
set_option linter.unusedSimpArgs false
set_option linter.unusedVariables false
open Go.RowKit
def Arg.slot : Arg → List Nat
  | .s t => [t]
  | .c _ => []
def slotsO : Option Arg → List Nat
  | none => []
  | some x => x.slot
/-- The slots that an operation looks at. -/
def AO.slots : AO → List Nat
  | .mov x | .box _ x | .load _ x | .nilc x | .un _ x | .conv _ x | .fad _ x | .fld _ _ x | .ext _ x | .len _ x | .isn _ _ x => x.slot
  | .pick a b c => a.slot ++ b.slot ++ c.slot
  | .new _ => []
  | .agg _ ps => ps.flatMap fun p => p.2.2.slot
  | .bsl _ _ _ ps => ps.flatMap fun p => p.2.slot
  | .store _ x y | .bin _ _ x y | .iad _ x y | .iap _ _ x y | .mnx _ x y | .eqs _ _ _ x y | .msl _ _ _ x y | .six x y | .app _ _ x y => x.slot ++ y.slot
  | .slc _ x l h m => x.slot ++ slotsO l ++ slotsO h ++ slotsO m
  | .sls x l h => x.slot ++ slotsO l ++ slotsO h
  | .mkf _ cs | .mkb _ cs => cs.flatMap Arg.slot
  | .call x l => x.slot ++ l.flatMap Arg.slot
  | .clr _ x => x.slot
  | .cpy _ x y => x.slot ++ y.slot
  | .mkm | .bad => []
  | .mup _ x k y => x.slot ++ k.slot ++ y.slot
  | .mlk _ _ x k => x.slot ++ k.slot
def AO.allocs : AO → Bool
  | .new _ | .box _ _ | .bsl _ _ _ _ | .msl _ _ _ _ _ | .app _ _ _ _ | .mkm => true
  | _ => false
def AOper.uses (o : AOper) : List Nat := o.ao.slots ++ (match o.guard with | some (t, _) => [t] | none => [])
theorem arg_congr {σ σ' : Nat → AV} {x : Arg} (h : ∀ t, t ∈ x.slot → σ' t = σ t) : argσ σ' x = argσ σ x := by
  cases x with
  | s t => exact h t (by simp [Arg.slot])
  | c a => rfl
theorem optNat_congr {σ σ' : Nat → AV} {x : Option Arg} (h : ∀ t, t ∈ slotsO x → σ' t = σ t) : optNat (argσ σ') x = optNat (argσ σ) x := by
  cases x with
  | none => rfl
  | some a => simp only [optNat, arg_congr h]
theorem map_congr {σ σ' : Nat → AV} {l : List Arg} (h : ∀ t, t ∈ l.flatMap Arg.slot → σ' t = σ t) : l.map (argσ σ') = l.map (argσ σ) := by
  apply List.map_congr_left
  intro x hx
  exact arg_congr fun t ht => h t (List.mem_flatMap.2 ⟨x, hx, ht⟩)
theorem fillA_congr {σ σ' : Nat → AV} : ∀ {ps : List (Nat × Nat × Arg)} {cs : List AV}, (∀ t, t ∈ ps.flatMap (fun p => p.2.2.slot) → σ' t = σ t) → fillA (argσ σ') cs ps = fillA (argσ σ) cs ps
  | [], cs, _ => rfl
  | (off, n, x) :: r, cs, h => by
    have h1 := arg_congr (x := x) (σ := σ) (σ' := σ') fun t ht => h t (by simp [ht])
    simp only [fillA, h1]
    split
    · exact fillA_congr fun t ht => h t (by rw [List.flatMap_cons]; exact List.mem_append_right _ ht)
    · rfl
theorem fillE_congr {σ σ' : Nat → AV} {sz : Nat} : ∀ {ps : List (Nat × Arg)} {els : List (List AV)}, (∀ t, t ∈ ps.flatMap (fun p => p.2.slot) → σ' t = σ t) → fillE (argσ σ') sz els ps = fillE (argσ σ) sz els ps
  | [], cs, _ => rfl
  | (i, x) :: r, cs, h => by
    have h1 := arg_congr (x := x) (σ := σ) (σ' := σ') fun t ht => h t (by simp [ht])
    simp only [fillE, h1]
    split
    · exact fillE_congr fun t ht => h t (by rw [List.flatMap_cons]; exact List.mem_append_right _ ht)
    · rfl
theorem sem_congr {σ σ' : Nat → AV} {ao : AO} (fresh : Nat) (h : ∀ t, t ∈ ao.slots → σ' t = σ t) : ao.sem fresh (argσ σ') = ao.sem fresh (argσ σ) := by
  cases ao <;> simp only [AO.slots, List.mem_append] at h <;> simp only [AO.sem]
  case mov x => rw [arg_congr h]
  case pick a b c => rw [arg_congr (x := a) fun t ht => h t (.inl (.inl ht)), arg_congr (x := b) fun t ht => h t (.inl (.inr ht)), arg_congr (x := c) fun t ht => h t (.inr ht)]
  case box n x => rw [arg_congr h]
  case agg zs ps => rw [fillA_congr h]
  case bsl sz ln zs ps => rw [fillE_congr h]
  case load m x => rw [arg_congr h]
  case store n x y => rw [arg_congr (x := x) fun t ht => h t (.inl ht), arg_congr (x := y) fun t ht => h t (.inr ht)]
  case nilc x => rw [arg_congr h]
  case bin bt op x y => rw [arg_congr (x := x) fun t ht => h t (.inl ht), arg_congr (x := y) fun t ht => h t (.inr ht)]
  case un op x => rw [arg_congr h]
  case conv k x => rw [arg_congr h]
  case fad off x => rw [arg_congr h]
  case fld off m x => rw [arg_congr h]
  case iad sz x y => rw [arg_congr (x := x) fun t ht => h t (.inl ht), arg_congr (x := y) fun t ht => h t (.inr ht)]
  case ext i x => rw [arg_congr h]
  case len b x => cases b <;> simp only [AO.sem] <;> rw [arg_congr h]
  case isn kd m x => cases kd <;> simp only [AO.sem] <;> rw [arg_congr h]
  case mnx m x y => rw [arg_congr (x := x) fun t ht => h t (.inl ht), arg_congr (x := y) fun t ht => h t (.inr ht)]
  case eqs ng n L x y => rw [arg_congr (x := x) fun t ht => h t (.inl ht), arg_congr (x := y) fun t ht => h t (.inr ht)]
  case msl sz by_ zs x y => rw [arg_congr (x := x) fun t ht => h t (.inl ht), arg_congr (x := y) fun t ht => h t (.inr ht)]
  case slc sz x lo hi mx => rw [arg_congr (x := x) fun t ht => h t (.inl (.inl (.inl ht))), optNat_congr (x := lo) fun t ht => h t (.inl (.inl (.inr ht))), optNat_congr (x := hi) fun t ht => h t (.inl (.inr ht)), optNat_congr (x := mx) fun t ht => h t (.inr ht)]
  case sls x lo hi => rw [arg_congr (x := x) fun t ht => h t (.inl (.inl ht)), optNat_congr (x := lo) fun t ht => h t (.inl (.inr ht)), optNat_congr (x := hi) fun t ht => h t (.inr ht)]
  case six x y => rw [arg_congr (x := x) fun t ht => h t (.inl ht), arg_congr (x := y) fun t ht => h t (.inr ht)]
  case app sz by_ x y => rw [arg_congr (x := x) fun t ht => h t (.inl ht), arg_congr (x := y) fun t ht => h t (.inr ht)]
  case mkf f cs => rw [map_congr h]
  case mkb f cs => rw [map_congr h]
  case clr zs x => rw [arg_congr h]
  case cpy sz x y => rw [arg_congr (x := x) fun t ht => h t (.inl ht), arg_congr (x := y) fun t ht => h t (.inr ht)]
  case mup kd x k y => rw [arg_congr (x := x) fun t ht => h t (.inl (.inl ht)), arg_congr (x := k) fun t ht => h t (.inl (.inr ht)), arg_congr (x := y) fun t ht => h t (.inr ht)]
  case mlk kd z x k => rw [arg_congr (x := x) fun t ht => h t (.inl ht), arg_congr (x := k) fun t ht => h t (.inr ht)]
  case iap sz ln x y => rw [arg_congr (x := x) fun t ht => h t (.inl ht), arg_congr (x := y) fun t ht => h t (.inr ht)]
  case call x l => rw [arg_congr (x := x) fun t ht => h t (.inl ht), map_congr fun t ht => h t (.inr ht)]
theorem sem_fresh {ao : AO} (h : ao.allocs = false) (fresh fresh' : Nat) (ρ : Arg → AV) : ao.sem fresh' ρ = ao.sem fresh ρ := by
  cases ao <;> simp [AO.allocs] at h <;> first | rfl | skip
  case len b x => cases b <;> rfl
  case isn kd b x => cases kd <;> rfl
theorem allocs_fresh {ao : AO} (h : ao.allocs = true) {fresh : Nat} {ρ : Arg → AV} {g : Nat → Option Bk} {val : AV} {ups : List (Nat × Option Bk)} (hr : (ao.sem fresh ρ).run g = some (.done val ups)) : fresh ∈ ups.map Prod.fst := by
  cases ao <;> simp [AO.allocs] at h <;> simp only [AO.sem] at hr
  case new zs => simp [RM.run] at hr; rw [← hr.2]; simp
  case mkm => simp [RM.run] at hr; rw [← hr.2]; simp
  case box n x => split at hr <;> simp [RM.run] at hr; rw [← hr.2]; simp
  case bsl sz ln zs ps =>
    cases hf : fillE ρ sz (List.replicate ln zs) ps with
    | none => simp [hf, RM.opt, RM.run] at hr
    | some els => simp [hf, RM.opt, RM.run] at hr; rw [← hr.2]; simp
  case msl sz b zs l c =>
    split at hr
    · split at hr <;> simp [RM.run] at hr; rw [← hr.2]; simp
    · simp [RM.run] at hr
  case app sz b s x =>
    obtain ⟨ys, _, hr⟩ := bind_run hr
    split at hr
    · split at hr <;> simp [RM.run] at hr; rw [← hr.2]; simp
    · split at hr <;> simp [RM.run] at hr; rw [← hr.2]; simp
    · simp only [RM.run] at hr
      split at hr
      · split at hr
        · simp [RM.run] at hr; rw [← hr.2]; simp
        · split at hr <;> simp [RM.run] at hr; rw [← hr.2]; simp
      · simp at hr
    · simp [RM.run] at hr
theorem OpRun.local {P : Program} {σ σ' : Nat → AV} {g g' : Nat → Option Bk} {fr fr' : Nat} {o : AOper} {val : AV} {ups : List (Nat × Option Bk)} {acc : List Nat} (h : OpRun P σ g fr o val ups acc)
    (hσ : ∀ t, t ∈ o.uses → σ' t = σ t) (hg : ∀ id, id ∈ acc → g' id = g id) (hfr : fr ∈ ups.map Prod.fst → fr' = fr) : ∃ acc', OpRun P σ' g' fr' o val ups acc' := by
  have hgd : guardA σ' o.guard = guardA σ o.guard := by
    cases hg0 : o.guard with
    | none => rfl
    | some p =>
      obtain ⟨t, w⟩ := p
      simp only [guardA, hσ t (by simp [AOper.uses, hg0])]
  have hsem : ∀ out, (o.ao.sem fr (argσ σ)).run g = some out → (∀ id, id ∈ (o.ao.sem fr (argσ σ)).acc g ++ (o.ao.sem fr (argσ σ)).see g → g' id = g id) → (o.ao.allocs = true → fr' = fr) → (o.ao.sem fr' (argσ σ')).run g' = some out := by
    intro out h1 h2 h3
    have e1 : o.ao.sem fr' (argσ σ') = o.ao.sem fr (argσ σ) := by
      rw [sem_congr fr' fun t ht => hσ t (by simp [AOper.uses, ht])]
      cases hal : o.ao.allocs with
      | false => exact sem_fresh hal _ _ _
      | true => rw [h3 hal]
    rw [e1, RM.local _ (fun id hid => h2 id (List.mem_append_left _ hid)) (fun id hid => by rw [h2 id (List.mem_append_right _ hid)])]
    exact h1
  cases h with
  | skip hg0 => exact ⟨_, .skip (hgd.trans hg0)⟩
  | done hg0 h1 => exact ⟨_, .done (hgd.trans hg0) (hsem _ h1 hg fun hal => hfr (allocs_fresh hal h1))⟩
  | @call f as as' r hg0 h1 hc hs hf =>
    have hal : o.ao.allocs = false := by
      cases hx : o.ao with
      | call x l => rfl
      | _ => exact absurd h1 (noCall (by rw [hx]; simp))
    refine ⟨_, .call (hgd.trans hg0) (hsem _ h1 (fun id hid => hg id (List.mem_append_left _ hid)) fun h => by rw [hal] at h; simp at h) hc ?_ hf⟩
    rw [RM.local _ (fun id hid => hg id (List.mem_append_right _ (List.mem_append_left _ hid))) (fun id hid => by rw [hg id (List.mem_append_right _ (List.mem_append_right _ hid))])]
    exact hs
  | @callO f as as' sz els hg0 h1 hc hs hf hn =>
    have hal : o.ao.allocs = false := by
      cases hx : o.ao with
      | call x l => rfl
      | _ => exact absurd h1 (noCall (by rw [hx]; simp))
    have hfe : fr' = fr := hfr (by simp)
    subst hfe
    refine ⟨_, .callO (hgd.trans hg0) (hsem _ h1 (fun id hid => hg id (List.mem_append_left _ hid)) fun _ => rfl) hc ?_ hf hn⟩
    rw [RM.local _ (fun id hid => hg id (List.mem_append_right _ (List.mem_append_left _ hid))) (fun id hid => by rw [hg id (List.mem_append_right _ (List.mem_append_right _ hid))])]
    exact hs
structure Rec where
  dst : Option Nat
  val : AV
  ups : List (Nat × Option Bk)
  acc : List Nat
  fr : Nat
def Rec.keys (r : Rec) : List Nat := r.ups.map Prod.fst
inductive OpsRec (P : Program) (n : Nat) : List AOper → (Nat → AV) → (Nat → Option Bk) → Nat → List Rec → (Nat → AV) → (Nat → Option Bk) → Nat → Prop
  | nil {σ : Nat → AV} {g : Nat → Option Bk} {k : Nat} : OpsRec P n [] σ g k [] σ g k
  | cons {o : AOper} {os : List AOper} {σ σ' : Nat → AV} {g g' : Nat → Option Bk} {k k1 k' : Nat} {val : AV} {ups : List (Nat × Option Bk)} {acc : List Nat} {rs : List Rec} (h : OpRun P σ g k o val ups acc) (hk : k ≤ k1) (hu : ∀ id, id ∈ ups.map Prod.fst → id < k1)
      (hr : OpsRec P n os (putσ n o.dst val σ) (gput g ups) k1 rs σ' g' k') : OpsRec P n (o :: os) σ g k (⟨o.dst, val, ups, acc, k⟩ :: rs) σ' g' k'
def lastW {β : Type} (L : Nat → Bool) (w : Rec → Option β) : Nat → List Rec → β → β
  | _, [], x => x
  | k, r :: rs, x => lastW L w (k + 1) rs (if L k = true then (w r).getD x else x)
theorem lastW_congr {β : Type} {L L' : Nat → Bool} {w : Rec → Option β} : ∀ (rs : List Rec) (k : Nat) (x : β), (∀ (j : Nat) r, rs[j]? = some r → L (k + j) ≠ L' (k + j) → w r = none) → lastW L w k rs x = lastW L' w k rs x
  | [], k, x, _ => rfl
  | r :: rs, k, x, h => by
    simp only [lastW]
    have h0 := h 0 r rfl
    rw [Nat.add_zero] at h0
    have e : (if L k = true then (w r).getD x else x) = if L' k = true then (w r).getD x else x := by
      by_cases hl : L k = L' k
      · rw [hl]
      · rw [h0 hl]; simp
    rw [e]
    exact lastW_congr rs (k + 1) _ fun j r' hr hl => h (j + 1) r' (by simpa using hr) (by rw [show k + (j + 1) = k + 1 + j by omega]; exact hl)
theorem lastW_none {β : Type} {L : Nat → Bool} {w : Rec → Option β} : ∀ (rs : List Rec) (k : Nat) (x : β), (∀ (j : Nat) r, rs[j]? = some r → L (k + j) = true → w r = none) → lastW L w k rs x = x
  | [], k, x, _ => rfl
  | r :: rs, k, x, h => by
    simp only [lastW]
    have e : (if L k = true then (w r).getD x else x) = x := by
      split
      · rename_i hl; rw [h 0 r rfl (by simpa using hl)]; rfl
      · rfl
    rw [e]
    exact lastW_none rs (k + 1) _ fun j r' hr hl => h (j + 1) r' (by simpa using hr) (by rw [show k + (j + 1) = k + 1 + j by omega]; exact hl)
theorem lastW_ins {β : Type} {L L' : Nat → Bool} {w : Rec → Option β} : ∀ (rs : List Rec) (k i : Nat) (x : β) (r : Rec), rs[i]? = some r → L (k + i) = false → (∀ j, L' j = if j = k + i then true else L j) → (∀ (j : Nat) r', i < j → rs[j]? = some r' → L (k + j) = true → w r' = none ∨ w r = none) →
    lastW L' w k rs x = (w r).getD (lastW L w k rs x)
  | [], k, i, x, r, hr, _, _, _ => by simp at hr
  | r0 :: rs, k, 0, x, r, hr, hf, hL, hn => by
    simp only [List.getElem?_cons_zero, Option.some.injEq] at hr
    subst hr
    simp only [lastW, hL k, Nat.add_zero, if_true]
    rw [Nat.add_zero] at hf
    rw [hf]
    simp only [Bool.false_eq_true, if_false]
    cases hw : w r0 with
    | none =>
      simp only [Option.getD_none]
      refine lastW_congr rs (k + 1) x fun j r' hr' hl => ?_
      rw [hL, if_neg (by omega)] at hl
      exact absurd rfl hl
    | some y =>
      simp only [Option.getD_some]
      refine lastW_none rs (k + 1) y fun j r' hr' hl => ?_
      rw [hL, if_neg (by omega)] at hl
      exact (hn (j + 1) r' (by omega) (by simpa using hr') (by rw [show k + (j + 1) = k + 1 + j by omega]; exact hl)).resolve_right (by rw [hw]; simp)
  | r0 :: rs, k, i + 1, x, r, hr, hf, hL, hn => by
    simp only [lastW]
    have e : L' k = L k := by rw [hL k, if_neg (by omega)]
    rw [e]
    exact lastW_ins rs (k + 1) i _ r (by simpa using hr) (by rw [show k + 1 + i = k + (i + 1) by omega]; exact hf) (fun j => by rw [hL j, show k + 1 + i = k + (i + 1) by omega]) fun j r' hj hr' hl => hn (j + 1) r' (by omega) (by simpa using hr') (by rw [show k + (j + 1) = k + 1 + j by omega]; exact hl)
theorem lastW_shift {β : Type} {L : Nat → Bool} {w : Rec → Option β} : ∀ (rs : List Rec) (k : Nat) (x : β), lastW L w (k + 1) rs x = lastW (fun j => L (j + 1)) w k rs x
  | [], _, _ => rfl
  | r :: rs, k, x => by
    simp only [lastW]
    exact lastW_shift rs (k + 1) _
def wσ (n t : Nat) (r : Rec) : Option AV := if r.dst = some t ∧ t < n then some r.val else none
/-- What the updates say of a block. -/
def kv : List (Nat × Option Bk) → Nat → Option (Option Bk)
  | [], _ => none
  | (k, x) :: r, id => match kv r id with
    | some y => some y
    | none => if id = k then some x else none
theorem gput_kv : ∀ (ups : List (Nat × Option Bk)) (g : Nat → Option Bk) (id : Nat), gput g ups id = (kv ups id).getD (g id)
  | [], g, id => rfl
  | (k, x) :: r, g, id => by
    simp only [gput, kv, gput_kv r]
    cases kv r id with
    | some y => rfl
    | none =>
      simp only [Option.getD_none]
      by_cases h : id = k
      · simp [h]
      · simp [h]
theorem kv_mem : ∀ {ups : List (Nat × Option Bk)} {id : Nat}, kv ups id ≠ none → id ∈ ups.map Prod.fst
  | [], id, h => by simp [kv] at h
  | (k, x) :: r, id, h => by
    simp only [kv] at h
    cases hr : kv r id with
    | some y => simp only [List.map_cons, List.mem_cons]; exact .inr (kv_mem (by rw [hr]; simp))
    | none =>
      rw [hr] at h
      by_cases hk : id = k
      · simp [hk]
      · simp [hk] at h
def wg (id : Nat) (r : Rec) : Option (Option Bk) := kv r.ups id
theorem putσ_wσ (n t : Nat) (r : Rec) (σ : Nat → AV) : putσ n r.dst r.val σ t = (wσ n t r).getD (σ t) := by
  unfold putσ wσ
  split <;> rfl
def upto (i j : Nat) : Bool := decide (j < i)
def σat (n : Nat) (L : Nat → Bool) (rs : List Rec) (σ : Nat → AV) (t : Nat) : AV := lastW L (wσ n t) 0 rs (σ t)
def gat (L : Nat → Bool) (rs : List Rec) (g : Nat → Option Bk) (id : Nat) : Option Bk := lastW L (wg id) 0 rs (g id)
theorem rec_canon {P : Program} {n : Nat} {os : List AOper} {σ σ' : Nat → AV} {g g' : Nat → Option Bk} {k k' : Nat} {rs : List Rec} (h : OpsRec P n os σ g k rs σ' g' k') :
    rs.length = os.length ∧ k ≤ k' ∧ (∀ (i : Nat) o, os[i]? = some o → ∃ r, rs[i]? = some r ∧ r.dst = o.dst ∧ OpRun P (σat n (upto i) rs σ) (gat (upto i) rs g) r.fr o r.val r.ups r.acc ∧ k ≤ r.fr) ∧
      (∀ (i j : Nat) ri rj, i < j → rs[i]? = some ri → rs[j]? = some rj → ∀ id, id ∈ ri.keys → id < rj.fr) ∧ (∀ (i : Nat) r, rs[i]? = some r → ∀ id, id ∈ r.keys → id < k') ∧ σ' = σat n (fun _ => true) rs σ ∧ g' = gat (fun _ => true) rs g := by
  induction h with
  | nil => exact ⟨rfl, Nat.le_refl _, fun i o ho => by simp at ho, fun i j ri rj _ h => by simp at h, fun i r h => by simp at h, rfl, rfl⟩
  | @cons o os σ σ' g g' k k1 k' val ups acc rs h hk hu hr ih =>
    obtain ⟨i1, i2, i3, i4, i5, i6, i7⟩ := ih
    have e1 : ∀ i, σat n (upto (i + 1)) (⟨o.dst, val, ups, acc, k⟩ :: rs) σ = σat n (upto i) rs (putσ n o.dst val σ) := by
      intro i; funext t
      show lastW _ _ 1 rs _ = _
      rw [lastW_shift]
      unfold σat
      congr 1
      · funext j; simp [upto]
      · rw [if_pos (by simp [upto])]; exact (putσ_wσ n t ⟨o.dst, val, ups, acc, k⟩ σ).symm
    have e2 : ∀ i, gat (upto (i + 1)) (⟨o.dst, val, ups, acc, k⟩ :: rs) g = gat (upto i) rs (gput g ups) := by
      intro i; funext id
      show lastW _ _ 1 rs _ = _
      rw [lastW_shift]
      unfold gat
      congr 1
      · funext j; simp [upto]
      · rw [if_pos (by simp [upto]), gput_kv]; rfl
    refine ⟨by simp [i1], Nat.le_trans hk i2, fun i o' ho => ?_, fun i j ri rj hij hi hj id hid => ?_, fun i r hr' id hid => ?_, ?_, ?_⟩
    · cases i with
      | zero =>
        simp only [List.getElem?_cons_zero, Option.some.injEq] at ho
        subst ho
        refine ⟨_, rfl, rfl, ?_, Nat.le_refl _⟩
        have s0 : σat n (upto 0) (⟨o.dst, val, ups, acc, k⟩ :: rs) σ = σ := by funext t; exact lastW_none _ 0 _ fun j r _ hl => by simp [upto] at hl
        have g0 : gat (upto 0) (⟨o.dst, val, ups, acc, k⟩ :: rs) g = g := by funext t; exact lastW_none _ 0 _ fun j r _ hl => by simp [upto] at hl
        rw [s0, g0]
        exact h
      | succ i =>
        obtain ⟨r, r1, r2, r3, r4⟩ := i3 i o' (by simpa using ho)
        exact ⟨r, by simpa using r1, r2, by rw [e1, e2]; exact r3, Nat.le_trans hk r4⟩
    · cases j with
      | zero => omega
      | succ j =>
        simp only [List.getElem?_cons_succ] at hj
        cases i with
        | zero =>
          simp only [List.getElem?_cons_zero, Option.some.injEq] at hi
          subst hi
          have hjl : j < os.length := by rw [← i1]; exact (List.getElem?_eq_some_iff.1 hj).1
          obtain ⟨r, r1, _, _, r4⟩ := i3 j _ (List.getElem?_eq_getElem hjl)
          rw [hj] at r1
          simp only [Option.some.injEq] at r1
          subst r1
          exact Nat.lt_of_lt_of_le (hu id hid) r4
        | succ i => exact i4 i j ri rj (by omega) (by simpa using hi) hj id hid
    · cases i with
      | zero =>
        simp only [List.getElem?_cons_zero, Option.some.injEq] at hr'
        subst hr'
        exact Nat.lt_of_lt_of_le (hu id hid) i2
      | succ i => exact i5 i r (by simpa using hr') id hid
    · rw [i6]
      funext t
      unfold σat
      simp only [lastW]
      rw [lastW_shift, if_true, putσ_wσ n t ⟨o.dst, val, ups, acc, k⟩ σ]
    · rw [i7]
      funext id
      unfold gat
      simp only [lastW]
      rw [lastW_shift, if_true, gput_kv]
      rfl
/-- Are two operations free of one another: neither looks at what the other writes? -/
def slotFree (x y : AOper) : Bool :=
  (match x.dst with | some d => !y.uses.contains d && y.dst != some d | none => true) && (match y.dst with | some d => !x.uses.contains d | none => true)
def idFree (x y : Rec) : Bool := (x.keys.all fun id => !y.acc.contains id && !y.keys.contains id) && (y.keys.all fun id => !x.acc.contains id)
/-- The edges that bind. -/
def dirOf (o : Oper) : List Nat := o.after.toList.filterMap fun e => if Region.binds .any e = true then some e.on else none
/-- 'dep' names for each operation those that come before it in any order; all others are free of it. -/
def depOK (ops : List Oper) (dep : List (List Nat)) : Bool :=
  dep.length == ops.length && (List.range ops.length).all fun j => ((ops[j]?.map dirOf).getD []).all (· < j) &&
    ((dep[j]?).getD []).all fun i => i < j && (((ops[j]?.map dirOf).getD []).contains i || ((ops[j]?.map dirOf).getD []).any fun e => ((dep[e]?).getD []).contains i)
def slotsOK (os : List AOper) (dep : List (List Nat)) : Bool :=
  (List.range os.length).all fun j => (List.range j).all fun i => ((dep[j]?).getD []).contains i || (match os[i]?, os[j]? with | some x, some y => slotFree x y | _, _ => false)
def idsOK (rs : List Rec) (dep : List (List Nat)) : Bool :=
  (List.range rs.length).all fun j => (List.range j).all fun i => ((dep[j]?).getD []).contains i || (match rs[i]?, rs[j]? with | some x, some y => idFree x y | _, _ => false)
theorem nodup_len : ∀ (N : Nat) (m : List Nat), m.Nodup → (∀ j, j ∈ m → j < N) → m.length ≤ N
  | 0, m, _, h => by
    cases m with
    | nil => simp
    | cons a l => have := h a (by simp); omega
  | N + 1, m, hn, h => by
    have ih := nodup_len N (m.erase N) (hn.erase N) fun j hj => by
      have hjm := List.mem_of_mem_erase hj
      have := h j hjm
      have hne : j ≠ N := fun e => by
        subst e
        exact (List.Nodup.mem_erase_iff hn).1 hj |>.1 rfl
      omega
    rw [List.length_erase] at ih
    split at ih <;> omega
section
variable {P : Program} {E0 : Env} {n : Nat} {ops : Array Oper} {J : Nat → Prop} {base : Nat} {w0 : World} {Q : Exit → Act → World → Prop} {os : List AOper} {dep : List (List Nat)} {σ σ' : Nat → AV} {g g' : Nat → Option Bk} {k k' : Nat} {rs : List Rec}
structure DInv (E0 : Env) (n : Nat) (ops : Array Oper) (J : Nat → Prop) (base : Nat) (w0 : World) (σ : Nat → AV) (g : Nat → Option Bk) (k : Nat) (rs : List Rec) (listed : Array Bool) (a : Act) (w : World) : Prop where
  ex : ∃ E : Env, E.w = w ∧ E0.Le E ∧ (∀ t, Rep E (a.tmps.getD t undef) (σat n (fun j => listed.getD j false) rs σ t)) ∧ MemAt E J base (gat (fun j => listed.getD j false) rs g) ∧
    (∀ id, E.kn id → id < k ∨ ∃ j r, listed.getD j false = true ∧ rs[j]? = some r ∧ id ∈ r.keys) ∧ Mk E w0.heap.size a.defers
  size : a.tmps.size = n
  below : Below base w0 w
  gl : GlE E0
  lsize : listed.size = ops.size
  closed : ∀ (j : Nat) op, ops[j]? = some op → listed.getD j false = true → ∀ e, e ∈ dirOf op → listed.getD e false = true
theorem mem_dirOf {op : Oper} {e : Nat} : e ∈ dirOf op ↔ ∃ x, x ∈ op.after ∧ Region.binds .any x = true ∧ x.on = e := by
  unfold dirOf
  rw [List.mem_filterMap]
  constructor
  · rintro ⟨x, hx, h⟩
    split at h
    · rename_i hb; simp only [Option.some.injEq] at h; exact ⟨x, by simpa using hx, hb, h⟩
    · simp at h
  · rintro ⟨x, hx, hb, he⟩
    exact ⟨x, by simpa using hx, by simp [hb, he]⟩
theorem dep_closed (hd : depOK ops.toList dep = true) {listed : Array Bool} (hc : ∀ (j : Nat) op, ops[j]? = some op → listed.getD j false = true → ∀ e, e ∈ dirOf op → listed.getD e false = true) :
    ∀ (j : Nat) op, ops[j]? = some op → (∀ e, e ∈ dirOf op → listed.getD e false = true) → ∀ i, i ∈ (dep[j]?).getD [] → listed.getD i false = true := by
  intro j
  induction j using Nat.strongRecOn with
  | _ j ih =>
    intro op hop hdir i hi
    have hjl : j < ops.toList.length := by simpa using (Array.getElem?_eq_some_iff.1 hop).1
    unfold depOK at hd
    simp only [Bool.and_eq_true, List.all_eq_true, List.mem_range, decide_eq_true_eq, Bool.or_eq_true, List.any_eq_true, List.contains_iff_mem] at hd
    have hj := hd.2 j hjl
    have hopl : ops.toList[j]? = some op := by simpa using hop
    simp only [hopl, Option.map_some, Option.getD_some] at hj
    obtain ⟨h1, h2⟩ := hj.2 i hi
    rcases h2 with h2 | ⟨e, he, h2⟩
    · exact hdir i h2
    · have hej : e < j := hj.1 e he
      have hel : e < ops.size := by simp at hjl; omega
      exact ih e hej ops[e] (Array.getElem?_eq_getElem hel) (hc e _ (Array.getElem?_eq_getElem hel) (hdir e he)) i h2
end
end Go.Proofs.YtgepadjkegfokaaDoor
