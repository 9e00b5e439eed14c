/- Calls of functions upon abstract values: what a function answers, whatever the world; what the caller knows behind it. No condition. -/
import Derived.Test.YtgepadjkegfokaaDoorPAvSnd6
set_option linter.unusedSimpArgs false
set_option linter.unusedVariables false
namespace Go.Proofs.YtgepadjkegfokaaDoor
set_option linter.unusedSimpArgs false
set_option linter.unusedVariables false
open Go.RowKit
/-- A value of one cell that names no own block, to be seen at once. -/
def AV.pu1 : AV → Bool
  | .v _ | .emp | .lst _ _ | .tls _ _ | .pim _ _ | .dead => true
  | .fn _ caps => caps.isEmpty
  | _ => false
theorem AV.pu1_pu {a : AV} (h : a.pu1 = true) : Pu a := by
  cases a <;> simp [AV.pu1] at h <;> try constructor
  subst h; intro c hc; simp at hc
/-- What is handed to a function that sees no own block: each own slice as it is now. -/
def snap1 : AV → RM AV
  | .own id sz off n => (content sz (.own id sz off n)).bind fun els => if (els.all fun cs => cs.all AV.pu1) = true then .ret (.lst sz els) else .fail
  | .ref id sz i o => .rd id fun B => if B.sz = sz then (match B.els[i]? with
    | some cs => if cs.all AV.pu1 = true then .ret (.pim cs o) else .fail
    | none => .fail) else .fail
  | a => if a.pu1 = true then .ret a else .fail
def snapL : List AV → RM (List AV)
  | [] => .ret []
  | a :: r => (snap1 a).bind fun x => (snapL r).bind fun l => .ret (x :: l)
def snapA : AV → RM AV
  | .agg cs => (snapL cs).bind fun l => .ret (.agg l)
  | .fn f cs => (snapL cs).bind fun l => .ret (.fn f l)
  | .bf f cs => (snapL cs).bind fun l => .ret (.bf f l)
  | a => snap1 a
def snapAs : List AV → RM (List AV)
  | [] => .ret []
  | a :: r => (snapA a).bind fun x => (snapAs r).bind fun l => .ret (x :: l)
def AV.id1 : AV → List Nat
  | .own id _ _ _ => [id]
  | .ref id _ _ _ => [id]
  | _ => []
def AV.ids : AV → List Nat
  | .agg cs => cs.flatMap AV.id1
  | .fn _ cs => cs.flatMap AV.id1
  | .bf _ cs => cs.flatMap AV.id1
  | a => a.id1
/-- It names no block at all. -/
def AV.nob1 : AV → Bool
  | .v _ | .emp | .dead => true
  | .fn _ caps => caps.isEmpty
  | _ => false
def AV.nob2 : AV → Bool
  | .agg cs => cs.all AV.nob1
  | a => a.nob1
def AV.nob : AV → Bool
  | .tup vs => vs.all AV.nob2
  | a => a.nob2
/-- The environment of a call that sees no own block. -/
def E0 (w : World) (I : Nat → Prop) : Env := ⟨w, fun _ => False, fun _ => none, fun _ => False, I, fun _ => 0, fun _ => False⟩
theorem GlE.sub {E : Env} {w : World} {I : Nat → Prop} (h : GlE E) (hw : E.w = w) (hI : ∀ b, E.I b → I b) : GlE (E0 w I) := ⟨hI _ h.1, fun i v hv => by subst hw; exact h.2 i v hv⟩
/-- The function f answers r to these arguments, whatever the world. -/
def Fn (P : Program) (f : FuncId) (as : List AV) (r : AV) : Prop :=
  ∀ (w : World) (J : Nat → Prop) (vs : Array Value), (∀ b, J b → b < w.heap.size) → GlE (E0 w J) → RC (E0 w J) vs as →
    Calls P f vs w fun e w' => ∃ v, e = .returned v ∧ Rep (E0 w' fun b => J b ∨ (w.heap.size ≤ b ∧ b < w'.heap.size)) v r ∧ Below w.heap.size w w'
section
variable {P : Program} {E : Env} {J : Nat → Prop} {base : Nat} {g : Nat → Option Bk}
theorem Rep.nob1 {E' : Env} {v : Value} {a : AV} (h : Rep E v a) (hn : a.nob1 = true) : Rep E' v a := by
  cases h <;> simp [AV.nob1] at hn
  · exact .v (by assumption)
  · exact .emp
  · rename_i f vs cs hl h
    subst hn
    exact .fn hl (fun i v c hv hc => by simp at hc)
  · exact .dead
theorem Rep.nob2 {E' : Env} {v : Value} {a : AV} (h : Rep E v a) (hn : a.nob2 = true) : Rep E' v a := by
  cases a with
  | agg cs => cases h with
    | agg hl h =>
      simp only [AV.nob2, List.all_eq_true] at hn
      exact .agg hl fun i v c hv hc => (h i v c hv hc).nob1 (hn c (List.mem_of_getElem? hc))
  | _ => exact h.nob1 (by simpa [AV.nob2] using hn)
theorem Rep.nob {E' : Env} {v : Value} {a : AV} (h : Rep E v a) (hn : a.nob = true) : Rep E' v a := by
  cases a with
  | tup cs => cases h with
    | tup hl h =>
      simp only [AV.nob, List.all_eq_true] at hn
      exact .tup hl fun i v c hv hc => (h i v c hv hc).nob2 (hn c (List.mem_of_getElem? hc))
  | _ => exact h.nob2 (by simpa [AV.nob] using hn)
/-- The blocks that nobody turns, and those of the own slices that are handed over. -/
def Handed (E : Env) (g : Nat → Option Bk) (ids : List Nat) (b : Nat) : Prop := E.I b ∨ ∃ id B, id ∈ ids ∧ g id = some B ∧ E.loc id = some b
theorem snap1_rep (hm : MemAt E J base g) (I : Nat → Prop) {v : Value} {a a' : AV} (h : Rep E v a) (hs : (snap1 a).run g = some a') (hI : ∀ b, Handed E g a.id1 b → I b) : Rep (E0 E.w I) v a' := by
  have pure : ∀ {v : Value} {a : AV}, (∀ b, E.I b → I b) → Rep E v a → Pu a → Rep (E0 E.w I) v a := fun hI h hp => h.pure (E' := E0 E.w I) (fun b hb => ⟨hI b hb, fun _ => rfl⟩) hp
  have hI0 : ∀ b, E.I b → I b := fun b hb => hI b (.inl hb)
  have other : (if a.pu1 = true then RM.ret a else RM.fail).run g = some a' → Rep (E0 E.w I) v a' := by
    intro hs
    split at hs
    · rename_i hp
      simp only [RM.run, Option.some.injEq] at hs; subst hs
      exact pure hI0 h (AV.pu1_pu hp)
    · simp [RM.run] at hs
  cases a with
  | own id sz off n =>
    simp only [snap1] at hs
    obtain ⟨els, h1, h2⟩ := bind_run hs
    split at h2
    · rename_i hall
      simp only [RM.run, Option.some.injEq] at h2; subst h2
      simp only [content, RM.run] at h1
      cases hB : g id with
      | none => simp [hB] at h1
      | some B =>
        simp only [hB] at h1
        split at h1
        · rename_i hc
          obtain ⟨-, hBs, hfit⟩ := hc
          simp only [RM.run, Option.some.injEq] at h1; subst h1
          have hlen : ((B.els.drop off).take n).length = n := by simp; omega
          cases h with
          | staleO hi hd => exact absurd hd (alive hm hB)
          | own0 hi hd hb =>
            have : (B.els.drop 0).take 0 = [] := by simp
            rw [this]
            exact .lst0 (by omega)
          | @own _ _ _ _ c b q mm t' hi hd hb hq hs' hmm hl hcc =>
            rcases Nat.eq_zero_or_pos n with h0 | h0
            · subst h0
              rw [List.take_zero]
              exact .lst0 hcc
            · have hq' : q = off * sz := by
                rcases hq with hq | hq
                · exact hq
                · omega
              subst hq'
              have hblk := hm.at_ id B hB
              rw [hb] at hblk
              obtain ⟨hbase, arr, t, ha, hfit2, hcells⟩ := hblk.cells (by first | assumption | omega)
              rw [hBs] at hcells
              have get : ∀ (i : Nat) cs (j : Nat) x, ((B.els.drop off).take n)[i]? = some cs → cs[j]? = some x → ∃ u, E.w.cell? ⟨b, off * sz + i * sz + j, none⟩ = some u ∧ u.oneCell' = true ∧ Rep E u x := by
                intro i cs j x hi hj
                rw [List.getElem?_take] at hi
                split at hi
                · rw [List.getElem?_drop] at hi
                  obtain ⟨u, k1, k2, k3⟩ := (hcells _ cs hi).2 j x hj
                  refine ⟨u, ?_, k2, k3⟩
                  rw [cell_of_row _ _ _ _ _ _ ha]
                  rw [Nat.add_mul] at k1
                  exact k1
                · simp at hi
              refine .lst1 (fun i j => (E.w.cell? ⟨b, off * sz + i * sz + j, none⟩).getD undef) hlen.symm hl hcc (hI b (.inr ⟨id, B, by simp [AV.id1], hB, hb⟩)) (fun i cs hi => ?_) (fun i cs j x hi hj => ?_) (fun i cs j x hi hj => ?_) (fun i cs j x hi hj => ?_)
              · rw [List.getElem?_take] at hi
                split at hi
                · rw [List.getElem?_drop] at hi
                  exact (hcells _ cs hi).1
                · simp at hi
              · obtain ⟨u, k1, _, _⟩ := get i cs j x hi hj
                show E.w.cell? _ = _
                rw [k1]; rfl
              all_goals
                obtain ⟨u, k1, k2, k3⟩ := get i cs j x hi hj
                have hp : Pu x := by
                  simp only [List.all_eq_true] at hall
                  exact AV.pu1_pu (hall cs (List.mem_of_getElem? hi) x (List.mem_of_getElem? hj))
                simp only [k1, Option.getD_some]
                first
                | exact ⟨k2, hp⟩
                | exact pure hI0 k3 hp
        · simp [RM.run] at h1
    · simp [RM.run] at h2
  | ref id sz i o =>
    simp only [snap1, RM.run] at hs
    cases hB : g id with
    | none => simp [hB] at hs
    | some B =>
      simp only [hB] at hs
      split at hs
      · rename_i hsz
        split at hs
        · rename_i cs hcs
          split at hs
          · rename_i hall
            simp only [RM.run, Option.some.injEq] at hs; subst hs
            cases h with
            | staleR hi hd => exact absurd hd (alive hm hB)
            | @ref _ _ _ _ b q hi hd hb hq =>
              have hblk := hm.at_ id B hB
              rw [hb] at hblk
              obtain ⟨hbase, arr, t, ha, hfit2, hcells⟩ := hblk.cells (by first | assumption | omega)
              rw [hsz] at hcells
              have get : ∀ (j : Nat) x, cs[j]? = some x → ∃ u, E.w.cell? ⟨b, i * sz + j, none⟩ = some u ∧ Rep E u x := by
                intro j x hj
                obtain ⟨u, k1, k2, k3⟩ := (hcells i cs hcs).2 j x hj
                exact ⟨u, by rw [cell_of_row _ _ _ _ _ _ ha]; exact k1, k3⟩
              have hp : ∀ (j : Nat) x, cs[j]? = some x → Pu x := fun j x hj => by
                simp only [List.all_eq_true] at hall
                exact AV.pu1_pu (hall x (List.mem_of_getElem? hj))
              refine .pim (off := i * sz) (fun j => (E.w.cell? ⟨b, i * sz + j, none⟩).getD undef) (hI b (.inr ⟨id, B, by simp [AV.id1], hB, hb⟩)) hq (fun j x hj => ?_) hp (fun j x hj => ?_)
              · obtain ⟨u, k1, _⟩ := get j x hj
                show E.w.cell? _ = _
                rw [k1]; rfl
              · obtain ⟨u, k1, k3⟩ := get j x hj
                simp only [k1, Option.getD_some]
                exact pure hI0 k3 (hp j x hj)
          · simp [RM.run] at hs
        · simp [RM.run] at hs
      · simp [RM.run] at hs
  | _ => exact other hs
theorem snapL_rep (hm : MemAt E J base g) (I : Nat → Prop) : ∀ {as as' : List AV}, (snapL as).run g = some as' → (∀ b, Handed E g (as.flatMap AV.id1) b → I b) → as'.length = as.length ∧ ∀ (i : Nat) v c c', Rep E v c → as[i]? = some c → as'[i]? = some c' → Rep (E0 E.w I) v c'
  | [], as', h, _ => by
    simp only [snapL, RM.run, Option.some.injEq] at h; subst h
    exact ⟨rfl, fun i v c c' _ hc => by simp at hc⟩
  | a :: r, as', h, hI => by
    simp only [snapL] at h
    obtain ⟨x, h1, h⟩ := bind_run h
    obtain ⟨l, h2, h⟩ := bind_run h
    simp only [RM.run, Option.some.injEq] at h; subst h
    have hI1 : ∀ b, Handed E g a.id1 b → I b := fun b hb => hI b (hb.imp id fun ⟨id, B, hi, hh⟩ => ⟨id, B, by simp [hi], hh⟩)
    have hI2 : ∀ b, Handed E g (r.flatMap AV.id1) b → I b := fun b hb => hI b (hb.imp id fun ⟨id, B, hi, hh⟩ => ⟨id, B, by simp only [List.flatMap_cons, List.mem_append]; exact .inr hi, hh⟩)
    have ih := snapL_rep hm I h2 hI2
    refine ⟨by simp [ih.1], fun i v c c' hr hc hc' => ?_⟩
    cases i with
    | zero => simp at hc hc'; subst hc; subst hc'; exact snap1_rep hm I hr h1 hI1
    | succ i => simp at hc hc'; exact ih.2 i v c c' hr hc hc'
theorem snapA_rep (hm : MemAt E J base g) (I : Nat → Prop) {v : Value} {a a' : AV} (h : Rep E v a) (hs : (snapA a).run g = some a') (hI : ∀ b, Handed E g a.ids b → I b) : Rep (E0 E.w I) v a' := by
  cases a with
  | agg cs =>
    simp only [snapA] at hs
    obtain ⟨l, h1, h2⟩ := bind_run hs
    simp only [RM.run, Option.some.injEq] at h2; subst h2
    obtain ⟨k1, k2⟩ := snapL_rep hm I h1 hI
    cases h with
    | agg hl h =>
      refine .agg (by rw [k1]; exact hl) fun i v c hv hc => ?_
      have hi : i < cs.length := by rw [← k1]; exact (List.getElem?_eq_some_iff.1 hc).1
      exact k2 i v cs[i] c (h i v _ hv (List.getElem?_eq_getElem hi)) (List.getElem?_eq_getElem hi) hc
  | fn f cs =>
    simp only [snapA] at hs
    obtain ⟨l, h1, h2⟩ := bind_run hs
    simp only [RM.run, Option.some.injEq] at h2; subst h2
    obtain ⟨k1, k2⟩ := snapL_rep hm I h1 hI
    cases h with
    | fn hl h =>
      refine .fn (by rw [k1]; exact hl) fun i v c hv hc => ?_
      have hi : i < cs.length := by rw [← k1]; exact (List.getElem?_eq_some_iff.1 hc).1
      exact k2 i v cs[i] c (h i v _ hv (List.getElem?_eq_getElem hi)) (List.getElem?_eq_getElem hi) hc
  | bf f cs =>
    simp only [snapA] at hs
    obtain ⟨l, h1, h2⟩ := bind_run hs
    simp only [RM.run, Option.some.injEq] at h2; subst h2
    obtain ⟨k1, k2⟩ := snapL_rep hm I h1 hI
    cases h with
    | bf hl h =>
      refine .bf (by rw [k1]; exact hl) fun i v c hv hc => ?_
      have hi : i < cs.length := by rw [← k1]; exact (List.getElem?_eq_some_iff.1 hc).1
      exact k2 i v cs[i] c (h i v _ hv (List.getElem?_eq_getElem hi)) (List.getElem?_eq_getElem hi) hc
  | _ => exact snap1_rep hm I h hs hI
theorem snapAs_rep (hm : MemAt E J base g) (I : Nat → Prop) : ∀ {as as' : List AV}, (snapAs as).run g = some as' → (∀ b, Handed E g (as.flatMap AV.ids) b → I b) → as'.length = as.length ∧ ∀ (i : Nat) v c c', Rep E v c → as[i]? = some c → as'[i]? = some c' → Rep (E0 E.w I) v c'
  | [], as', h, _ => by
    simp only [snapAs, RM.run, Option.some.injEq] at h; subst h
    exact ⟨rfl, fun i v c c' _ hc => by simp at hc⟩
  | a :: r, as', h, hI => by
    simp only [snapAs] at h
    obtain ⟨x, h1, h⟩ := bind_run h
    obtain ⟨l, h2, h⟩ := bind_run h
    simp only [RM.run, Option.some.injEq] at h; subst h
    have hI1 : ∀ b, Handed E g a.ids b → I b := fun b hb => hI b (hb.imp id fun ⟨id, B, hi, hh⟩ => ⟨id, B, by simp [hi], hh⟩)
    have hI2 : ∀ b, Handed E g (r.flatMap AV.ids) b → I b := fun b hb => hI b (hb.imp id fun ⟨id, B, hi, hh⟩ => ⟨id, B, by simp only [List.flatMap_cons, List.mem_append]; exact .inr hi, hh⟩)
    have ih := snapAs_rep hm I h2 hI2
    refine ⟨by simp [ih.1], fun i v c c' hr hc hc' => ?_⟩
    cases i with
    | zero => simp at hc hc'; subst hc; subst hc'; exact snapA_rep hm I hr h1 hI1
    | succ i => simp at hc hc'; exact ih.2 i v c c' hr hc hc'
/-- The world grows; what was there stays. -/
theorem MemAt.grow (hm : MemAt E J base g) {w' : World} (hb : Below E.w.heap.size E.w w') :
    ∃ E' : Env, E'.w = w' ∧ E.Le E' ∧ MemAt E' J base g ∧ (∀ k, E'.kn k → E.kn k) ∧ (∀ b, E.I b ∨ (E.w.heap.size ≤ b ∧ b < w'.heap.size) → E'.I b) := by
  have hlt : ∀ id b B, g id = some B → E.loc id = some b → b < E.w.heap.size := fun id b B hg hb => by
    have := hm.at_ id B hg; rw [hb] at this; exact this.lt.2
  let E' : Env := { E with w := w', I := fun b => E.I b ∨ (E.w.heap.size ≤ b ∧ b < w'.heap.size) }
  have hE : E.Le E' := by
    refine ⟨fun _ h => h, fun b hb' => ⟨.inl hb', hb.block b (hm.low b hb').1⟩, fun _ _ h => h, fun _ _ _ => .inr rfl, fun id b hi hd hl => .inr ?_, fun _ _ _ => .inr rfl, fun _ h => h⟩
    obtain ⟨B, hB⟩ := (hm.live id).1 ⟨hi, hd⟩
    show w'.shape? b = _
    simp only [World.shape?, hb.block b (hlt id b B hB hl)]
  refine ⟨E', rfl, hE, ⟨hm.live, fun id B hg => (hm.at_ id B hg).keep hE fun b hl => hb.block b (hlt id b B hg hl), hm.apart, fun id b B hg hl hI => ?_, fun b hI => ?_, Nat.le_trans hm.size hb.size, hm.len, hm.rgb⟩, fun _ h => h, fun b h => h⟩
  · rcases hI with hI | hI
    · exact hm.out id b B hg hl hI
    · have := hlt id b B hg hl; omega
  · rcases hI with hI | hI
    · exact ⟨Nat.lt_of_lt_of_le (hm.low b hI).1 hb.size, (hm.low b hI).2⟩
    · exact ⟨hI.2, .inr (Nat.le_trans hm.size hI.1)⟩
/-- What becomes of own blocks in a call that sees none: those that were handed over go, if what comes back may name them. -/
def callUps (as : List AV) (r : AV) : List (Nat × Option Bk) := if r.nob = true then [] else (as.flatMap AV.ids).map fun id => (id, none)
/-- Behind a call. -/
theorem fn_sound (hG : GlE E) (hm : MemAt E J base g) {f : FuncId} {as as' : List AV} {r : AV} {vs : Array Value} (hvs : RC E vs as) (hs : (snapAs as).run g = some as') (hf : Fn P f as' r) (hids : ∀ id, id ∈ as.flatMap AV.ids → E.kn id) :
    Calls P f vs E.w fun e w' => ∃ v E', e = .returned v ∧ E'.w = w' ∧ E.Le E' ∧ Rep E' v r ∧ MemAt E' J base (gput g (callUps as r)) ∧ Below base E.w w' ∧ ∀ id, E'.kn id → E.kn id := by
  let I := Handed E g (as.flatMap AV.ids)
  have hIlt : ∀ b, I b → b < E.w.heap.size := fun b hb => by
    rcases hb with hb | ⟨id, B, _, hg, hl⟩
    · exact (hm.low b hb).1
    · have := hm.at_ id B hg; rw [hl] at this; exact this.lt.2
  have hrc : RC (E0 E.w I) vs as' := by
    obtain ⟨k1, k2⟩ := snapAs_rep hm I hs (fun b hb => hb)
    refine ⟨by rw [k1]; exact hvs.1, fun j u c hu hc => ?_⟩
    have hj : j < as.length := by rw [← k1]; exact (List.getElem?_eq_some_iff.1 hc).1
    exact k2 j u as[j] c (hvs.2 j u _ hu (List.getElem?_eq_getElem hj)) (List.getElem?_eq_getElem hj) hc
  refine (hf E.w I vs hIlt (hG.sub rfl fun b hb => .inl hb) hrc).mono ?_
  rintro e w' ⟨v, he, hr, hb⟩
  unfold callUps
  by_cases hn : r.nob = true
  · rw [if_pos hn]
    obtain ⟨E', hw, hE, hM, hk, _⟩ := hm.grow hb
    exact ⟨v, E', he, hw, hE, hr.nob hn, hM, hb.mono hm.size, hk⟩
  · rw [if_neg hn]
    obtain ⟨E1, hw1, hE1, hM1, hk1, hI1, hI2⟩ := hm.kill (as.flatMap AV.ids) hids
    have hb1 : Below E1.w.heap.size E1.w w' := by rw [hw1]; exact hb
    obtain ⟨E', hw, hE, hM, hk, hI⟩ := hM1.grow hb1
    refine ⟨v, E', he, hw, hE1.trans hE, ?_, hM, hb.mono hm.size, fun id h => hk1 _ (hk _ h)⟩
    refine hr.pure (E' := E') (fun b hb' => ?_) ?_
    · refine ⟨hI b ?_, fun o => by rw [hw]; rfl⟩
      rcases hb' with hb' | hb'
      · left
        rcases hb' with hb' | ⟨id, B, hid, hg, hl⟩
        · exact hI2 b hb'
        · exact hI1 id b B hid hg hl
      · right; rw [hw1]; exact hb'
    · clear hn hI hM hk hE hw hI1 hI2 hb1 hk1 hM1 hE1 hw1 hb he
      generalize (fun b => I b ∨ E.w.heap.size ≤ b ∧ b < w'.heap.size) = I' at hr
      have : ∀ {E : Env} {v : Value} {a : AV}, Rep E v a → (∀ id, ¬ E.kn id) → (∀ l, ¬ E.rg l) → Pu a := by
        intro E v a h hk hy
        induction h with
        | v h => exact .v
        | agg hl h ih =>
          refine .agg fun c hc => ?_
          obtain ⟨i, hi, rfl⟩ := List.getElem_of_mem hc
          exact ih i _ _ (Array.getElem?_eq_getElem (by omega)) (List.getElem?_eq_getElem hi)
        | tup hl h ih =>
          refine .tup fun c hc => ?_
          obtain ⟨i, hi, rfl⟩ := List.getElem_of_mem hc
          exact ih i _ _ (Array.getElem?_eq_getElem (by omega)) (List.getElem?_eq_getElem hi)
        | lst0 hc => exact .lst
        | lst1 => exact .lst
        | tls h ih => exact .tls
        | emp => exact .emp
        | pim => exact .pim
        | ref hi => exact absurd hi (hk _)
        | own hi => exact absurd hi (hk _)
        | own0 hi => exact absurd hi (hk _)
        | staleR hi => exact absurd hi (hk _)
        | staleO hi => exact absurd hi (hk _)
        | mp hi => exact absurd hi (hk _)
        | staleP hi => exact absurd hi (hk _)
        | fn hl h ih =>
          refine .fn fun c hc => ?_
          obtain ⟨i, hi, rfl⟩ := List.getElem_of_mem hc
          exact ih i _ _ (Array.getElem?_eq_getElem (by omega)) (List.getElem?_eq_getElem hi)
        | bf hl h ih =>
          refine .bf fun c hc => ?_
          obtain ⟨i, hi, rfl⟩ := List.getElem_of_mem hc
          exact ih i _ _ (Array.getElem?_eq_getElem (by omega)) (List.getElem?_eq_getElem hi)
        | yld hg => exact absurd hg (hy _)
        | anyb => exact .anyb
        | dead => exact .dead
      exact this hr (fun id h => h) (fun _ h => h)
/-- The function f answers a new list of its own. -/
def Fo (P : Program) (f : FuncId) (as : List AV) (sz : Nat) (els : List (List AV)) : Prop :=
  ∀ (w : World) (J : Nat → Prop) (vs : Array Value), (∀ b, J b → b < w.heap.size) → GlE (E0 w J) → RC (E0 w J) vs as →
    Calls P f vs w fun e w' => ∃ v E1, e = .returned v ∧ E1.w = w' ∧ Below w.heap.size w w' ∧ Rep E1 v (.own 0 sz 0 els.length) ∧ E1.kn 0 ∧ ¬ E1.dead 0 ∧ BlkAt E1 w.heap.size ⟨sz, els⟩ (E1.loc 0) ∧ E1.ln 0 = els.length
theorem fo_sound (hG : GlE E) (hm : MemAt E J base g) {f : FuncId} {as as' : List AV} {sz : Nat} {els : List (List AV)} {fresh : Nat} {vs : Array Value} (hvs : RC E vs as) (hs : (snapAs as).run g = some as') (hf : Fo P f as' sz els) (hnob : ∀ cs, cs ∈ els → ∀ c, c ∈ cs → c.nob1 = true) (hfr : ¬ E.kn fresh) :
    Calls P f vs E.w fun e w' => ∃ v E', e = .returned v ∧ E'.w = w' ∧ E.Le E' ∧ Rep E' v (.own fresh sz 0 els.length) ∧ MemAt E' J base (gput g [(fresh, some ⟨sz, els⟩)]) ∧ Below base E.w w' ∧ ∀ id, E'.kn id → E.kn id ∨ id = fresh := by
  let I := Handed E g (as.flatMap AV.ids)
  have hIlt : ∀ b, I b → b < E.w.heap.size := fun b hb => by
    rcases hb with hb | ⟨id, B, _, hg, hl⟩
    · exact (hm.low b hb).1
    · have := hm.at_ id B hg; rw [hl] at this; exact this.lt.2
  have hrc : RC (E0 E.w I) vs as' := by
    obtain ⟨k1, k2⟩ := snapAs_rep hm I hs (fun b hb => hb)
    refine ⟨by rw [k1]; exact hvs.1, fun j u c hu hc => ?_⟩
    have hj : j < as.length := by rw [← k1]; exact (List.getElem?_eq_some_iff.1 hc).1
    exact k2 j u as[j] c (hvs.2 j u _ hu (List.getElem?_eq_getElem hj)) (List.getElem?_eq_getElem hj) hc
  refine (hf E.w I vs hIlt (hG.sub rfl fun b hb => .inl hb) hrc).mono ?_
  rintro e w' ⟨v, E1, he, rfl, hb, hr, hk0, hd0, hblk, hln1⟩
  have hlt : ∀ id b B, g id = some B → E.loc id = some b → b < E.w.heap.size := fun id b B hg hb => by
    have := hm.at_ id B hg; rw [hb] at this; exact this.lt.2
  let E' : Env := { w := E1.w, kn := fun id => E.kn id ∨ id = fresh, loc := fun id => if id = fresh then E1.loc 0 else E.loc id, dead := fun id => E.dead id ∧ id ≠ fresh, I := E.I, ln := fun id => if id = fresh then els.length else E.ln id, rg := E.rg }
  have hne : ∀ id, E.kn id → id ≠ fresh := fun id hi he => hfr (he ▸ hi)
  have hE : E.Le E' := by
    refine ⟨fun id hi => .inl hi, fun b hb' => ⟨hb', hb.block b (hm.low b hb').1⟩, fun id hi hd => ⟨hd, hne id hi⟩, fun id hi hd => .inr (if_neg (hne id hi)), fun id b hi hd hl => .inr ?_, fun id hi hd => .inr (if_neg (hne id hi)), fun _ h => h⟩
    obtain ⟨B', hB'⟩ := (hm.live id).1 ⟨hi, hd⟩
    show E1.w.shape? b = _
    simp only [World.shape?, hb.block b (hlt id b B' hB' hl)]
  have hk' : E'.kn fresh := .inr rfl
  have hd' : ¬ E'.dead fresh := fun hd => hd.2 rfl
  have hl' : E'.loc fresh = E1.loc 0 := if_pos rfl
  have hsz0 : sz ≠ 0 := hr.own_sz hd0
  have hnew : ∀ b, E1.loc 0 = some b → E.w.heap.size ≤ b ∧ b < E1.w.heap.size := fun b hl => by rw [hl] at hblk; exact hblk.lt
  refine ⟨v, E', he, rfl, hE, ?_, ⟨fun id => ?_, fun id B' hg => ?_, fun id id' b B1 B2 h1 h2 h3 h4 => ?_, fun id b B' hg hb' hI => ?_, fun b hb' => ⟨Nat.lt_of_lt_of_le (hm.low b hb').1 hb.size, (hm.low b hb').2⟩, Nat.le_trans hm.size hb.size, fun id B' hg hzz => ?_, hm.rgb⟩, hb.mono hm.size, fun id hi => hi⟩
  · obtain ⟨n, hn⟩ : ∃ n, n = els.length := ⟨_, rfl⟩
    rw [← hn] at hr ⊢
    cases hr with
    | own hi hd hl hq hs hmm hlc hcc hlnn => exact .own hk' hd' (hl'.trans hl) hq hs hmm hlc hcc (by rw [show E'.ln fresh = els.length from if_pos rfl, ← hln1]; exact hlnn)
    | own0 hi hd hl hlnn => exact .own0 hk' hd' (hl'.trans hl) ((show E'.ln fresh = els.length from if_pos rfl).trans (hln1.symm.trans hlnn))
    | staleO hi hd => exact absurd hd hd0
  · simp only [gput]
    by_cases hid : id = fresh
    · subst hid; simp [E']
    · simp only [hid, if_false]
      rw [← hm.live id]
      simp [E', hid]
  · simp only [gput] at hg
    by_cases hid : id = fresh
    · subst hid
      simp only [if_true, Option.some.injEq] at hg
      subst hg
      rw [hl']
      cases hl : E1.loc 0 with
      | none => rw [hl] at hblk; exact hblk
      | some b =>
        rw [hl] at hblk
        obtain ⟨q1, arr, t, q2, q3, q4⟩ := hblk.cells hsz0
        refine .ofCells ⟨Nat.le_trans hm.size q1, arr, t, q2, q3, fun i cs hi => ⟨(q4 i cs hi).1, fun j x hj => ?_⟩⟩ hsz0
        obtain ⟨u, u1, u2, u3⟩ := (q4 i cs hi).2 j x hj
        exact ⟨u, u1, u2, u3.nob1 (hnob cs (List.mem_of_getElem? hi) x (List.mem_of_getElem? hj))⟩
    · simp only [hid, if_false] at hg
      show BlkAt E' base B' (if id = fresh then _ else _)
      rw [if_neg hid]
      exact (hm.at_ id B' hg).keep hE fun b hl => hb.block b (hlt id b B' hg hl)
  · simp only [gput] at h1 h2
    have e3 : (if id = fresh then E1.loc 0 else E.loc id) = some b := h3
    have e4 : (if id' = fresh then E1.loc 0 else E.loc id') = some b := h4
    by_cases hid : id = fresh <;> by_cases hid' : id' = fresh
    · rw [hid, hid']
    · rw [if_pos hid] at e3; rw [if_neg hid'] at e4 h2
      have := hlt _ _ _ h2 e4
      have := hnew b e3
      omega
    · rw [if_neg hid] at e3 h1; rw [if_pos hid'] at e4
      have := hlt _ _ _ h1 e3
      have := hnew b e4
      omega
    · rw [if_neg hid] at e3 h1; rw [if_neg hid'] at e4 h2
      exact hm.apart id id' b B1 B2 h1 h2 e3 e4
  · simp only [gput] at hg
    have e3 : (if id = fresh then E1.loc 0 else E.loc id) = some b := hb'
    have := (hm.low b hI).1
    by_cases hid : id = fresh
    · rw [if_pos hid] at e3
      have := hnew b e3
      omega
    · rw [if_neg hid] at e3 hg
      exact hm.out id b B' hg e3 hI
  · simp only [gput] at hg
    show _ = if id = fresh then _ else _
    by_cases hid : id = fresh
    · rw [if_pos hid] at hg ⊢
      simp only [Option.some.injEq] at hg; rw [← hg]
    · rw [if_neg hid] at hg ⊢
      exact hm.len id B' hg hzz
end
end Go.Proofs.YtgepadjkegfokaaDoor
