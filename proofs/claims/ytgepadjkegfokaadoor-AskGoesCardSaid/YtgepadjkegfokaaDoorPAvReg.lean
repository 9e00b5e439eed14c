/- Regions of operations upon abstract values, one behind the other. No condition. -/
import Derived.Test.YtgepadjkegfokaaDoorPAvCall
import Derived.OrdersIn
import Derived.OwnWalkIn
import Derived.RangeFuncOwn
import Derived.RangeFuncLeaves
set_option linter.unusedSimpArgs false
set_option linter.unusedVariables false
namespace Go.Proofs.YtgepadjkegfokaaDoor
set_option linter.unusedSimpArgs false
set_option linter.unusedVariables false
open Go.RowKit
/-- The fence: none; in a round of a range over a function, or not. -/
def rnd (ρ : Option Nat) : Fence := { Fence.wide with round := ρ }
theorem rnd_depth {ρ : Option Nat} {n : Nat} : (rnd ρ).depth.isSome = true → 1 ≤ n := fun h => by simp [rnd, Fence.wide] at h
theorem rnd_out {P : Program} {ρ : Option Nat} {o : Oper} {w : World} {e : Operand → Value} : ∀ f, o.about P w e = some f → (rnd ρ).fn f := fun _ _ => trivial
theorem calls_rnd {ρ : Option Nat} {n : Nat} {P : Program} {f : FuncId} {args : Array Value} {w : World} {R : Ending → World → Prop} (h : Calls P f args w R) : CallsIn (rnd ρ) n P f args w R := (callsIn_wide (n := n)).2 h
theorem cOp_nodefer {P : Program} {o : Oper} {ao : AO} (h : cOp P o = some ao) : ∀ c, o.op ≠ .defer c := by
  intro c hc
  obtain ⟨dst, op, type, pos, after, guard⟩ := o
  simp only at hc
  subst hc
  simp [cOp] at h
/-- Marks of ranges over functions that are over: blocks that hold no call. -/
inductive Mk (E : Env) (lo : Nat) : List Deferred → Prop
  | nil : Mk E lo []
  | cons {D : Nat} {ds : List Deferred} (hI : E.I D) (hD : lo ≤ D) (hh : E.w.heap[D]? = some (.deferred (some []))) (hne : ∀ d, d ∈ ds → d.target ≠ .collected D) (t : Mk E lo ds) : Mk E lo ({ target := .collected D, args := #[] } :: ds)
theorem Mk.step {E E' : Env} (hE : E.Le E') {lo : Nat} {ds : List Deferred} (h : Mk E lo ds) : Mk E' lo ds := by
  induction h with
  | nil => exact .nil
  | cons hI hD hh hne t ih => exact .cons (hE.imm _ hI).1 hD ((hE.imm _ hI).2.trans hh) hne ih
theorem Mk.step' {E E' : Env} (hE : ∀ b, E.I b → E'.I b ∧ E'.w.heap[b]? = E.w.heap[b]?) {lo : Nat} {ds : List Deferred} (h : Mk E lo ds) : Mk E' lo ds := by
  induction h with
  | nil => exact .nil
  | cons hI hD hh hne t ih => exact .cons (hE _ hI).1 hD ((hE _ hI).2.trans hh) hne ih
theorem Mk.lt {E : Env} {lo : Nat} {ds : List Deferred} (h : Mk E lo ds) : ∀ d, d ∈ ds → ∀ D, d.target = .collected D → D < E.w.heap.size := by
  induction h with
  | nil => intro d hd; simp at hd
  | @cons D ds hI hD hh hne t ih =>
    intro d hd D' hD'
    rcases List.mem_cons.1 hd with rfl | hd
    · simp only [Target.collected.injEq] at hD'; subst hD'
      exact (Array.getElem?_eq_some_iff.1 hh).1
    · exact ih d hd D' hD'
/-- Only the names below kb. -/
def Env.lt (E : Env) (kb : Nat) : Env := { E with kn := fun id => E.kn id ∧ id < kb }
theorem Env.Le.cut {E0 E E' : Env} (h : E0.Le E) {kb : Nat} (hk : ∀ id, E0.kn id → id < kb) (k : (E.lt kb).Le E') : E0.Le E' :=
  Env.Le.trans (E' := E.lt kb) ⟨fun id hi => ⟨h.kn id hi, hk id hi⟩, h.imm, h.dead, h.loc, h.shape, h.ln, h.rg⟩ k
/-- It names nothing from kb on. -/
def nb (kb : Nat) : Nat → AV → Bool
  | 0, _ => false
  | d + 1, .agg cs => cs.all (nb kb d)
  | d + 1, .tup cs => cs.all (nb kb d)
  | d + 1, .fn _ cs => cs.all (nb kb d)
  | d + 1, .bf _ cs => cs.all (nb kb d)
  | d + 1, .yld _ cs => cs.all (nb kb d)
  | _ + 1, .ref id _ _ _ => Nat.blt id kb
  | _ + 1, .own id _ _ _ => Nat.blt id kb
  | _ + 1, .mp id => Nat.blt id kb
  | _ + 1, _ => true
theorem Rep.stepB {E E' : Env} {kb : Nat} (hE : (E.lt kb).Le E') : ∀ (d : Nat) {v : Value} {a : AV}, Rep E v a → nb kb d a = true → Rep E' v a := by
  have hI : ∀ b, E.I b → E'.I b ∧ ∀ o, E'.w.cell? ⟨b, o, none⟩ = E.w.cell? ⟨b, o, none⟩ := fun b hb => ⟨(hE.imm b hb).1, fun o => hE.cell (E := E.lt kb) hb o⟩
  intro d
  induction d with
  | zero => intro v a _ h; simp [nb] at h
  | succ d ih =>
    have ihm : ∀ {vs : Array Value} {cs : List AV}, (∀ (i : Nat) v c, vs[i]? = some v → cs[i]? = some c → Rep E v c) → cs.all (nb kb d) = true → ∀ (i : Nat) v c, vs[i]? = some v → cs[i]? = some c → Rep E' v c := by
      intro vs cs h hn i v c hv hc
      simp only [List.all_eq_true] at hn
      exact ih (h i v c hv hc) (hn c (List.mem_of_getElem? hc))
    intro v a h hn
    cases a with
    | v x => exact h.pure hI .v
    | agg cs => cases h with | agg hl hh => exact .agg hl (ihm hh hn)
    | tup cs => cases h with | tup hl hh => exact .tup hl (ihm hh hn)
    | fn f cs => cases h with | fn hl hh => exact .fn hl (ihm hh hn)
    | bf f cs => cases h with | bf hl hh => exact .bf hl (ihm hh hn)
    | yld r cs => cases h with | yld h1 h2 h3 hl hh => exact .yld (hE.rg _ h1) (hE.imm _ h2).1 ((hE.imm _ h2).2.trans h3) hl (ihm hh hn)
    | lst sz els => exact h.pure hI .lst
    | tls sz els => exact h.pure hI .tls
    | emp => exact h.pure hI .emp
    | pim cs o => exact h.pure hI .pim
    | anyb => exact h.pure hI .anyb
    | dead => exact .dead
    | ref id sz i o =>
      have hlt : id < kb := Nat.le_of_ble_eq_true hn
      have : Rep (E.lt kb) v (.ref id sz i o) := by
        cases h with
        | ref hi hd hb hq => exact .ref (E := E.lt kb) ⟨hi, hlt⟩ hd hb hq
        | staleR hi hd ho => exact .staleR (E := E.lt kb) ⟨hi, hlt⟩ hd ho
      exact this.step hE
    | mp id =>
      have hlt : id < kb := Nat.le_of_ble_eq_true hn
      have : Rep (E.lt kb) v (.mp id) := by
        cases h with
        | mp hi hd hb => exact .mp (E := E.lt kb) ⟨hi, hlt⟩ hd hb
        | staleP hi hd ho => exact .staleP (E := E.lt kb) ⟨hi, hlt⟩ hd ho
      exact this.step hE
    | own id sz off n =>
      have hlt : id < kb := Nat.le_of_ble_eq_true hn
      have : Rep (E.lt kb) v (.own id sz off n) := by
        cases h with
        | own hi hd hb hq hs hm hl hc hln => exact .own (E := E.lt kb) ⟨hi, hlt⟩ hd hb hq hs hm hl hc hln
        | own0 hi hd hb hln => exact .own0 (E := E.lt kb) ⟨hi, hlt⟩ hd hb hln
        | staleO hi hd ho => exact .staleO (E := E.lt kb) ⟨hi, hlt⟩ hd ho
      exact this.step hE
structure AOper where
  dst : Option Nat
  ao : AO
  guard : Option (Nat × Bool)
def cOper (P : Program) (ops : Array Oper) (o : Oper) : Option AOper :=
  match cOp P o with
  | some ao => match o.guard with
    | none => some ⟨o.dst, ao, none⟩
    | some (j, w) => match (ops[j]?).bind (·.dst) with
      | some t => some ⟨o.dst, ao, some (t, w)⟩
      | none => none
  | none => none
def argσ (σ : Nat → AV) : Arg → AV
  | .s t => σ t
  | .c a => a
def putσ (n : Nat) (d : Option Nat) (v : AV) (σ : Nat → AV) : Nat → AV := fun t => if d = some t ∧ t < n then v else σ t
/-- Is the operation done? None: nobody knows. -/
def guardA (σ : Nat → AV) : Option (Nat × Bool) → Option Bool
  | none => some true
  | some (t, w) => match σ t with
    | .v (.bool b) => some (b == w)
    | .v (.tuple _) => some false
    | _ => none
/-- One operation: what it answers, what becomes of own blocks, and which it looks at. -/
inductive OpRun (P : Program) (σ : Nat → AV) (g : Nat → Option Bk) (fresh : Nat) (o : AOper) : AV → List (Nat × Option Bk) → List Nat → Prop
  | skip (hg : guardA σ o.guard = some false) : OpRun P σ g fresh o (.v undef) [] []
  | done {val : AV} {ups : List (Nat × Option Bk)} (hg : guardA σ o.guard = some true) (h : (o.ao.sem fresh (argσ σ)).run g = some (.done val ups)) :
      OpRun P σ g fresh o val ups ((o.ao.sem fresh (argσ σ)).acc g ++ (o.ao.sem fresh (argσ σ)).see g)
  | call {f : FuncId} {as as' : List AV} {r : AV} (hg : guardA σ o.guard = some true) (h : (o.ao.sem fresh (argσ σ)).run g = some (.call f as)) (hc : callable P f = true)
      (hs : (snapAs as).run g = some as') (hf : Fn P f as' r) : OpRun P σ g fresh o r (callUps as r) (((o.ao.sem fresh (argσ σ)).acc g ++ (o.ao.sem fresh (argσ σ)).see g) ++ ((snapAs as).acc g ++ (snapAs as).see g))
  | callO {f : FuncId} {as as' : List AV} {sz : Nat} {els : List (List AV)} (hg : guardA σ o.guard = some true) (h : (o.ao.sem fresh (argσ σ)).run g = some (.call f as)) (hc : callable P f = true)
      (hs : (snapAs as).run g = some as') (hf : Fo P f as' sz els) (hn : ∀ cs, cs ∈ els → ∀ c, c ∈ cs → c.nob1 = true) : OpRun P σ g fresh o (.own fresh sz 0 els.length) [(fresh, some ⟨sz, els⟩)] (((o.ao.sem fresh (argσ σ)).acc g ++ (o.ao.sem fresh (argσ σ)).see g) ++ ((snapAs as).acc g ++ (snapAs as).see g))
theorem Args.of {E : Env} (hG : GlE E) {a : Act} {σ : Nat → AV} (h : ∀ t, Rep E (a.tmps.getD t undef) (σ t)) : Args E a.eval (argσ σ) := by
  intro x ax hx
  cases x with
  | tmp t => simp [cArg] at hx; subst hx; exact h t
  | const v =>
    simp only [cArg] at hx
    cases hc : ofConst v with
    | none => simp [hc] at hx
    | some c => simp [hc] at hx; subst hx; exact ofConst_rep hc
  | func f => simp [cArg] at hx; subst hx; exact func_rep f
  | global g =>
    simp only [cArg] at hx
    cases hc : glArg g with
    | none => simp [hc] at hx
    | some c => simp [hc] at hx; subst hx; exact hG.arg hc
/-- What is handed over was read. -/
theorem snap1_ids {g : Nat → Option Bk} {a a' : AV} (h : (snap1 a).run g = some a') : ∀ id, id ∈ a.id1 → ∃ B, g id = some B := by
  intro id hid
  cases a with
  | own id' sz off n =>
    simp only [AV.id1, List.mem_singleton] at hid
    subst hid
    simp only [snap1] at h
    obtain ⟨els, h1, _⟩ := bind_run h
    simp only [content, RM.run] at h1
    cases hB : g id with
    | none => simp [hB] at h1
    | some B => exact ⟨B, rfl⟩
  | ref id' sz i o =>
    simp only [AV.id1, List.mem_singleton] at hid
    subst hid
    simp only [snap1, RM.run] at h
    cases hB : g id with
    | none => simp [hB] at h
    | some B => exact ⟨B, rfl⟩
  | _ => simp [AV.id1] at hid
theorem snapL_ids {g : Nat → Option Bk} : ∀ {as as' : List AV}, (snapL as).run g = some as' → ∀ id, id ∈ as.flatMap AV.id1 → ∃ B, g id = some B
  | [], _, _, id, hid => by simp at hid
  | a :: r, as', h, id, hid => by
    simp only [snapL] at h
    obtain ⟨x, h1, h⟩ := bind_run h
    obtain ⟨l, h2, h⟩ := bind_run h
    simp only [List.flatMap_cons, List.mem_append] at hid
    rcases hid with hid | hid
    · exact snap1_ids h1 id hid
    · exact snapL_ids h2 id hid
theorem snapA_ids {g : Nat → Option Bk} {a a' : AV} (h : (snapA a).run g = some a') : ∀ id, id ∈ a.ids → ∃ B, g id = some B := by
  intro id hid
  cases a with
  | agg cs =>
    simp only [snapA] at h
    obtain ⟨l, h1, _⟩ := bind_run h
    exact snapL_ids h1 id hid
  | fn f cs =>
    simp only [snapA] at h
    obtain ⟨l, h1, _⟩ := bind_run h
    exact snapL_ids h1 id hid
  | bf f cs =>
    simp only [snapA] at h
    obtain ⟨l, h1, _⟩ := bind_run h
    exact snapL_ids h1 id hid
  | _ => simp only [snapA] at h; simp only [AV.ids] at hid; exact snap1_ids h id hid
theorem snapAs_ids {g : Nat → Option Bk} : ∀ {as as' : List AV}, (snapAs as).run g = some as' → ∀ id, id ∈ as.flatMap AV.ids → ∃ B, g id = some B
  | [], _, _, id, hid => by simp at hid
  | a :: r, as', h, id, hid => by
    simp only [snapAs] at h
    obtain ⟨x, h1, h⟩ := bind_run h
    obtain ⟨l, h2, h⟩ := bind_run h
    simp only [List.flatMap_cons, List.mem_append] at hid
    rcases hid with hid | hid
    · exact snapA_ids h1 id hid
    · exact snapAs_ids h2 id hid
section
variable {P : Program} {E : Env} {J : Nat → Prop} {base : Nat} {g : Nat → Option Bk} {σ : Nat → AV} {fresh : Nat}
theorem guard_sound {a : Act} (hs : ∀ t, Rep E (a.tmps.getD t undef) (σ t)) {ops : Array Oper} {op : Oper} {o : AOper} (hc : cOper P ops op = some o) {b : Bool} (hg : guardA σ o.guard = some b) : Region.wanted op (yielded ops a.tmps) = b := by
  unfold cOper at hc
  split at hc
  · rename_i ao h1
    split at hc
    · rename_i h2
      simp only [Option.some.injEq] at hc; subst hc
      simp only [guardA, Option.some.injEq] at hg; subst hg
      simp [Region.wanted, h2]
    · rename_i j w h2
      split at hc
      · rename_i t h3
        simp only [Option.some.injEq] at hc; subst hc
        simp only [guardA] at hg
        have ht := hs t
        simp only [Region.wanted, h2, yielded, h3, Option.bind_some]
        split at hg
        · rename_i b' hb'
          rw [hb'] at ht
          have := ht.v_inv
          simp only [Option.some.injEq] at hg; subst hg
          have hlt : t < a.tmps.size := by
            rcases Nat.lt_or_ge t a.tmps.size with h | h
            · exact h
            · simp [Array.getElem?_eq_none h, undef] at this
          have h5 : a.tmps[t]? = some (.bool b') := by
            rw [Array.getElem?_eq_getElem hlt]
            simpa [Array.getElem?_eq_getElem hlt] using this
          rw [h5]
          cases b' <;> cases w <;> rfl
        · rename_i vs hb'
          rw [hb'] at ht
          have := ht.v_inv
          simp only [Option.some.injEq] at hg; subst hg
          have h5 : a.tmps[t]? = none ∨ a.tmps[t]? = some (.tuple vs) := by
            rcases Nat.lt_or_ge t a.tmps.size with h | h
            · right
              rw [Array.getElem?_eq_getElem h]
              simpa [Array.getElem?_eq_getElem h] using this
            · left; exact Array.getElem?_eq_none h
          rcases h5 with h5 | h5 <;> rw [h5] <;> rfl
        · simp at hg
      · simp at hc
  · simp at hc
theorem cOper_inv {ops : Array Oper} {op : Oper} {o : AOper} (hc : cOper P ops op = some o) : o.dst = op.dst ∧ cOp P op = some o.ao := by
  unfold cOper at hc
  split at hc
  · rename_i ao h1
    split at hc
    · simp only [Option.some.injEq] at hc; subst hc; exact ⟨rfl, h1⟩
    · split at hc
      · simp only [Option.some.injEq] at hc; subst hc; exact ⟨rfl, h1⟩
      · simp at hc
  · simp at hc
/-- One operation, in the world. -/
theorem step_sound {a : Act} (hG : GlE E) (hs : ∀ t, Rep E (a.tmps.getD t undef) (σ t)) (hm : MemAt E J base g) (hf : ¬ E.kn fresh) {ops : Array Oper} {i : Nat} {op : Oper} (hi : ops[i]? = some op) {o : AOper} (hc : cOper P ops op = some o)
    {val : AV} {ups : List (Nat × Option Bk)} {acc : List Nat} (hr : OpRun P σ g fresh o val ups acc) {Q : Exit → Act → World → Prop} {K : Act → World → Prop}
    (hK : ∀ v E', E.Le E' → Rep E' v val → MemAt E' J base (gput g ups) → Below base E.w E'.w → (∀ id, E'.kn id → E.kn id ∨ id ∈ ups.map Prod.fst) → K (a.put o.dst v) E'.w) {rd : Option Nat} : wpOpIn (rnd rd) 0 P ops Q i K a E.w := by
  have hd : o.dst = op.dst ∧ cOp P op = some o.ao := by
    unfold cOper at hc
    split at hc
    · rename_i ao h1
      split at hc
      · simp only [Option.some.injEq] at hc; subst hc; exact ⟨rfl, h1⟩
      · split at hc
        · simp only [Option.some.injEq] at hc; subst hc; exact ⟨rfl, h1⟩
        · simp at hc
    · simp at hc
  have hsem : ∀ e, op.semAt (rnd rd).round e = execOp e op := fun e => Oper.semAt_plain (rnd rd) _ _ (cOp_nodefer hd.2)
  unfold wpOpIn
  simp only [hi]
  cases hr with
  | skip hg =>
    rw [guard_sound hs hc hg]
    simp only [Bool.false_eq_true, if_false]
    rw [← hd.1]
    exact ⟨rnd_out, hK undef E (Env.Le.refl E) (.v rfl) hm (Below.refl _ _) fun _ h => .inl h⟩
  | done hg h =>
    rw [guard_sound hs hc hg, if_pos rfl]
    obtain ⟨n, v, E', h1, h2, h3, h4, h5, h6, h7⟩ := op_sound (Args.of hG hs) (fun _ => rfl) hm hf hd.2 h
    have := hK v E' h3 h4 h5 h6 h7
    unfold Oper.wpIn
    rw [hsem, h1]
    rw [hd.1] at this
    rcases h2 with rfl | ⟨rfl, rfl⟩
    · exact ⟨rnd_out, this⟩
    · exact ⟨rnd_out, this⟩
  | @call f as as' r hg h hcl hsn hfn =>
    rw [guard_sound hs hc hg, if_pos rfl]
    obtain ⟨vs, h1, h2⟩ := call_sound (Args.of hG hs) hd.2 h hcl
    unfold Oper.wpIn
    rw [hsem, h1, Oper.uponIn_enter]
    refine ⟨rnd_out, rnd_depth, calls_rnd ((fn_sound hG hm h2 hsn hfn fun id hid => ?_).mono ?_)⟩
    · obtain ⟨B, hB⟩ := snapAs_ids hsn id hid
      exact ((hm.live id).2 ⟨B, hB⟩).1
    · rintro e w' ⟨v, E', rfl, rfl, k1, k2, k3, k4, k5⟩
      have := hK v E' k1 k2 k3 k4 fun id h => .inl (k5 id h)
      rw [hd.1] at this
      exact this
  | @callO f as as' sz els hg h hcl hsn hfn hnb =>
    rw [guard_sound hs hc hg, if_pos rfl]
    obtain ⟨vs, h1, h2⟩ := call_sound (Args.of hG hs) hd.2 h hcl
    unfold Oper.wpIn
    rw [hsem, h1, Oper.uponIn_enter]
    refine ⟨rnd_out, rnd_depth, calls_rnd ((fo_sound hG hm h2 hsn hfn hnb hf).mono ?_)⟩
    · rintro e w' ⟨v, E', rfl, rfl, k1, k2, k3, k4, k5⟩
      have := hK v E' k1 k2 k3 k4 fun id h => (k5 id h).imp (fun h => h) fun h => by simp [h]
      rw [hd.1] at this
      exact this
theorem put_rep {E' : Env} (hE : E.Le E') {a : Act} (hs : ∀ t, Rep E (a.tmps.getD t undef) (σ t)) {v : Value} {val : AV} (hv : Rep E' v val) (d : Option Nat) : ∀ t, Rep E' ((a.put d v).tmps.getD t undef) (putσ a.tmps.size d val σ t) := by
  intro t
  unfold putσ
  cases d with
  | none => simp only [Act.put, reduceCtorEq, false_and, if_false]; exact (hs t).step hE
  | some d =>
    simp only [Act.put, Option.some.injEq]
    by_cases h : d = t ∧ t < a.tmps.size
    · rw [if_pos h]
      obtain ⟨rfl, hlt⟩ := h
      simpa [hlt] using hv
    · rw [if_neg h]
      have : (a.tmps.setIfInBounds d v).getD t undef = a.tmps.getD t undef := by
        simp only [Array.getD_eq_getD_getElem?, Array.getElem?_setIfInBounds]
        by_cases hdt : d = t
        · subst hdt
          have : ¬ d < a.tmps.size := fun hl => h ⟨rfl, hl⟩
          simp [this]
        · simp [hdt]
      rw [this]; exact (hs t).step hE
theorem put_size (a : Act) (d : Option Nat) (v : Value) : (a.put d v).tmps.size = a.tmps.size ∧ (a.put d v).defers = a.defers := by
  cases d <;> simp [Act.put]
end
/-- The function f, called where the own memory is g, answers r and leaves g'. -/
def Fi (P : Program) (f : FuncId) (as : List AV) (g : Nat → Option Bk) (k : Nat) (r : AV) (g' : Nat → Option Bk) (k' : Nat) : Prop :=
  ∀ (E : Env) (J : Nat → Prop) (base : Nat) (vs : Array Value), GlE E → MemAt E J base g → (∀ id, E.kn id → id < k) → RC E vs as →
    Calls P f vs E.w fun e w' => ∃ v E', e = .returned v ∧ E'.w = w' ∧ E.Le E' ∧ Rep E' v r ∧ MemAt E' J base g' ∧ Below base E.w w' ∧ ∀ id, E'.kn id → id < k'
/-- A round of a range over a function, of the loop r: called with 'as' where the own memory is g, it goes on and leaves g'; names from kb on may stand for something else behind it. -/
def Yd (P : Program) (kb : Nat) (r : Loop) (caps as : List AV) (g : Nat → Option Bk) (k : Nat) (g' : Nat → Option Bk) (k' : Nat) : Prop :=
  r.params.size = as.length ∧ ∀ (E : Env) (J : Nat → Prop) (base l : Nat) (vs : Array Value), GlE E → MemAt E J base g → (∀ id, E.kn id → id < k) → E.rg l → RC E vs as → RC E r.tmps caps → E.I l → E.w.heap[l]? = some (.loop r) →
    RoundIn Fence.wide 0 P l r.fn ((r.params.zip vs).foldl (fun t (p, v) => t.setIfInBounds p v) r.tmps) r.assign r.body E.w fun e w' => e = .returned (.bool true) ∧ ∃ E', E'.w = w' ∧ (E.lt kb).Le E' ∧ MemAt E' J base g' ∧ Below base E.w w' ∧ ∀ id, E'.kn id → id < k'
theorem resolve_yield {ρv : Operand → Value} {P : Program} {l : Nat} {c : Call} {x : Operand} {ty : TypeId} (hc : c.callee = .value x) (hx : ρv x = .func (.yield l) #[] #[]) (w : World) :
    (do let d ← resolve ρv c ty; invoke d.target d.args : Sem Next).run P w = (Instr.yield l (c.args.map ρv)).run P w := by
  simp [resolve, hc, hx, Deferred.ofValue, invoke]
/-- All operations, one behind the other. -/
inductive OpsRun (P : Program) (n k0 : Nat) : List AOper → (Nat → AV) → (Nat → Option Bk) → Nat → (Nat → AV) → (Nat → Option Bk) → Nat → Prop
  | nil {σ : Nat → AV} {g : Nat → Option Bk} {k : Nat} : OpsRun P n k0 [] σ g k σ g k
  | cons {o : AOper} {os : List AOper} {σ σ' : Nat → AV} {g g' : Nat → Option Bk} {k k1 k' : Nat} {val : AV} {ups : List (Nat × Option Bk)} {acc : List Nat} (h : OpRun P σ g k o val ups acc) (hk : k ≤ k1) (hu : ∀ id, id ∈ ups.map Prod.fst → id < k1)
      (hr : OpsRun P n k0 os (putσ n o.dst val σ) (gput g ups) k1 σ' g' k') : OpsRun P n k0 (o :: os) σ g k σ' g' k'
  | inl {o : AOper} {os : List AOper} {σ σ' : Nat → AV} {g g1 g' : Nat → Option Bk} {k k1 k' : Nat} {f : FuncId} {as : List AV} {r : AV} (hg : guardA σ o.guard = some true) (h : (o.ao.sem k (argσ σ)).run g = some (.call f as)) (hc : callable P f = true)
      (hf : Fi P f as g k r g1 k1) (hr : OpsRun P n k0 os (putσ n o.dst r σ) g1 k1 σ' g' k') : OpsRun P n k0 (o :: os) σ g k σ' g' k'
  | yld {o : AOper} {os : List AOper} {σ σ' : Nat → AV} {g g1 g' : Nat → Option Bk} {k k1 k' : Nat} {x : Arg} {args : List Arg} {r : Loop} {caps : List AV} (hg : guardA σ o.guard = some true) (h : o.ao = .call x args) (hx : argσ σ x = .yld r caps)
      {kb : Nat} (hkb : k0 ≤ kb) (hnb : ∀ t, nb kb 6 (σ t) = true) (hy : Yd P kb r caps (args.map (argσ σ)) g k g1 k1) (hr : OpsRun P n k0 os (putσ n o.dst (.v (.bool true)) σ) g1 k1 σ' g' k') : OpsRun P n k0 (o :: os) σ g k σ' g' k'
/-- What holds of a frame and a world. -/
structure RelS (E0 : Env) (J : Nat → Prop) (base : Nat) (w0 : World) (n : Nat) (σ : Nat → AV) (g : Nat → Option Bk) (k : Nat) (a : Act) (w : World) : Prop where
  ex : ∃ E : Env, E.w = w ∧ E0.Le E ∧ (∀ t, Rep E (a.tmps.getD t undef) (σ t)) ∧ MemAt E J base g ∧ (∀ id, E.kn id → id < k) ∧ Mk E w0.heap.size a.defers
  size : a.tmps.size = n
  below : Below base w0 w
  gl : GlE E0
theorem opsRun_sound {rd : Option Nat} {P : Program} {E0 : Env} {n k0 : Nat} (hk0 : ∀ id, E0.kn id → id < k0) {ops : Array Oper} {J : Nat → Prop} {base : Nat} {w0 : World} {Q : Exit → Act → World → Prop} {os : List AOper} {σ σ' : Nat → AV} {g g' : Nat → Option Bk} {k k' : Nat} (h : OpsRun P n k0 os σ g k σ' g' k') :
    ∀ (i : Nat) (a : Act) (w : World), (∀ j, j < os.length → ∃ op, ops[i + j]? = some op ∧ ∃ o, os[j]? = some o ∧ cOper P ops op = some o) → RelS E0 J base w0 n σ g k a w → (∀ a w, RelS E0 J base w0 n σ' g' k' a w → Q .normal a w) → wpOpsIn (rnd rd) 0 P ops Q (List.range' i os.length) a w := by
  induction h with
  | nil => intro i a w _ hr hQ; exact hQ a w hr
  | @cons o os σ σ' g g' k k1 k' val ups acc h hk hu hr ih =>
    intro i a w hops hrel hQ
    rw [List.length_cons, List.range'_succ, wpOpsIn_cons]
    obtain ⟨op, h1, o', h2, h3⟩ := hops 0 (by simp)
    simp only [List.getElem?_cons_zero, Option.some.injEq] at h2
    subst h2
    rw [Nat.add_zero] at h1
    obtain ⟨E, rfl, hle, hs, hm, hkn, hmk⟩ := hrel.ex
    refine step_sound (hrel.gl.step hle) hs hm (fun hh => Nat.lt_irrefl _ (hkn k hh)) h1 h3 h fun v E' hE hv hM hB hkn' => ?_
    refine ih (i + 1) _ _ (fun j hj => ?_) ⟨⟨E', rfl, hle.trans hE, ?_, hM, fun id hid => ?_, ?_⟩, ?_, ?_, hrel.gl⟩ hQ
    · obtain ⟨op', m1, o', m2, m3⟩ := hops (j + 1) (by simp; omega)
      exact ⟨op', by rw [show i + 1 + j = i + (j + 1) by omega]; exact m1, o', by simpa using m2, m3⟩
    · have := put_rep hE hs hv o.dst
      rw [hrel.size] at this
      exact this
    · rcases hkn' id hid with h | h
      · exact Nat.lt_of_lt_of_le (hkn id h) hk
      · exact hu id h
    · rw [(put_size a o.dst v).2]; exact hmk.step hE
    · rw [(put_size a o.dst v).1]; exact hrel.size
    · exact hrel.below.trans hB
  | @inl o os σ σ' g g1 g' k k1 k' f as r hg h hcl hf hr ih =>
    intro i a w hops hrel hQ
    rw [List.length_cons, List.range'_succ, wpOpsIn_cons]
    obtain ⟨op, h1, o', h2, h3⟩ := hops 0 (by simp)
    simp only [List.getElem?_cons_zero, Option.some.injEq] at h2
    subst h2
    rw [Nat.add_zero] at h1
    obtain ⟨E, rfl, hle, hs, hm, hkn, hmk⟩ := hrel.ex
    have hd := cOper_inv h3
    have hsem : ∀ e, op.semAt (rnd rd).round e = execOp e op := fun e => Oper.semAt_plain (rnd rd) _ _ (cOp_nodefer hd.2)
    unfold wpOpIn
    simp only [h1]
    rw [guard_sound hs h3 hg, if_pos rfl]
    obtain ⟨vs, e1, e2⟩ := call_sound (Args.of (hrel.gl.step hle) hs) hd.2 h hcl
    unfold Oper.wpIn
    rw [hsem, e1, Oper.uponIn_enter]
    refine ⟨rnd_out, rnd_depth, calls_rnd ((hf E J base vs (hrel.gl.step hle) hm hkn e2).mono ?_)⟩
    rintro e w' ⟨v, E', rfl, rfl, q1, q2, q3, q4, q5⟩
    refine ih (i + 1) _ _ (fun j hj => ?_) ⟨⟨E', rfl, hle.trans q1, ?_, q3, q5, ?_⟩, ?_, ?_, hrel.gl⟩ hQ
    · obtain ⟨op', m1, o', m2, m3⟩ := hops (j + 1) (by simp; omega)
      exact ⟨op', by rw [show i + 1 + j = i + (j + 1) by omega]; exact m1, o', by simpa using m2, m3⟩
    · have := put_rep q1 hs q2 op.dst
      rw [hrel.size] at this
      rw [hd.1]
      exact this
    · rw [(put_size a op.dst v).2]; exact hmk.step q1
    · rw [(put_size a op.dst v).1]; exact hrel.size
    · exact hrel.below.trans q4
  | @yld o os σ σ' g g1 g' k k1 k' x args r caps hg h hx kb hkb hnb hy hr ih =>
    intro i a w hops hrel hQ
    rw [List.length_cons, List.range'_succ, wpOpsIn_cons]
    obtain ⟨op, h1, o', h2, h3⟩ := hops 0 (by simp)
    simp only [List.getElem?_cons_zero, Option.some.injEq] at h2
    subst h2
    rw [Nat.add_zero] at h1
    obtain ⟨E, rfl, hle, hs, hm, hkn, hmk⟩ := hrel.ex
    have hd := cOper_inv h3
    have hsem : ∀ e, op.semAt (rnd rd).round e = execOp e op := fun e => Oper.semAt_plain (rnd rd) _ _ (cOp_nodefer hd.2)
    have hcop := hd.2
    rw [h] at hcop
    obtain ⟨c, y, c1, c2, c3, c4⟩ := cOp_call hcop
    have hv := Args.of (hrel.gl.step hle) hs y x c3
    rw [hx] at hv
    obtain ⟨vv, hvv⟩ : ∃ vv, vv = a.eval y := ⟨_, rfl⟩
    rw [← hvv] at hv
    cases hv with
    | @yld l _ _ hrg hI hh hl hr' =>
      obtain ⟨al, ar⟩ := (Args.of (hrel.gl.step hle) hs).list c4
      have hyl := run_yield (P := P) (args := c.args.map a.eval) hh (by rw [hy.1]; simpa using al)
      have e1 : (execOp a.eval op).run P E.w = .ok (.round l r.fn ((r.params.zip (c.args.map a.eval)).foldl (fun t (p, v) => t.setIfInBounds p v) r.tmps) r.assign r.body) E.w := by
        unfold execOp
        simp only [c1]
        exact (resolve_yield c2 hvv.symm E.w).trans hyl
      unfold wpOpIn
      simp only [h1]
      rw [guard_sound hs h3 hg, if_pos rfl]
      unfold Oper.wpIn
      rw [hsem, e1, Oper.uponIn_round]
      refine ⟨rnd_out, rnd_depth, RoundIn.mono (hy.2 E J base l (c.args.map a.eval) (hrel.gl.step hle) hm hkn hrg ⟨by simpa using al, fun j u c hu hc => ar j u c (by simpa using hu) hc⟩ ⟨hl, hr'⟩ hI hh) ?_⟩
      rintro e w' ⟨rfl, E', rfl, q1, q3, q4, q5⟩
      refine ih (i + 1) _ _ (fun j hj => ?_) ⟨⟨E', rfl, hle.cut (fun id hi => Nat.lt_of_lt_of_le (hk0 id hi) hkb) q1, ?_, q3, q5, ?_⟩, ?_, ?_, hrel.gl⟩ hQ
      · obtain ⟨op', m1, o', m2, m3⟩ := hops (j + 1) (by simp; omega)
        exact ⟨op', by rw [show i + 1 + j = i + (j + 1) by omega]; exact m1, o', by simpa using m2, m3⟩
      · have := put_rep (E := E') (E' := E') (Env.Le.refl E') (fun t => (hs t).stepB q1 6 (hnb t)) (v := .bool true) (.v rfl) op.dst
        rw [hrel.size] at this
        rw [hd.1]
        exact this
      · rw [(put_size a op.dst _).2]; exact Mk.step' (E := E) q1.imm hmk
      · rw [(put_size a op.dst _).1]; exact hrel.size
      · exact hrel.below.trans q4
end Go.Proofs.YtgepadjkegfokaaDoor
