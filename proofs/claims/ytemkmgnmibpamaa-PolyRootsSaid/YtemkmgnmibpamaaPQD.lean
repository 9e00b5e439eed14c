/- What functions answer (contracts). No condition. -/
import Derived.Test.YtemkmgnmibpamaaPSxM
import Derived.Test.YtemkmgnmibpamaaPPolE
import Derived.Test.YtemkmgnmibpamaaPSxX
import Derived.Test.YtemkmgnmibpamaaRows
import Derived.WalkKit
import Derived.Handy
import Derived.ProofKit
import Derived.OpenShut
import Derived.ShutString
import Derived.ChangeOld
import Derived.Below
import Derived.Lib.Hide
import Derived.WalkLawsBesides
import Derived.WalkSpells
import Derived.Deep.QuietTactic
import Derived.BigQuiet
import Derived.Deep.OwnRows
import Derived.BigRegion
set_option linter.unusedSectionVars false
set_option linter.unusedSimpArgs false
set_option linter.unusedVariables false
set_option maxHeartbeats 4000000
set_option maxRecDepth 100000
namespace Go.Proofs.Ytemkmgnmibpamaa
open Go.RowKit
section
variable {F : Go.Fence} {m : Nat} {P : Program} {ops : Array Oper}
theorem wpIn_exit {Q Q' : Exit → Go.Act → World → Prop} (hq : ∀ e a w, e ≠ .normal → Q e a w → Q' e a w) {o : Oper} {a : Go.Act} {w : World} {K : Go.Act → World → Prop} (h : o.wpIn F m P a w K Q) : o.wpIn F m P a w K Q' := by
  unfold Oper.wpIn at *
  refine ⟨h.1, ?_⟩
  have hh := h.2
  generalize (o.semAt F.round a.eval).run P w = r at *
  cases r with
  | ok x w' =>
    cases x <;> simp only [Oper.uponIn] at hh ⊢ <;>
      first
        | exact hh
        | exact ⟨hh.1, CallsIn.mono hh.2 (fun e w'' he => by cases e <;> first | exact he | exact hq _ _ _ (by simp) he | (obtain ⟨a1, w1, h1⟩ := he; exact ⟨a1, w1, hq _ _ _ (by simp) h1⟩))⟩
        | exact ⟨hh.1, RoundIn.mono hh.2 (fun e w'' he => by cases e <;> first | exact he | exact hq _ _ _ (by simp) he | (obtain ⟨a1, w1, h1⟩ := he; exact ⟨a1, w1, hq _ _ _ (by simp) h1⟩))⟩
  | halt x w' => cases x <;> simp only [Oper.uponIn] at hh ⊢ <;> first | exact hh | exact hq _ _ _ (by simp) hh
theorem wpOpIn_exit {Q Q' : Exit → Go.Act → World → Prop} (hq : ∀ e a w, e ≠ .normal → Q e a w → Q' e a w) {i : Nat} {a : Go.Act} {w : World} {K : Go.Act → World → Prop} (h : wpOpIn F m P ops Q i K a w) : wpOpIn F m P ops Q' i K a w := by
  unfold wpOpIn at *
  split
  · rename_i ho; simpa [ho] using h
  · rename_i o ho
    simp only [ho] at h
    split
    · rename_i hw; simp only [hw, if_true] at h; exact wpIn_exit hq h
    · rename_i hw; simp only [hw] at h; exact h
theorem wpOpsIn_app {Q Q' : Exit → Go.Act → World → Prop} (hq : ∀ e a w, e ≠ .normal → Q e a w → Q' e a w) {l2 : List Nat} (hn : ∀ a w, Q .normal a w → wpOpsIn F m P ops Q' l2 a w) : ∀ {l1 : List Nat} {a : Go.Act} {w : World}, wpOpsIn F m P ops Q l1 a w → wpOpsIn F m P ops Q' (l1 ++ l2) a w
  | [], a, w, h => hn a w h
  | i :: l1, a, w, h => by
    rw [wpOpsIn_cons] at h
    rw [List.cons_append, wpOpsIn_cons]
    exact wpOpIn_exit hq (wpOpIn_mono (fun a w h => wpOpsIn_app hq hn h) h)
inductive PsRun (P : Program) (n k0 : Nat) : List (List AOper) → S3 → S3 → Prop
  | nil {s : S3} : PsRun P n k0 [] s s
  | cons {p : List AOper} {ps : List (List AOper)} {s t u s' : S3} (hw : s.Le k0 n t) (h : OpsRun P n k0 p t.σ t.g t.k u.σ u.g u.k) (r : PsRun P n k0 ps u s') : PsRun P n k0 (p :: ps) s s'
theorem psRun_sound {rd : Option Nat} {E0 : Env} {n k0 : Nat} (hk0 : ∀ id, E0.kn id → id < k0) {J : Nat → Prop} {base : Nat} {w0 : World} {Q : Exit → Go.Act → World → Prop} {ps : List (List AOper)} {s s' : S3} (h : PsRun P n k0 ps s s') :
    ∀ (i : Nat) (a : Go.Act) (w : World), (∀ j, j < ps.flatten.length → ∃ op, ops[i + j]? = some op ∧ ∃ o, ps.flatten[j]? = some o ∧ cOper P ops op = some o) → RelS E0 J base w0 n s.σ s.g s.k a w → (∀ a w, RelS E0 J base w0 n s'.σ s'.g s'.k a w → Q .normal a w) → wpOpsIn (rnd rd) 0 P ops Q (List.range' i ps.flatten.length) a w := by
  induction h with
  | nil => intro i a w _ hr hQ; exact hQ a w hr
  | @cons p ps s t u s' hw h r ih =>
    intro i a w hops hrel hQ
    rw [List.flatten_cons, List.length_append, ← List.range'_append_1]
    rw [List.flatten_cons, List.length_append] at hops
    refine wpOpsIn_app (Q := fun e a w => match e with | .normal => wpOpsIn (rnd rd) 0 P ops Q (List.range' (i + p.length) ps.flatten.length) a w | e => Q e a w) (fun e a w he hh => by cases e <;> first | exact hh | exact absurd rfl he) (fun a w hh => hh) ?_
    refine opsRun_sound hk0 h i a w (fun j hj => ?_) (hw E0 J base w0 a w hk0 hrel) fun a w hr => ?_
    · obtain ⟨op, q1, o, q2, q3⟩ := hops j (by omega)
      exact ⟨op, q1, o, by rwa [List.getElem?_append_left hj] at q2, q3⟩
    · refine ih (i + p.length) a w (fun j hj => ?_) hr hQ
      obtain ⟨op, q1, o, q2, q3⟩ := hops (p.length + j) (by omega)
      exact ⟨op, by rw [Nat.add_assoc]; exact q1, o, by rwa [List.getElem?_append_right (by omega), Nat.add_sub_cancel_left] at q2, q3⟩
theorem ED.regs {n k0 : Nat} {ps : List (List AOper)} {s s' : S3} (h : PsRun P n k0 ps s s') : ED P n k0 (.reg ps.flatten none) s .normal s' := by
  intro rd c E0 J base w0 a w hrd hc hk hr
  obtain ⟨id, ops, draw, rfl, h1, h2⟩ := cCode_reg hc
  rcases h2 with ⟨rfl, _⟩ | ⟨_, d, hd, _⟩
  · obtain ⟨k1, k2⟩ := cOpers_get h1
    refine wpIn_region ?_
    have hsz : ops.size = ps.flatten.length := by rw [← k1]; simp
    rw [List.range_eq_range', hsz]
    refine psRun_sound (ops := ops) hk h 0 a w (fun j hj => ?_) hr fun a' w' hr' => ⟨.normal, s', ⟨rfl, rfl⟩, rfl, hr'⟩
    have hjs : j < ops.size := by omega
    obtain ⟨o, m1, m2⟩ := k2 j ops[j] (by simp [hjs])
    exact ⟨ops[j], by rw [Nat.zero_add]; exact Array.getElem?_eq_getElem hjs, o, m1, m2⟩
  · simp at hd
end
section
variable {τ : Type} {dn : τ → Type}
def SS.sett (st : SS τ dn) (i : Nat) (v : SV τ dn) : SS τ dn := ⟨st.rt, st.rm, (i, v) :: st.t, st.m, st.nx⟩
def splW (i : Option Nat) (st : SS τ dn) (K : SS τ dn → Prop) : Prop := match i with
  | none => K st
  | some i => match st.gt i with
    | some (.vb c) => (c.tf true → K (st.sett i (.vt true))) ∧ (c.tf false → K (st.sett i (.vt false)))
    | _ => K st
theorem Rel.sett {D : TD τ dn} {N : Nms} {st : SS τ dn} {s : S3} (R : Rel D N st s) {i : Nat} {c : Cn} (h : st.gt i = some (.vb c)) {b : Bool} (hb : c.den = b) : Rel D N (st.sett i (.vt b)) s := by
  refine ⟨fun N' hN => ?_, R.inj, R.lt, R.ml, R.rl, R.sp⟩
  have A := R.at_ N' hN
  refine ⟨fun j v hv => ?_, A.rs, A.bl, A.rb, A.ar⟩
  simp only [SS.sett, getS_cons] at hv
  split at hv
  · rename_i e
    simp only [Option.some.injEq] at hv
    subst hv; subst e
    rw [A.gt h]
    simp only [SV.av, hb]
  · exact A.sl j v hv
theorem splW_ok {D : TD τ dn} {N : Nms} {i : Option Nat} {st : SS τ dn} {s : S3} {K : SS τ dn → Prop} (R : Rel D N st s) (h : splW i st K) : ∃ st', Rel D N st' s ∧ st'.rt = st.rt ∧ st'.rm = st.rm ∧ st'.nx = st.nx ∧ K st' := by
  unfold splW at h
  split at h
  · exact ⟨st, R, rfl, rfl, rfl, h⟩
  · split at h
    · rename_i j c hc
      cases hd : c.den with
      | true => exact ⟨_, R.sett hc hd, rfl, rfl, rfl, h.1 ((Cn.tf_iff c true).2 hd)⟩
      | false => exact ⟨_, R.sett hc hd, rfl, rfl, rfl, h.2 ((Cn.tf_iff c false).2 hd)⟩
    · exact ⟨st, R, rfl, rfl, rfl, h⟩
end
section
variable {τ : Type} {dn : τ → Type} [DecidableEq τ]
inductive LA (τ : Type) (dn : τ → Type) where
  | inv (vs : List (VK τ)) (I : VT dn vs → VT dn vs → Prop) (m : VT dn vs → VT dn vs → Nat)
  | unr (m : Nat)
  | frz (ss : List Nat)
  | spl (i : Nat)
  | cut (vs : List (VK τ)) (I : VT dn vs → VT dn vs → Prop)
  | eq (i : Nat) (z : Int)
  | tkn (i : Nat)
  | unc (f : Nat)
def frzOf (an : Nat → Option (LA τ dn)) (os : List AOper) : List Nat := os.flatMap fun o => match o.dst with
  | some d => match an (1000 + d) with
    | some (.frz ss) => ss
    | _ => []
  | none => []
def frzB (an : Nat → Option (LA τ dn)) (os : List AOper) : Bool := (frzOf an os).all fun i => Nat.blt i 5000
def splOf (an : Nat → Option (LA τ dn)) (os : List AOper) : Option Nat := match os with
  | o :: _ => match o.dst with
    | some d => match an (3000 + d) with
      | some (.spl i) => some i
      | _ => none
    | none => none
  | [] => none
def cutB (an : Nat → Option (LA τ dn)) (o : AOper) : Bool := match o.dst with
  | some d => (match an (11000 + d) with | some (.unc _) => true | _ => false) || (match an (9000 + d) with | some (.tkn _) => true | _ => false) || (match an (7000 + d) with | some (.eq _ _) => true | _ => false) || (match an (5000 + d) with | some (.cut _ _) => true | _ => false) || (match an (1000 + d) with | some (.frz _) => true | _ => false) || (match an (3000 + d) with | some (.spl _) => true | _ => false)
  | none => false
def pieces (an : Nat → Option (LA τ dn)) : List AOper → List (List AOper)
  | [] => []
  | o :: os => match pieces an os with
    | [] => [[o]]
    | [] :: ps => [o] :: ps
    | (p :: q) :: ps => bif cutB an p then [o] :: (p :: q) :: ps else (o :: p :: q) :: ps
omit [DecidableEq τ] in
theorem pieces_flat (an : Nat → Option (LA τ dn)) : ∀ os : List AOper, (pieces an os).flatten = os
  | [] => rfl
  | o :: os => by
    have ih := pieces_flat an os
    unfold pieces
    split
    · rename_i h; rw [h] at ih; simp at ih; simp [ih]
    · rename_i h; rw [h] at ih; simp at ih; simp [ih]
    · rename_i h
      rw [h] at ih
      cases hb : cutB an _ with
      | true => rw [cond_true, List.flatten_cons, ih]; rfl
      | false => rw [cond_false, List.flatten_cons, List.cons_append, ← List.flatten_cons, ih]
def cutOf (an : Nat → Option (LA τ dn)) (os : List AOper) : Option ((vs : List (VK τ)) × (VT dn vs → VT dn vs → Prop)) := match os with
  | o :: _ => match o.dst with
    | some d => match an (5000 + d) with
      | some (.cut vs I) => some ⟨vs, I⟩
      | _ => none
    | none => none
  | [] => none
def eqOf (an : Nat → Option (LA τ dn)) (os : List AOper) : Option (Nat × Int) := match os with
  | o :: _ => match o.dst with
    | some d => match an (7000 + d) with
      | some (.eq i z) => some (i, z)
      | _ => none
    | none => none
  | [] => none
def eqW (o : Option (Nat × Int)) (st : SS τ dn) (K : SS τ dn → Prop) : Prop := match o with
  | none => K st
  | some (i, z) => match st.gt i with
    | some (.vi x) => x = z ∧ K (st.sett i (.vn z))
    | _ => K st
omit [DecidableEq τ] in
theorem eqW_ok {D : TD τ dn} {N : Nms} {o : Option (Nat × Int)} {st : SS τ dn} {s : S3} {K : SS τ dn → Prop} (R : Rel D N st s) (h : eqW o st K) : ∃ st', Rel D N st' s ∧ st'.rt = st.rt ∧ st'.rm = st.rm ∧ st'.nx = st.nx ∧ K st' := by
  unfold eqW at h
  split at h
  · exact ⟨st, R, rfl, rfl, rfl, h⟩
  · rename_i i z
    split at h
    · rename_i x hx
      obtain ⟨hz, h⟩ := h
      refine ⟨st.sett i (.vn z), ⟨fun N' hN => ?_, R.inj, R.lt, R.ml, R.rl, R.sp⟩, rfl, rfl, rfl, h⟩
      have A := R.at_ N' hN
      refine ⟨fun j v hv => ?_, A.rs, A.bl, A.rb, A.ar⟩
      simp only [SS.sett, getS_cons] at hv
      split at hv
      · rename_i e
        simp only [Option.some.injEq] at hv
        subst hv; subst e
        rw [A.gt hx]
        simp only [SV.av, hz]
      · exact A.sl j v hv
    · exact ⟨st, R, rfl, rfl, rfl, h⟩
def tknOf (an : Nat → Option (LA τ dn)) (os : List AOper) (st : SS τ dn) : List Nat := match os with
  | o :: _ => match o.dst with
    | some d => match an (9000 + d) with
      | some (.tkn i) => match st.gt i with
        | some (.own nm _) => match st.gm nm with
          | some (.bc _ els) => els.flatMap fun cs => cs.filterMap ownN
          | _ => []
        | _ => []
      | _ => []
    | none => []
  | [] => []
def uncOf (an : Nat → Option (LA τ dn)) (os : List AOper) : Option Nat := match os with
  | o :: _ => match o.dst with
    | some d => match an (11000 + d) with
      | some (.unc f) => some f
      | _ => none
    | none => none
  | [] => none
def Cfg.wo (C : Cfg τ dn) (o : Option Nat) : Cfg τ dn := ⟨C.P, C.D, (match o with
  | none => C.Δ
  | some f => C.Δ.filter fun c => !Nat.beq c.f f), C.Ω, C.fl, C.J⟩
omit [DecidableEq τ] in
theorem Cfg.Ok.wo {C : Cfg τ dn} (h : C.Ok) (o : Option Nat) : (C.wo o).Ok := by
  refine ⟨h.ok, fun c hc => ?_, h.cno, h.inl⟩
  cases o with
  | none => exact h.con c hc
  | some f => exact h.con c (List.mem_filter.1 hc).1
def isBl : VK τ → Bool
  | .bl _ _ => true
  | _ => false
def cutW (D : TD τ dn) (c : Option ((vs : List (VK τ)) × (VT dn vs → VT dn vs → Prop))) (st : SS τ dn) (K : SS τ dn → Prop) : Prop := match c with
  | none => K st
  | some ⟨vs, I⟩ => match getVs D st vs with
    | some x0 => bif vs.all isBl && okT (lessB st.nx) vs (vs.map (nmV st)) then I x0 x0 ∧ allV vs fun x => I x0 x → K ⟨st.rt, st.rm, st.t, putM D vs (vs.map (nmV st)) x ++ st.m, st.nx⟩ else False
    | none => False
theorem cutW_ok {D : TD τ dn} (ok : TDok D) {N : Nms} {c : Option ((vs : List (VK τ)) × (VT dn vs → VT dn vs → Prop))} {st : SS τ dn} {s : S3} {K : SS τ dn → Prop} (R : Rel D N st s) (h : cutW D c st K) : ∃ st', Rel D N st' s ∧ st'.rt = st.rt ∧ st'.rm = st.rm ∧ st'.nx = st.nx ∧ K st' := by
  unfold cutW at h
  split at h
  · exact ⟨st, R, rfl, rfl, rfl, h⟩
  · rename_i vs I
    split at h
    case h_2 => exact h.elim
    rename_i x0 hx
    cases hb : (vs.all isBl && okT (lessB st.nx) vs (vs.map (nmV st))) with
    | false => rw [hb] at h; exact h.elim
    | true =>
    rw [hb, cond_true] at h
    rw [Bool.and_eq_true] at hb
    obtain ⟨hbl, hT⟩ := hb
    have hk := (allV_iff.1 h.2) x0 h.1
    have hTl : (vs.map (nmV st)).length = vs.length := List.length_map ..
    have cas : ∀ nm B, getS (putM D vs (vs.map (nmV st)) x0 ++ st.m) nm = some (some B) → (nm, some B) ∈ putM D vs (vs.map (nmV st)) x0 ∨ getS st.m nm = some (some B) := fun nm B hB => by
      rw [getS_app] at hB
      cases hq : getS (putM D vs (vs.map (nmV st)) x0) nm with
      | some w => rw [hq] at hB; simp only [Option.some_or, Option.some.injEq] at hB; subst hB; exact .inl (getS_mem hq)
      | none => rw [hq] at hB; simp only [Option.none_or] at hB; exact .inr hB
    have old : ∀ nm B, (nm, some B) ∈ putM D vs (vs.map (nmV st)) x0 → (∃ B', st.alv nm B') ∧ ∀ t A, B ≠ .ar t A := fun nm B hB => by
      rcases putM_alive hx hTl nm B hB with ⟨j, v, p1, p2, p3, ⟨B', p4⟩, p5⟩ | ⟨_, ⟨B', p4⟩, p5⟩
      case inr => exact ⟨⟨B', gm_alive p4⟩, p5⟩
      rw [List.getElem?_map, p1] at p2
      simp only [Option.map_some, Option.some.injEq] at p2
      refine ⟨⟨B', by rw [← p2]; exact gm_alive p4⟩, fun t A e => ?_⟩
      have := List.all_eq_true.1 hbl v (List.mem_of_getElem? p1)
      rw [(p5 t A e).1] at this
      simp [isBl] at this
    have halv : ∀ nm B, (⟨st.rt, st.rm, st.t, putM D vs (vs.map (nmV st)) x0 ++ st.m, st.nx⟩ : SS τ dn).alv nm B → (∃ B', st.alv nm B') ∧ ∀ t A, B = .ar t A → st.alv nm (.ar t A) := fun nm B hB => by
      rcases hB with hB | hB
      · rcases cas nm B hB with h1 | h1
        · obtain ⟨q1, q2⟩ := old nm B h1
          exact ⟨q1, fun t A e => absurd e (q2 t A)⟩
        · exact ⟨⟨B, .inl h1⟩, fun t A e => by subst e; exact .inl h1⟩
      · exact ⟨⟨B, .inr hB⟩, fun t A e => by subst e; exact .inr hB⟩
    refine ⟨⟨st.rt, st.rm, st.t, putM D vs (vs.map (nmV st)) x0 ++ st.m, st.nx⟩, ⟨fun N' hN => ?_, R.inj, R.lt, fun nm B hB => ?_, R.rl, fun t A hA id hid => ?_⟩, rfl, rfl, rfl, hk⟩
    · have A := R.at_ N' hN
      refine ⟨A.sl, A.rs, fun nm B hB => ?_, A.rb, fun t A' hA id hid => A.ar t A' ((halv 0 _ hA).2 t A' rfl) id hid⟩
      rcases cas nm B hB with h1 | h1
      · obtain ⟨B', e, q⟩ := vars_blocks ok (getVs_ok ok A hx) nm (some B) h1
        simp only [Option.some.injEq] at e; subst e
        exact q
      · exact A.bl nm B h1
    · show nm < st.nx
      have hB' : getS (putM D vs (vs.map (nmV st)) x0 ++ st.m) nm = some B := hB
      rw [getS_app] at hB'
      cases hq : getS (putM D vs (vs.map (nmV st)) x0) nm with
      | some w => exact lessB_lt (putM_names hT nm w (getS_mem hq))
      | none => rw [hq] at hB'; simp only [Option.none_or] at hB'; exact R.ml nm B hB'
    · have h1 := (halv 0 _ hA).2 t A rfl
      obtain ⟨q1, q2⟩ := R.sp t A h1 id hid
      refine ⟨q1, fun nm B hB => ?_⟩
      obtain ⟨⟨B', hB'⟩, _⟩ := halv nm B hB
      exact q2 nm B' hB'
def AC.nl : AC → Nat
  | .seq a b => a.nl + b.nl
  | .cond _ a b => a.nl + b.nl
  | .block _ a => a.nl
  | .loop a => a.nl + 1
  | _ => 0
def AC.asg : AC → List Nat
  | .seq a b => a.asg ++ b.asg
  | .cond _ a b => a.asg ++ b.asg
  | .block _ a => a.asg
  | .loop a => a.asg
  | .reg os _ => os.filterMap AOper.dst
  | _ => []
def adopt1 (D : TD τ dn) (st : SS τ dn) : VK τ → SS τ dn
  | .ow i t => match st.gt i with
    | some .emp => bif Nat.blt 0 (D.sz t) && (getS st.rt i).isNone then ⟨st.rt, st.rm, (i, .own st.nx (D.sz t)) :: st.t, (st.nx, some (.bl t [])) :: st.m, st.nx + 1⟩ else st
    | _ => st
  | .so q f t _ => match st.gm q with
    | some (.bc Q [vs]) => match vs[f]? with
      | some .emp => bif Nat.blt 0 (D.sz t) && (Nat.blt 0 Q && st.rw q) then ⟨st.rt, st.rm, st.t, (q, some (.bc Q [vs.set f (.own st.nx (D.sz t))])) :: (st.nx, some (.bl t [])) :: st.m, st.nx + 1⟩ else st
      | _ => st
    | _ => st
  | _ => st
def adopt (D : TD τ dn) : SS τ dn → List (VK τ) → SS τ dn
  | st, [] => st
  | st, v :: r => adopt D (adopt1 D st v) r
def unrW (B : SS τ dn → (Ex → SS τ dn → Prop) → Prop) : Nat → SS τ dn → (Ex → SS τ dn → Prop) → Prop
  | 0, _, _ => False
  | m + 1, st, K => B st fun e st' => match e with
    | .normal => unrW B m st' K
    | e => K e st'
def okB (vs : List (VK τ)) (T : List Nat) (st : SS τ dn) (p : Nat → Bool) (ft : List (Nat × SV τ dn)) (fm : List (Nat × Option (SB τ dn))) : Bool :=
  (st.rt.all fun q => q.2.fr p && !hasN (slotsV vs) q.1 && (getS ft q.1).isNone) && (st.rm.all fun q => p q.1 && (match q.2 with | some B => B.fr p | none => true) && (getS fm q.1).isNone) &&
  okT (lessB st.nx) vs T && okT (fun a => !hasN (movesV vs T) a) (vs.filter fun v => !isOw v) ((vs.zip T).filterMap fun q => bif isOw q.1 then none else some q.2) && nodupB (movesV vs T)
def nextB (vs : List (VK τ)) (T A : List Nat) (nx nx' : Nat) : Bool :=
  nodupB ((List.range nx).map (mvN vs T A)) && ((List.range nx).all fun a => lessB nx' (mvN vs T A a)) && ((vs.zip (T.zip A)).all fun q => isSl q.1 || (Nat.beq (mvN vs T A q.2.1) q.2.2 && (isOw q.1 || Nat.beq q.2.1 q.2.2))) && (fixVs vs).all fun a => Nat.beq (mvN vs T A a) a
def keepP (vs : List (VK τ)) (T : List Nat) (nx : Nat) (a : Nat) : Bool := lessB nx a && !hasN (movesV vs T) a
def loopW1 (D : TD τ dn) (fl : Nat) (vs : List (VK τ)) (I : VT dn vs → Prop) (ms : VT dn vs → Nat) (B : SS τ dn → (Ex → SS τ dn → Prop) → Prop) (st : SS τ dn) (K : Ex → SS τ dn → Prop) (T : List Nat) (x0 : VT dn vs) (ft : List (Nat × SV τ dn)) (fm : List (Nat × Option (SB τ dn))) : Prop :=
  bif okB vs T st (keepP vs T st.nx) ft fm && (movesV vs T).all (Nat.ble fl) then I x0 ∧ allV vs fun x => I x → B ⟨ft ++ st.rt, fm ++ st.rm, putT D vs T x, putM D vs T x, st.nx⟩ fun e st' => match e with
    | .normal => match getVs D st' vs with
      | some x' => bif nextB vs T (vs.map (nmV st')) st.nx st'.nx then I x' ∧ ms x' < ms x else False
      | none => False
    | e => K e ⟨st.rt, st.rm, st'.t ++ ft, st'.m ++ fm, st'.nx⟩
  else False
def loopW (D : TD τ dn) (fl : Nat) (vs : List (VK τ)) (I : VT dn vs → VT dn vs → Prop) (ms : VT dn vs → VT dn vs → Nat) (asg : List Nat) (B : SS τ dn → (Ex → SS τ dn → Prop) → Prop) (st : SS τ dn) (K : Ex → SS τ dn → Prop) : Prop :=
  match getVs D st vs with
  | none => False
  | some x0 => loopW1 D fl vs (I x0) (ms x0) B st K (vs.map (nmV st)) x0 (cleanT (keepP vs (vs.map (nmV st)) st.nx) (slotsV vs ++ asg) st.t) (cleanM (keepP vs (vs.map (nmV st)) st.nx) (namesV vs (vs.map (nmV st))) st.m)
def mrgC (C : Cfg τ dn) (n : Nat) (c : Cn) (a b : AC) (st : SS τ dn) : Option (List Prop × SS τ dn) :=
  match a, b with
  | .skip, .reg os none => mrgS C n c true os st
  | .reg os none, .skip => mrgS C n c false os st
  | _, _ => none
def wpPs (C : Cfg τ dn) (n : Nat) (an : Nat → Option (LA τ dn)) : List (List AOper) → SS τ dn → (SS τ dn → Prop) → Prop
  | [], st, K => K st
  | p :: ps, st, K => frzW C.D (frzB an (p.take 1)) (st.nmsOf (frzOf an (p.take 1))) st fun st => splW (splOf an p) st fun st => cutW C.D (cutOf an p) st fun st => eqW (eqOf an p) st fun st => tkW C.D (tknOf an p st) st fun st => wpOps (C.wo (uncOf an p)) n none true p [] st fun st => wpPs C n an ps st K
def wpC (C : Cfg τ dn) (n : Nat) (an : Nat → Option (LA τ dn)) : AC → Nat → SS τ dn → (Ex → SS τ dn → Prop) → Prop
  | .skip, _, st, K => K .normal st
  | .ret, _, st, K => K .ret st
  | .exit i, _, st, K => K (.exit i) st
  | .seq a b, k, st, K => wpC C n an a k st fun e st' => match e with
    | .normal => wpC C n an b (k + a.nl) st' K
    | e => K e st'
  | .cond c a b, k, st, K => match st.ev c with
    | some (.vt true) => wpC C n an a k st K
    | some (.vt false) => wpC C n an b (k + a.nl) st K
    | some (.vb c) => match mrgC C n c a b st with
      | some (O, st') => obl O (K .normal st')
      | none => (c.tf true → wpC C n an a k st K) ∧ (c.tf false → wpC C n an b (k + a.nl) st K)
    | _ => False
  | .block i a, k, st, K => wpC C n an a k st fun e st' => K (e.blk i) st'
  | .loop a, k, st, K => match an k with
    | some (.unr m) => unrW (wpC C n an a (k + 1)) m st K
    | some (.inv vs I ms) => loopW C.D C.fl vs I ms a.asg (wpC C n an a (k + 1)) (adopt C.D st vs) K
    | _ => False
  | .reg os none, _, st, K => wpPs C n an (pieces an os) st (K .normal)
  | .reg os (some dep), _, st, K => frzW C.D (frzB an os) (st.nmsOf (frzOf an os)) st fun st => cutW C.D (cutOf an os) st fun st => eqW (eqOf an os) st fun st => wpOps (C.wo (uncOf an os)) n (some dep) (modeB (C.wo (uncOf an os)) (some dep) os) os [] st (K .normal)
  | .rng _ _ _ _, _, _, _ => False
def Ends (C : Cfg τ dn) (n k0 : Nat) (ac : AC) (N : Nms) (st : SS τ dn) (s : S3) (K : Ex → SS τ dn → Prop) : Prop :=
  ∃ e s' N' st', ED C.P n k0 ac s e s' ∧ Rel C.D N' st' s' ∧ st'.rt = st.rt ∧ st'.rm = st.rm ∧ (N.agree C.fl N' ∧ C.fl ≤ st'.nx) ∧ K e st'
theorem agree_le {n m : Nat} {N N' : Nms} (h : N.agree m N') (hn : n ≤ m) : N.agree n N' := ⟨fun a ha => h.1 a (Nat.lt_of_lt_of_le ha hn), h.2⟩
end
section
theorem MemAt.recell {E : Env} {J : Nat → Prop} {base : Nat} {g : Nat → Option Bk} (hm : MemAt E J base g) {q : Nat} {B B' : Bk} (hB : g q = some B) (hz : B.sz ≠ 0) (hsz : B'.sz = B.sz) (hl : B.els.length = B'.els.length) (hc : ∀ (i : Nat) cs ds, B.els[i]? = some cs → B'.els[i]? = some ds → cs.length = ds.length ∧ ∀ (j : Nat) c d, cs[j]? = some c → ds[j]? = some d → ∀ v, Rep E v c → Rep E v d) : MemAt E J base (gput g [(q, some B')]) := by
  have old : ∀ {id X}, gput g [(q, some B')] id = some X → (id = q ∧ X = B') ∨ (id ≠ q ∧ g id = some X) := fun {id X} h => by
    simp only [gput] at h
    by_cases e : id = q
    · rw [if_pos e] at h; simp only [Option.some.injEq] at h; exact .inl ⟨e, h.symm⟩
    · rw [if_neg e] at h; exact .inr ⟨e, h⟩
  have was : ∀ {id X}, gput g [(q, some B')] id = some X → ∃ Y, g id = some Y := fun h => by
    rcases old h with ⟨rfl, _⟩ | ⟨_, h⟩
    · exact ⟨_, hB⟩
    · exact ⟨_, h⟩
  refine ⟨fun id => ?_, fun id X hg => ?_, fun id id' b B1 B2 h1 h2 h3 h4 => ?_, fun id b X hg hb => ?_, hm.low, hm.size, fun id X hg hzz => ?_, hm.rgb⟩
  · rw [hm.live id]
    simp only [gput]
    by_cases e : id = q
    · subst e; rw [if_pos rfl, hB]; exact ⟨fun _ => ⟨_, rfl⟩, fun _ => ⟨_, rfl⟩⟩
    · rw [if_neg e]
  · rcases old hg with ⟨rfl, rfl⟩ | ⟨_, h⟩
    · have h0 := hm.at_ id B hB
      cases hloc : E.loc id with
      | none =>
        rw [hloc] at h0
        have h0' : B.els = [] := h0
        show X.els = []
        rw [h0'] at hl
        exact List.eq_nil_of_length_eq_zero (by simpa using hl.symm)
      | some b =>
        rw [hloc] at h0
        obtain ⟨h1, ⟨hz0, arr, t, h2, h3, h4⟩ | ⟨hz0, _⟩⟩ := h0
        · refine .ofCells ⟨h1, arr, t, h2, by rw [← hl, hsz]; exact h3, fun i ds hi => ?_⟩ (by rw [hsz]; exact hz0)
          have hil : i < B.els.length := by rw [hl]; exact (List.getElem?_eq_some_iff.1 hi).1
          have hcs := List.getElem?_eq_getElem hil
          obtain ⟨e1, e2⟩ := hc i _ ds hcs hi
          refine ⟨by rw [← e1, hsz]; exact (h4 i _ hcs).1, fun j d hj => ?_⟩
          have hjl : j < B.els[i].length := by rw [e1]; exact (List.getElem?_eq_some_iff.1 hj).1
          obtain ⟨u, u1, u2, u3⟩ := (h4 i _ hcs).2 j _ (List.getElem?_eq_getElem hjl)
          exact ⟨u, by rw [hsz]; exact u1, u2, e2 j _ d (List.getElem?_eq_getElem hjl) hj u u3⟩
        · exact absurd hz0 hz
    · exact hm.at_ id X h
  · obtain ⟨Y1, y1⟩ := was h1
    obtain ⟨Y2, y2⟩ := was h2
    exact hm.apart id id' b Y1 Y2 y1 y2 h3 h4
  · obtain ⟨Y, y⟩ := was hg
    exact hm.out id b Y y hb
  · rcases old hg with ⟨rfl, rfl⟩ | ⟨_, h⟩
    · rw [← hl]; exact hm.len id B hB hz
    · exact hm.len id X h hzz
theorem S3.le_adoptF {n k0 : Nat} {s : S3} {q Q sz f : Nat} {cs : List AV} (hq : s.g q = some ⟨Q, [cs]⟩) (hk : q < s.k) (hf : cs[f]? = some .emp) (hQ : Q ≠ 0) (hz : sz ≠ 0) : s.Le k0 n ⟨s.σ, gput (gput s.g [(s.k, some ⟨sz, []⟩)]) [(q, some ⟨Q, [cs.set f (.own s.k sz 0 0)]⟩)], s.k + 1⟩ := by
  intro E0 J base w0 a w hk0 hr
  obtain ⟨E, rfl, hle, hs, hm, hkn, hmk⟩ := hr.ex
  obtain ⟨E', hw, hE, hM, k1, k2, k3, k4, k5⟩ := hm.phantom (fresh := s.k) (fun hh => Nat.lt_irrefl _ (hkn _ hh)) sz
  have hq' : gput s.g [(s.k, some ⟨sz, []⟩)] q = some ⟨Q, [cs]⟩ := by simp only [gput]; rw [if_neg (by omega)]; exact hq
  have hfl : f < cs.length := (List.getElem?_eq_some_iff.1 hf).1
  have hM2 := hM.recell (B' := ⟨Q, [cs.set f (.own s.k sz 0 0)]⟩) hq' hQ rfl rfl (fun i c1 d1 h1 h2 => by
    cases i with
    | succ i => simp at h1
    | zero =>
      simp only [List.getElem?_cons_zero, Option.some.injEq] at h1 h2
      subst h1; subst h2
      refine ⟨by simp, fun j c d hc hd v hv => ?_⟩
      rw [List.getElem?_set] at hd
      by_cases e : f = j
      · subst e
        rw [if_pos rfl, if_pos hfl, Option.some.injEq] at hd
        subst hd
        rw [hf, Option.some.injEq] at hc
        subst hc
        obtain ⟨A, hA⟩ := emp_inv hv
        rw [hA]
        exact .own0 k1 k2 k3 k5 hz
      · rw [if_neg e, hc, Option.some.injEq] at hd
        subst hd; exact hv)
  refine ⟨⟨E', hw, hle.trans hE, fun j => (hs j).step hE, hM2, fun id hid => ?_, hmk.step hE⟩, hr.size, hr.below, hr.gl⟩
  show id < s.k + 1
  rcases k4 id hid with h | h
  · have := hkn id h; omega
  · omega
end
section
variable {τ : Type} {dn : τ → Type}
theorem adopt_rel {D : TD τ dn} {n k0 : Nat} : ∀ {vs : List (VK τ)} {N : Nms} {st : SS τ dn} {s : S3}, Rel D N st s → ∃ s' N', s.Le k0 n s' ∧ Rel D N' (adopt D st vs) s' ∧ (adopt D st vs).rt = st.rt ∧ (adopt D st vs).rm = st.rm ∧ N.agree st.nx N' ∧ st.nx ≤ (adopt D st vs).nx
  | [], N, st, s, R => ⟨s, N, S3.Le.refl', R, rfl, rfl, N.agree_refl _, Nat.le_refl _⟩
  | v :: r, N, st, s, R => by
    have one : ∃ s' N', s.Le k0 n s' ∧ Rel D N' (adopt1 D st v) s' ∧ (adopt1 D st v).rt = st.rt ∧ (adopt1 D st v).rm = st.rm ∧ N.agree st.nx N' ∧ st.nx ≤ (adopt1 D st v).nx := by
      have no : ∃ s' N', s.Le k0 n s' ∧ Rel D N' st s' ∧ st.rt = st.rt ∧ st.rm = st.rm ∧ N.agree st.nx N' ∧ st.nx ≤ st.nx := ⟨s, N, S3.Le.refl', R, rfl, rfl, N.agree_refl _, Nat.le_refl _⟩
      cases v with
      | ow i t =>
        simp only [adopt1]
        split
        · rename_i hg
          cases hb : (Nat.blt 0 (D.sz t) && (getS st.rt i).isNone) with
          | false => rw [cond_false]; exact no
          | true =>
            rw [cond_true]
            rw [Bool.and_eq_true] at hb
            have hz : D.sz t ≠ 0 := Nat.ne_of_gt (Nat.le_of_ble_eq_true hb.1)
            have hσ : s.σ i = .emp := R.here.gt hg
            refine ⟨_, N.upd st.nx s.k 0, S3.le_adopt hσ hz, ?_, rfl, rfl, N.upd_agree _ _ _, Nat.le_succ _⟩
            have := R.go (n := i + 1) (d := some i) (r := .new [] (.own st.nx (D.sz t)) (.bl t [])) (by simp only [dstS, Bool.and_eq_true]; exact ⟨Nat.ble_eq_true_of_le (Nat.le_refl _), hb.2⟩) rfl (val := .own s.k (D.sz t) 0 0) (ups := [(s.k, some ⟨D.sz t, []⟩)]) (fun N' hN => by
              simp only [SR.v, SV.av]
              have h1 := hN.1 st.nx (Nat.lt_succ_self _)
              simp only [SR.up, Nms.upd, if_true] at h1
              rw [h1.1, h1.2]; rfl) (fun N' hN => rfl)
            refine cast ?_ this
            congr 2
            funext j
            simp only [putσ, Option.some.injEq]
            by_cases hj : j = i
            · subst hj; rw [if_pos ⟨rfl, Nat.lt_succ_self _⟩, if_pos rfl]
            · rw [if_neg (fun hh => hj hh.1.symm), if_neg hj]
        · exact no
      | so q f t cs =>
        simp only [adopt1]
        split
        · rename_i Q vs hB
          split
          · rename_i hf
            cases hb : (Nat.blt 0 (D.sz t) && (Nat.blt 0 Q && st.rw q)) with
            | false => rw [cond_false]; exact no
            | true =>
              rw [cond_true]
              rw [Bool.and_eq_true, Bool.and_eq_true] at hb
              have hz : D.sz t ≠ 0 := Nat.ne_of_gt (Nat.le_of_ble_eq_true hb.1)
              have hQ : Q ≠ 0 := Nat.ne_of_gt (Nat.le_of_ble_eq_true hb.2.1)
              obtain ⟨⟨B1, m1⟩, r1⟩ := rw_may hb.2.2
              have hB1 : B1 = .bc Q [vs] := by have := gm_m m1; rw [this] at hB; simpa using hB
              subst hB1
              have hqlt := R.ml q _ m1
              obtain ⟨g1, g2⟩ := R.here.bl q _ m1
              have R1 := R.go (n := 0) (d := none) (r := .new [] (.own st.nx (D.sz t)) (.bl t [])) rfl rfl (val := .own s.k (D.sz t) 0 0) (ups := [(s.k, some ⟨D.sz t, []⟩)]) (fun N' hN => by
                simp only [SR.v, SV.av]
                have h1 := hN.1 st.nx (Nat.lt_succ_self _)
                simp only [SR.up, Nms.upd, if_true] at h1
                rw [h1.1, h1.2]; rfl) (fun N' hN => rfl)
              have hag := N.upd_agree st.nx s.k 0
              have eq1 : (N.upd st.nx s.k 0).ι q = N.ι q := (hag.1 q hqlt).1
              have en1 : (N.upd st.nx s.k 0).ι st.nx = s.k ∧ (N.upd st.nx s.k 0).ln st.nx = 0 := by simp [Nms.upd]
              have hne : q ≠ st.nx := Nat.ne_of_lt hqlt
              have hm1 : (SR.put [] (.vo undef) q (.bc Q [vs.set f (.own st.nx (D.sz t))]) : SR τ dn).may D (N.upd st.nx s.k 0) ((SR.new [] (.own st.nx (D.sz t)) (.bl t []) : SR τ dn).st st none) := by
                refine ⟨⟨.bc Q [vs], ?_, ?_⟩, r1, rfl⟩
                · show getS ((st.nx, some (.bl t [])) :: st.m) q = _
                  rw [getS_cons, if_neg hne]; exact m1
                · rw [(hag.1 q hqlt).2, g2]; rfl
              have avs : ∀ N' : Nms, (N.upd st.nx s.k 0).agree (st.nx + 1) N' → (vs.map (SV.av D.toTE N')) = vs.map (SV.av D.toTE N) := fun N' hN => by
                have A' := R.at_ N' (Nms.agree_trans hag hN (Nat.le_succ _))
                have e1 := (A'.bl q _ m1).1
                rw [((Nms.agree_trans hag hN (Nat.le_succ _)).1 q hqlt).1, g1] at e1
                simpa [SB.av, SV.avM, SV.avL_map] using e1.symm
              have R2 := R1.go (n := 0) (d := none) (r := .put [] (.vo undef) q (.bc Q [vs.set f (.own st.nx (D.sz t))])) rfl hm1 (val := .v undef) (ups := [(N.ι q, some ⟨Q, [(vs.map (SV.av D.toTE N)).set f (.own s.k (D.sz t) 0 0)]⟩)]) (fun N' hN => rfl) (fun N' hN => by
                have hN' : (N.upd st.nx s.k 0).agree (st.nx + 1) N' := hN
                have h1 := hN'.1 st.nx (Nat.lt_succ_self _)
                have h2 := (hN'.1 q (Nat.lt_succ_of_lt hqlt)).1
                simp only [SR.ups, SB.av, SV.avM, SV.avL_map, List.map_set, SV.av, h1.1, h1.2, h2, en1, eq1, avs N' hN'])
              refine ⟨_, N.upd st.nx s.k 0, S3.le_adoptF (q := N.ι q) (f := f) (cs := vs.map (SV.av D.toTE N)) (sz := D.sz t) (by rw [g1]; simp only [SB.av, SV.avM, SV.avL_map]) (R.lt q hqlt) (by rw [List.getElem?_map, hf]; rfl) hQ hz, ?_, rfl, rfl, hag, Nat.le_succ _⟩
              exact R2
          · exact no
        · exact no
      | _ => exact no
    obtain ⟨s1, N1, h1, h2, h3, h4, h5, h6⟩ := one
    obtain ⟨s2, N2, q1, q2, q3, q4, q5, q6⟩ := adopt_rel (vs := r) h2
    exact ⟨s2, N2, h1.trans' q1, q2, q3.trans h3, q4.trans h4, Nms.agree_trans h5 q5 h6, Nat.le_trans h6 q6⟩
mutual
theorem SV.fr_mono {p q : Nat → Bool} (h : ∀ a, p a = true → q a = true) : ∀ (v : SV τ dn), v.fr p = true → v.fr q = true
  | .own nm sz, hv | .part nm sz _ _, hv | .ref nm sz _ _, hv | .mp nm, hv => by simp only [SV.fr] at hv ⊢; exact h nm hv
  | .agg cs, hv | .tup cs, hv | .fn _ cs, hv | .bf _ cs, hv | .pim cs _, hv => by simp only [SV.fr] at hv ⊢; exact SV.frL_mono h cs hv
  | .vc _ els, hv => by simp only [SV.fr] at hv ⊢; exact SV.frM_mono h els hv
  | .vg p c v, hv => by simp only [SV.fr] at hv ⊢; exact SV.fr_mono h v hv
  | .rw _ _, _ | .rwp _ _ _ _, _ | .vl _ _, _ | .vi _, _ | .vn _, _ | .vy _, _ | .vu _, _ | .vw _ _, _ | .vb _, _ | .vt _, _ | .vz _, _ | .vo _, _ | .emp, _ | .dead, _ => by simp only [SV.fr]
theorem SV.frL_mono {p q : Nat → Bool} (h : ∀ a, p a = true → q a = true) : ∀ (cs : List (SV τ dn)), SV.frL p cs = true → SV.frL q cs = true
  | [], _ => rfl
  | v :: r, hv => by simp only [SV.frL, Bool.and_eq_true] at hv ⊢; exact ⟨SV.fr_mono h v hv.1, SV.frL_mono h r hv.2⟩
theorem SV.frM_mono {p q : Nat → Bool} (h : ∀ a, p a = true → q a = true) : ∀ (els : List (List (SV τ dn))), SV.frM p els = true → SV.frM q els = true
  | [], _ => rfl
  | v :: r, hv => by simp only [SV.frM, Bool.and_eq_true] at hv ⊢; exact ⟨SV.frL_mono h v hv.1, SV.frM_mono h r hv.2⟩
end
theorem SB.fr_mono {p q : Nat → Bool} (h : ∀ a, p a = true → q a = true) (B : SB τ dn) (hB : B.fr p = true) : B.fr q = true := by
  cases B with
  | bl t xs => rfl
  | bc sz els => simp only [SB.fr] at hB ⊢; exact SV.frM_mono h els hB
  | mc els => simp only [SB.fr] at hB ⊢; exact SV.frM_mono h els hB
  | ar t A => rfl
def resS (D : TD τ dn) (st : SS τ dn) : List ARes → Option (List Prop × List (SV τ dn))
  | [] => some ([], [])
  | .tmp i :: r => match st.gt i, resS D st r with
    | some v, some (O, l) => some (O, v :: l)
    | _, _ => none
  | .cell i m :: r => match st.gt i, resS D st r with
    | some a, some (O, l) => match oLoad D st m a with
      | some (.val O' v) => some (O' ++ O, v :: l)
      | _ => none
    | _, _ => none
def startS (vs : List (SV τ dn)) (i : Nat) : List (Nat × SV τ dn) := match vs with
  | [] => []
  | v :: r => (i, v) :: startS r (i + 1)
theorem startS_get {i : Nat} : ∀ {vs : List (SV τ dn)} {k : Nat} {v : SV τ dn}, getS (startS vs k) i = some v → k ≤ i ∧ vs[i - k]? = some v
  | [], k, v, h => by simp [startS, getS] at h
  | w :: r, k, v, h => by
    simp only [startS, getS_cons] at h
    by_cases hi : i = k
    · rw [if_pos hi, Option.some.injEq] at h
      subst h; subst hi; exact ⟨Nat.le_refl _, by simp⟩
    · rw [if_neg hi] at h
      obtain ⟨h1, h2⟩ := startS_get h
      refine ⟨by omega, ?_⟩
      rw [show i - k = (i - (k + 1)) + 1 by omega, List.getElem?_cons_succ]; exact h2
theorem loadA_ok {D : TD τ dn} {N : Nms} {st : SS τ dn} {σ : Nat → AV} {g : Nat → Option Bk} (ok : TDok D) (R : RelAt D N st σ g) {m : Option Nat} {i : Nat} {a : SV τ dn} (hx : st.gt i = some a) {O : List Prop} {v : SV τ dn} (h : oLoad D st m a = some (.val O v)) (hO : ∀ p, p ∈ O → p) : (loadA m (σ i)).run g = some (v.av D.toTE N) := by
  have e := oLoad_ok ok R (x := .s i) hx h 0 hO trivial
  have hs : argσ σ (.s i) = σ i := rfl
  simp only [AO.sem, hs] at e
  unfold loadA
  cases hσ : σ i <;> rw [hσ] at e <;> simp only at e ⊢
  case pim cs o =>
    cases hg : getCells cs o m with
    | none => rw [hg] at e; simp [RM.opt, RM.run] at e
    | some w => rw [hg] at e; simp only [Option.map_some, RM.opt, RM.run, Option.some.injEq, Out.done.injEq] at e; simp only [RM.opt, RM.run, e.1]; rfl
  case ref id sz j o =>
    simp only [RM.run] at e ⊢
    cases hg : g id with
    | none => rw [hg] at e; simp at e
    | some B =>
      rw [hg] at e
      simp only at e ⊢
      split at e
      · rename_i hz
        rw [if_pos hz]
        cases hq : (B.els[j]?.bind fun cs => getCells cs o m) with
        | none => rw [hq] at e; simp [RM.opt, RM.run] at e
        | some w => rw [hq] at e; simp only [Option.map_some, RM.opt, RM.run, Option.some.injEq, Out.done.injEq] at e; simp only [RM.opt, RM.run, e.1]; rfl
      · simp [RM.run] at e
  all_goals simp [RM.run] at e
theorem resS_ok {D : TD τ dn} {N : Nms} {st : SS τ dn} {σ : Nat → AV} {g : Nat → Option Bk} (ok : TDok D) (R : RelAt D N st σ g) : ∀ {res : List ARes} {O : List Prop} {l : List (SV τ dn)}, resS D st res = some (O, l) → (∀ p, p ∈ O → p) → (resL σ res).run g = some (l.map (SV.av D.toTE N))
  | [], O, l, h, hO => by simp only [resS, Option.some.injEq, Prod.mk.injEq] at h; obtain ⟨_, rfl⟩ := h; rfl
  | .tmp i :: r, O, l, h, hO => by
    simp only [resS] at h
    split at h
    · rename_i v O' l' h1 h2
      simp only [Option.some.injEq, Prod.mk.injEq] at h; obtain ⟨rfl, rfl⟩ := h
      simp only [resL]
      rw [run_bindS (resS_ok ok R h2 hO)]
      simp only [RM.run, List.map_cons, R.gt h1]
    · simp at h
  | .cell i m :: r, O, l, h, hO => by
    simp only [resS] at h
    split at h
    · rename_i a O' l' h1 h2
      split at h
      · rename_i O2 v h3
        simp only [Option.some.injEq, Prod.mk.injEq] at h; obtain ⟨rfl, rfl⟩ := h
        simp only [resL]
        rw [run_bindS (loadA_ok ok R h1 h3 fun p hp => hO p (List.mem_append_left _ hp)), run_bindS (resS_ok ok R h2 fun p hp => hO p (List.mem_append_right _ hp))]
        rfl
      · simp at h
    · simp at h
theorem snapMS_len {D : TD τ dn} {st : SS τ dn} : ∀ {l l' : List (SV τ dn)}, snapMS D st l = some l' → l.length = l'.length
  | [], l', h => by simp only [snapMS, Option.some.injEq] at h; subst h; rfl
  | v :: r, l', h => by
    simp only [snapMS] at h
    split at h
    · rename_i x l2 h1 h2
      simp only [Option.some.injEq] at h; subst h; simp [snapMS_len h2]
    · simp at h
theorem snapR_one {a a' : AV} {g : Nat → Option Bk} (h : (snapA a).run g = some a') : (snapR a).run g = some a' := by
  cases a <;> first
    | exact h
    | (simp [snapA, snap1, AV.pu1, RM.run] at h)
theorem en_pu {D : TD τ dn} (ok : TDok D) {N N' : Nms} (t : τ) (x : dn t) (h : D.pu t = true) : (D.en t x).av D.toTE N = (D.en t x).av D.toTE N' := by
  have e : (D.es t x).map (SV.av D.toTE N) = (D.es t x).map (SV.av D.toTE N') := by rw [ok.es_av, ok.es_av, ok.pρ _ N'.ρ t x h]
  cases ha : D.ag t with
  | true => rw [en_ag ha, SV.av, SV.av, SV.avL_map, SV.avL_map, e]
  | false =>
    unfold TD.en
    rw [ha, cond_false]
    cases hs : D.es t x with
    | nil => rfl
    | cons v r => rw [hs] at e; simp only [List.map_cons, List.cons.injEq] at e; exact e.1
theorem enR_pu {D : TD τ dn} (ok : TDok D) {N N' : Nms} : ∀ (rs : List τ) (x : RD dn rs), rs.all D.pu = true → (enR D rs x).map (SV.av D.toTE N) = (enR D rs x).map (SV.av D.toTE N')
  | [], _, _ => rfl
  | [t], x, h => by simp only [List.all_cons, List.all_nil, Bool.and_true] at h; simp only [enR, List.map_cons, List.map_nil]; rw [en_pu ok (N := N) (N' := N') t x h]
  | t :: s :: r, x, h => by
    rw [List.all_cons, Bool.and_eq_true] at h
    simp only [enR, List.map_cons]; rw [en_pu ok (N := N) (N' := N') t x.1 h.1, enR_pu ok (N := N) (N' := N') (s :: r) x.2 h.2]
theorem nodupB_inj {f : Nat → Nat} : ∀ {n m : Nat}, nodupB ((List.range' m n).map f) = true → ∀ a b, m ≤ a → a < m + n → m ≤ b → b < m + n → f a = f b → a = b
  | 0, m, h, a, b, h1, h2, h3, h4, he => by omega
  | n + 1, m, h, a, b, h1, h2, h3, h4, he => by
    rw [List.range'_succ, List.map_cons] at h
    simp only [nodupB, Bool.and_eq_true, Bool.not_eq_true'] at h
    have hno : ∀ c, m + 1 ≤ c → c < m + 1 + n → f m ≠ f c := fun c k1 k2 e => by
      have : hasN ((List.range' (m + 1) n).map f) (f m) = true := hasN_iff.2 (List.mem_map.2 ⟨c, List.mem_range'_1.2 ⟨k1, k2⟩, e.symm⟩)
      rw [this] at h; simp at h
    by_cases ha : a = m <;> by_cases hb : b = m
    · omega
    · subst ha; exact absurd he (hno b (by omega) (by omega))
    · subst hb; exact absurd he.symm (hno a (by omega) (by omega))
    · exact nodupB_inj h.2 a b (by omega) (by omega) (by omega) (by omega) he
theorem unr_ok {C : Cfg τ dn} {n k0 : Nat} {a : AC} {B : SS τ dn → (Ex → SS τ dn → Prop) → Prop} (hB : ∀ {st : SS τ dn} {K : Ex → SS τ dn → Prop} {N : Nms} {s : S3}, Rel C.D N st s → C.fl ≤ st.nx → B st K → Ends C n k0 a N st s K) :
    ∀ (m : Nat) {st : SS τ dn} {K : Ex → SS τ dn → Prop} {N : Nms} {s : S3}, Rel C.D N st s → C.fl ≤ st.nx → unrW B m st K → ∃ e s' j N2 st', Ch C.P n k0 a e s' j s ∧ Rel C.D N2 st' s' ∧ st'.rt = st.rt ∧ st'.rm = st.rm ∧ (N.agree C.fl N2 ∧ C.fl ≤ st'.nx) ∧ K e st'
  | 0, st, K, N, s, R, hl, h => h.elim
  | m + 1, st, K, N, s, R, hl, h => by
    obtain ⟨e, s1, N1, st1, e1, R1, r1, r2, r3, hk⟩ := hB R hl h
    cases e with
    | normal =>
      obtain ⟨e, s2, j, N2, st2, c1, c2, c3, c4, c5, c6⟩ := unr_ok hB m R1 r3.2 hk
      exact ⟨e, s2, j + 1, N2, st2, .step e1 S3.Le.refl' c1, c2, c3.trans r1, c4.trans r2, ⟨Nms.agree_trans r3.1 c5.1 (Nat.le_refl _), c5.2⟩, c6⟩
    | exit i => exact ⟨_, s1, 0, N1, st1, .last e1 (by simp), R1, r1, r2, r3, hk⟩
    | ret => exact ⟨_, s1, 0, N1, st1, .last e1 (by simp), R1, r1, r2, r3, hk⟩
variable [DecidableEq τ]
theorem S3.le_phantom {n k0 : Nat} {s : S3} (sz : Nat) : s.Le k0 n ⟨s.σ, gput s.g [(s.k, some ⟨sz, []⟩)], s.k + 1⟩ := by
  intro E0 J base w0 a w hk hr
  obtain ⟨E, rfl, hle, hs, hm, hkn, hmk⟩ := hr.ex
  obtain ⟨E', hw, hE, hM, k1, k2, k3, k4, k5⟩ := hm.phantom (fresh := s.k) (fun hh => Nat.lt_irrefl _ (hkn _ hh)) sz
  refine ⟨⟨E', hw, hle.trans hE, fun j => (hs j).step hE, hM, fun id hid => ?_, hmk.step hE⟩, hr.size, hr.below, hr.gl⟩
  show id < s.k + 1
  rcases k4 id hid with h | h
  · have := hkn id h; omega
  · omega
theorem loop_round {C : Cfg τ dn} (hC : C.Ok) {n k0 : Nat} {a : AC} {B : SS τ dn → (Ex → SS τ dn → Prop) → Prop} (hB : ∀ {st : SS τ dn} {K : Ex → SS τ dn → Prop} {N : Nms} {s : S3}, Rel C.D N st s → C.fl ≤ st.nx → B st K → Ends C n k0 a N st s K) {vs : List (VK τ)} {I : VT dn vs → Prop} {ms : VT dn vs → Nat}
    {st : SS τ dn} {K : Ex → SS τ dn → Prop} {T : List Nat} {ft : List (Nat × SV τ dn)} {fm : List (Nat × Option (SB τ dn))} (hT : vs.map (nmV st) = T) (hTl : T.length = vs.length) (kp : ∀ {a}, keepP vs T st.nx a = true → a < st.nx ∧ ¬ a ∈ movesV vs T) (hle : ∀ a, keepP vs T st.nx a = true → lessB st.nx a = true)
    (aT : ∀ {i v}, getS (ft ++ st.rt) i = some v → (getS ft i = some v ∨ getS st.rt i = some v) ∧ v.fr (keepP vs T st.nx) = true ∧ ¬ i ∈ slotsV vs) (aM : ∀ {i v}, getS (fm ++ st.rm) i = some v → (getS fm i = some v ∨ getS st.rm i = some v) ∧ (∀ B, v = some B → B.fr (keepP vs T st.nx) = true) ∧ keepP vs T st.nx i = true)
    (fT : ∀ {i v}, getS ft i = some v → getS st.t i = some v ∧ v.fr (keepP vs T st.nx) = true ∧ ¬ i ∈ slotsV vs) (fM : ∀ {i v}, getS fm i = some v → getS st.m i = some v ∧ (∃ B, v = some B ∧ B.fr (keepP vs T st.nx) = true) ∧ keepP vs T st.nx i = true)
    (rT : ∀ {i v}, getS st.rt i = some v → v.fr (keepP vs T st.nx) = true ∧ ¬ i ∈ slotsV vs ∧ getS ft i = none) (rM : ∀ {i v}, getS st.rm i = some v → keepP vs T st.nx i = true ∧ (∀ B, v = some B → B.fr (keepP vs T st.nx) = true) ∧ getS fm i = none) (o3 : okT (lessB st.nx) vs T = true) (hfl : C.fl ≤ st.nx) (hmv : (movesV vs T).all (Nat.ble C.fl) = true)
    {x : VT dn vs} {N : Nms} {s : S3} (h : B ⟨ft ++ st.rt, fm ++ st.rm, putT C.D vs T x, putM C.D vs T x, st.nx⟩ fun e st' => match e with
      | .normal => match getVs C.D st' vs with
        | some x' => bif nextB vs T (vs.map (nmV st')) st.nx st'.nx then I x' ∧ ms x' < ms x else False
        | none => False
      | e => K e ⟨st.rt, st.rm, st'.t ++ ft, st'.m ++ fm, st'.nx⟩) (R : Rel C.D N ⟨ft ++ st.rt, fm ++ st.rm, putT C.D vs T x, putM C.D vs T x, st.nx⟩ s)
    (next : ∀ x', ms x' < ms x → I x' → ∀ N2 s2, Rel C.D N2 ⟨ft ++ st.rt, fm ++ st.rm, putT C.D vs T x', putM C.D vs T x', st.nx⟩ s2 → ∃ e s' j N3 st', Ch C.P n k0 a e s' j s2 ∧ Rel C.D N3 st' s' ∧ st'.rt = st.rt ∧ st'.rm = st.rm ∧ (N2.agree C.fl N3 ∧ C.fl ≤ st'.nx) ∧ K e st') :
    ∃ e s' j N2 st', Ch C.P n k0 a e s' j s ∧ Rel C.D N2 st' s' ∧ st'.rt = st.rt ∧ st'.rm = st.rm ∧ (N.agree C.fl N2 ∧ C.fl ≤ st'.nx) ∧ K e st' := by
  obtain ⟨e, s1, N1, st1, e1, R1, hr1, hr2, hr3, hk⟩ := hB R hfl h
  have leave : e ≠ .normal → K e ⟨st.rt, st.rm, st1.t ++ ft, st1.m ++ fm, st1.nx⟩ → ∃ e s' j N2 st', Ch C.P n k0 a e s' j s ∧ Rel C.D N2 st' s' ∧ st'.rt = st.rt ∧ st'.rm = st.rm ∧ (N.agree C.fl N2 ∧ C.fl ≤ st'.nx) ∧ K e st' := fun hne hk => by
    have fm2 : ∀ i v, getS fm i = some v → getS st1.rm i = some v := fun i v h => by rw [hr2]; show getS (fm ++ st.rm) i = _; rw [getS_app, h]; rfl
    have rm2 : ∀ i v, getS st.rm i = some v → getS st1.rm i = some v := fun i v h => by rw [hr2]; show getS (fm ++ st.rm) i = _; rw [getS_app, (rM h).2.2]; exact h
    have halv : ∀ a X, (⟨st.rt, st.rm, st1.t ++ ft, st1.m ++ fm, st1.nx⟩ : SS τ dn).alv a X → st1.alv a X := fun a X hX => by
      rcases hX with hX | hX
      · have hX' : getS (st1.m ++ fm) a = some (some X) := hX
        rw [getS_app] at hX'
        cases hq : getS st1.m a with
        | some w => rw [hq] at hX'; simp only [Option.some_or, Option.some.injEq] at hX'; subst hX'; exact .inl hq
        | none => rw [hq] at hX'; simp only [Option.none_or] at hX'; exact .inr (fm2 a _ hX')
      · exact .inr (rm2 a _ hX)
    refine ⟨e, s1, 0, N1, ⟨st.rt, st.rm, st1.t ++ ft, st1.m ++ fm, st1.nx⟩, .last e1 hne, ⟨fun N' hN => ?_, R1.inj, R1.lt, fun nm B h => ?_, fun nm B h => ?_, fun t A h id hid => ⟨(R1.sp t A (halv 0 _ h) id hid).1, fun nm B hB => (R1.sp t A (halv 0 _ h) id hid).2 nm B (halv nm B hB)⟩⟩, rfl, rfl, hr3, hk⟩
    · have A := R1.at_ N' hN
      have ft2 : ∀ i v, getS ft i = some v → getS st1.rt i = some v := fun i v h => by rw [hr1]; show getS (ft ++ st.rt) i = _; rw [getS_app, h]; rfl
      have rt2 : ∀ i v, getS st.rt i = some v → getS st1.rt i = some v := fun i v h => by rw [hr1]; show getS (ft ++ st.rt) i = _; rw [getS_app, (rT h).2.2]; exact h
      refine ⟨fun i v h => ?_, fun i v h => A.rs i v (rt2 i v h), fun nm B h => ?_, fun nm B h => A.rb nm B (rm2 nm _ h), fun t A' h id hid => A.ar t A' (halv 0 _ h) id hid⟩
      · have h' : getS (st1.t ++ ft) i = some v := h
        rw [getS_app] at h'
        cases hq : getS st1.t i with
        | some w => rw [hq] at h'; simp only [Option.some_or, Option.some.injEq] at h'; subst h'; exact A.sl i _ hq
        | none => rw [hq] at h'; simp only [Option.none_or] at h'; exact A.rs i v (ft2 i v h')
      · have h' : getS (st1.m ++ fm) nm = some (some B) := h
        rw [getS_app] at h'
        cases hq : getS st1.m nm with
        | some w => rw [hq] at h'; simp only [Option.some_or, Option.some.injEq] at h'; subst h'; exact A.bl nm _ hq
        | none => rw [hq] at h'; simp only [Option.none_or] at h'; exact A.rb nm B (fm2 nm _ h')
    · have h' : getS (st1.m ++ fm) nm = some B := h
      rw [getS_app] at h'
      cases hq : getS st1.m nm with
      | some w => exact R1.ml nm w hq
      | none => rw [hq] at h'; simp only [Option.none_or] at h'; exact R1.rl nm B (by rw [hr2]; show getS (fm ++ st.rm) nm = _; rw [getS_app, h']; rfl)
    · exact R1.rl nm B (by rw [hr2]; show getS (fm ++ st.rm) nm = _; rw [getS_app, (rM h).2.2]; exact h)
  cases e with
  | exit i => exact leave (by simp) hk
  | ret => exact leave (by simp) hk
  | normal =>
    simp only at hk
    split at hk
    case h_2 => exact hk.elim
    rename_i x' hx'
    generalize hA : vs.map (nmV st1) = A at hk
    cases hn : nextB vs T A st.nx st1.nx with
    | false => rw [hn] at hk; exact hk.elim
    | true =>
      rw [hn, cond_true] at hk
      unfold nextB at hn
      simp only [Bool.and_eq_true] at hn
      obtain ⟨⟨⟨n1, n2⟩, n3⟩, n4⟩ := hn
      have hfx : ∀ a, a ∈ fixVs vs → mvN vs T A a = a := fun a ha => Nat.eq_of_beq_eq_true (List.all_eq_true.1 n4 a ha)
      have hV := getVs_ok hC.ok R1.here hx'
      rw [hA] at hV
      have hAl : A.length = vs.length := by rw [← hA, List.length_map]
      have hfl' : ∀ c, c < st.nx → mvN vs T A c < st1.nx := fun c hc => lessB_lt ((List.all_eq_true.1 n2) c (List.mem_range.2 hc))
      have hinj : ∀ c d, c < st.nx → d < st.nx → mvN vs T A c = mvN vs T A d → c = d := fun c d hc hd he => by
        rw [List.range_eq_range'] at n1
        exact nodupB_inj n1 c d (Nat.zero_le _) (by omega) (Nat.zero_le _) (by omega) he
      obtain ⟨N2, hN2⟩ : ∃ N2 : Nms, N2 = ⟨fun c => N1.ι (mvN vs T A c), fun c => N1.ln (mvN vs T A c), N1.ρ⟩ := ⟨_, rfl⟩
      have hsame : N1.same (keepP vs T st.nx) N2 := by
        refine ⟨fun c hc => ?_, by rw [hN2]⟩
        rw [hN2]; simp only [mvN_not (kp hc).2, and_self]
      have hV2 : VarsAt C.D N2 s1.σ s1.g vs T x' := by
        refine vars_move C.D (by rw [hN2]) hC.ok hV (by rw [hTl, hAl]) (fun j v c m h0 h1 h2 => ?_) fun a ha => by rw [hN2]; simp only [hfx a ha, and_self]
        have hz : (v, c, m) ∈ vs.zip (T.zip A) := by
          refine List.mem_of_getElem? (i := j) ?_
          rw [List.getElem?_zip_eq_some, List.getElem?_zip_eq_some]
          exact ⟨h0, h1, h2⟩
        have := (List.all_eq_true.1 n3) _ hz
        simp only [Bool.or_eq_true, Bool.and_eq_true] at this
        rcases this with h | ⟨h, h'⟩
        · exact .inl h
        · have e := Nat.eq_of_beq_eq_true h
          refine .inr ⟨by rw [hN2]; simp only [e], by rw [hN2]; simp only [e], ?_⟩
          rcases h' with h' | h'
          · exact .inl h'
          · exact .inr (Nat.eq_of_beq_eq_true h')
      obtain ⟨s2, w2, R2⟩ := tmpl_rel (n := n) (k0 := k0) hC.ok (rt := ft ++ st.rt) (rm := fm ++ st.rm) (nx := st.nx) hV2 o3 hTl (fun i v h => by
          obtain ⟨_, h2, h3⟩ := aT h
          refine ⟨?_, SV.fr_mono hle v h2, h3⟩
          rw [fr_av hsame v h2]
          exact R1.here.rs i v (by rw [hr1]; exact h)) (fun nm B h => by
          obtain ⟨_, h2, h3⟩ := aM h
          refine ⟨(kp h3).1, fun B' hB' => ?_⟩
          subst hB'
          obtain ⟨q1, q2⟩ := R1.here.rb nm B' (by rw [hr2]; exact h)
          obtain ⟨p1, p2⟩ := hsame.1 nm h3
          exact ⟨by rw [p1, frB_av hsame B' (h2 B' rfl)]; exact q1, by rw [p2]; exact q2, SB.fr_mono hle B' (h2 B' rfl)⟩)
        (fun c d hc hd he => hinj c d hc hd (R1.inj _ _ (hfl' c hc) (hfl' d hd) (by rw [hN2] at he; exact he))) (fun c hc => by rw [hN2]; exact R1.lt _ (hfl' c hc))
        (fun t Ar h id hid => by
          have halv : ∀ nm B, (⟨ft ++ st.rt, fm ++ st.rm, putT C.D vs T x', putM C.D vs T x', st.nx⟩ : SS τ dn).alv nm B → (∃ B', st1.alv (mvN vs T A nm) B') ∧ (∀ t Ar, nm = 0 → B = .ar t Ar → st1.alv 0 (.ar t Ar)) := fun nm B hB => by
            rcases hB with hB | hB
            · rcases putM_alive hx' hTl nm B (getS_mem hB) with ⟨j, v, p1, p2, p3, ⟨B', p4⟩, p5⟩ | ⟨hf, ⟨B', p4⟩, p5⟩
              case inr => exact ⟨⟨B', by rw [hfx nm hf]; exact gm_alive p4⟩, fun t Ar h0 he => absurd he (p5 t Ar)⟩
              have hj : A[j]? = some (nmV st1 v) := by rw [← hA, List.getElem?_map, p1]; rfl
              have hz : (v, nm, nmV st1 v) ∈ vs.zip (T.zip A) := by
                refine List.mem_of_getElem? (i := j) ?_
                rw [List.getElem?_zip_eq_some, List.getElem?_zip_eq_some]
                exact ⟨p1, p2, hj⟩
              have := (List.all_eq_true.1 n3) _ hz
              simp only [Bool.or_eq_true, Bool.and_eq_true] at this
              have e := Nat.eq_of_beq_eq_true (this.resolve_left (by rw [p3]; simp)).1
              refine ⟨⟨B', ?_⟩, fun t Ar h0 he => ?_⟩
              · show st1.alv (mvN vs T A nm) B'
                rw [e]; exact gm_alive p4
              · exact gm_alive (p5 t Ar he).2
            · have hB' : getS (fm ++ st.rm) nm = some (some B) := hB
              obtain ⟨_, _, h3⟩ := aM hB'
              refine ⟨⟨B, ?_⟩, fun t Ar h0 he => ?_⟩
              · rw [mvN_not (kp h3).2]; exact .inr (by rw [hr2]; exact hB')
              · subst h0; subst he; exact .inr (by rw [hr2]; exact hB')
          have h1 := (halv 0 _ h).2 t Ar rfl rfl
          obtain ⟨q1, q2⟩ := R1.sp t Ar h1 id hid
          have q3 := R1.here.ar t Ar h1 id hid
          refine ⟨by rw [hN2]; exact q3, q1, fun nm B hB => ?_⟩
          obtain ⟨⟨B', hB'⟩, _⟩ := halv nm B hB
          rw [hN2]; exact q2 _ B' hB')
      obtain ⟨e, s', j, N3, st', c1, c2, c3, c4, c5, c6⟩ := next x' hk.2 hk.1 N2 s2 R2
      have hag : N1.agree C.fl N2 := ⟨fun c hc => by
        have hno : ¬ c ∈ movesV vs T := fun hm => absurd (Nat.le_of_ble_eq_true (List.all_eq_true.1 hmv c hm)) (by omega)
        rw [hN2]; simp only [mvN_not hno, and_self], by rw [hN2]⟩
      exact ⟨e, s', j + 1, N3, st', .step e1 w2 c1, c2, c3, c4, ⟨Nms.agree_trans (Nms.agree_trans hr3.1 hag (Nat.le_refl _)) c5.1 (Nat.le_refl _), c5.2⟩, c6⟩
theorem loop_ok {C : Cfg τ dn} (hC : C.Ok) {n k0 : Nat} {a : AC} {B : SS τ dn → (Ex → SS τ dn → Prop) → Prop} (hB : ∀ {st : SS τ dn} {K : Ex → SS τ dn → Prop} {N : Nms} {s : S3}, Rel C.D N st s → C.fl ≤ st.nx → B st K → Ends C n k0 a N st s K) {vs : List (VK τ)} {I0 : VT dn vs → VT dn vs → Prop} {ms0 : VT dn vs → VT dn vs → Nat} {asg : List Nat}
    {st : SS τ dn} {K : Ex → SS τ dn → Prop} {N : Nms} {s : S3} (R : Rel C.D N st s) (hfl : C.fl ≤ st.nx) (h : loopW C.D C.fl vs I0 ms0 asg B st K) : Ends C n k0 (.loop a) N st s K := by
  unfold loopW at h
  split at h
  case h_1 => exact h.elim
  rename_i x0 hx0
  generalize hI : I0 x0 = I at h
  generalize hms : ms0 x0 = ms at h
  generalize hT : vs.map (nmV st) = T at h
  generalize hft : cleanT (keepP vs T st.nx) (slotsV vs ++ asg) st.t = ft at h
  generalize hfm : cleanM (keepP vs T st.nx) (namesV vs T) st.m = fm at h
  unfold loopW1 at h
  cases hok : okB vs T st (keepP vs T st.nx) ft fm && (movesV vs T).all (Nat.ble C.fl) with
  | false => rw [hok] at h; exact h.elim
  | true =>
  rw [hok, cond_true] at h
  rw [Bool.and_eq_true] at hok
  obtain ⟨hok, hmv⟩ := hok
  obtain ⟨hI0, hall⟩ := h
  rw [allV_iff] at hall
  unfold okB at hok
  simp only [Bool.and_eq_true] at hok
  obtain ⟨⟨⟨⟨o1, o2⟩, o3⟩, o4⟩, o5⟩ := hok
  have hTl : T.length = vs.length := by rw [← hT, List.length_map]
  have kp : ∀ {a}, keepP vs T st.nx a = true → a < st.nx ∧ ¬ a ∈ movesV vs T := fun {a} h => by
    unfold keepP at h
    rw [Bool.and_eq_true] at h
    refine ⟨lessB_lt h.1, fun hm => ?_⟩
    have := h.2
    rw [hasN_iff.2 hm] at this; simp at this
  have hle : ∀ a, keepP vs T st.nx a = true → lessB st.nx a = true := fun a h => by
    unfold keepP at h; rw [Bool.and_eq_true] at h; exact h.1
  have fT : ∀ {i v}, getS ft i = some v → getS st.t i = some v ∧ v.fr (keepP vs T st.nx) = true ∧ ¬ i ∈ slotsV vs := fun {i v} h => by
    rw [← hft] at h
    obtain ⟨h1, h2, h3⟩ := cleanT_ok h
    exact ⟨h1, h2, fun hh => h3 (List.mem_append_left _ hh)⟩
  have fM : ∀ {i v}, getS fm i = some v → getS st.m i = some v ∧ (∃ B, v = some B ∧ B.fr (keepP vs T st.nx) = true) ∧ keepP vs T st.nx i = true := fun {i v} h => by
    rw [← hfm] at h
    obtain ⟨h1, h2, h3, _⟩ := cleanM_ok h
    exact ⟨h1, h2, h3⟩
  have rT : ∀ {i v}, getS st.rt i = some v → v.fr (keepP vs T st.nx) = true ∧ ¬ i ∈ slotsV vs ∧ getS ft i = none := fun {i v} h => by
    have := (List.all_eq_true.1 o1) _ (getS_mem h)
    simp only [Bool.and_eq_true, Bool.not_eq_true', Option.isNone_iff_eq_none] at this
    exact ⟨this.1.1, fun hh => by rw [hasN_iff.2 hh] at this; simp at this, this.2⟩
  have rM : ∀ {i v}, getS st.rm i = some v → keepP vs T st.nx i = true ∧ (∀ B, v = some B → B.fr (keepP vs T st.nx) = true) ∧ getS fm i = none := fun {i v} h => by
    have := (List.all_eq_true.1 o2) _ (getS_mem h)
    simp only [Bool.and_eq_true, Option.isNone_iff_eq_none] at this
    exact ⟨this.1.1, fun B hB => by subst hB; exact this.1.2, this.2⟩
  have aT : ∀ {i v}, getS (ft ++ st.rt) i = some v → (getS ft i = some v ∨ getS st.rt i = some v) ∧ v.fr (keepP vs T st.nx) = true ∧ ¬ i ∈ slotsV vs := fun {i v} h => by
    rw [getS_app] at h
    cases hf : getS ft i with
    | some w => rw [hf] at h; simp only [Option.some_or, Option.some.injEq] at h; subst h; exact ⟨.inl rfl, (fT hf).2⟩
    | none => rw [hf] at h; simp only [Option.none_or] at h; exact ⟨.inr h, (rT h).1, (rT h).2.1⟩
  have aM : ∀ {i v}, getS (fm ++ st.rm) i = some v → (getS fm i = some v ∨ getS st.rm i = some v) ∧ (∀ B, v = some B → B.fr (keepP vs T st.nx) = true) ∧ keepP vs T st.nx i = true := fun {i v} h => by
    rw [getS_app] at h
    cases hf : getS fm i with
    | some w =>
      rw [hf] at h; simp only [Option.some_or, Option.some.injEq] at h; subst h
      obtain ⟨h1, ⟨B, h2, h3⟩, h4⟩ := fM hf
      exact ⟨.inl rfl, fun B' hB' => by rw [h2, Option.some.injEq] at hB'; subst hB'; exact h3, h4⟩
    | none => rw [hf] at h; simp only [Option.none_or] at h; exact ⟨.inr h, (rM h).2.1, (rM h).1⟩
  -- the rounds
  have rounds : ∀ (m : Nat) (x : VT dn vs) (N' : Nms) (s0 : S3), ms x ≤ m → I x → Rel C.D N' ⟨ft ++ st.rt, fm ++ st.rm, putT C.D vs T x, putM C.D vs T x, st.nx⟩ s0 →
      ∃ e s' j N2 st', Ch C.P n k0 a e s' j s0 ∧ Rel C.D N2 st' s' ∧ st'.rt = st.rt ∧ st'.rm = st.rm ∧ (N'.agree C.fl N2 ∧ C.fl ≤ st'.nx) ∧ K e st' := by
    intro m
    induction m with
    | zero =>
      intro x N' s0 hm hI R0
      exact loop_round hC hB hT hTl kp hle aT aM fT fM rT rM o3 hfl hmv (hall x hI) R0 fun x' hlt => absurd hlt (by omega)
    | succ m ih =>
      intro x N' s0 hm hI R0
      exact loop_round hC hB hT hTl kp hle aT aM fT fM rT rM o3 hfl hmv (hall x hI) R0 fun x' hlt hI' N2 s2 R2 => ih x' N2 s2 (by omega) hI' R2
  have hV := getVs_ok hC.ok R.here hx0
  rw [hT] at hV
  obtain ⟨s1, w1, R1⟩ := tmpl_rel (n := n) (k0 := k0) hC.ok (rt := ft ++ st.rt) (rm := fm ++ st.rm) hV o3 hTl (fun i v h => by
      obtain ⟨h1, h2, h3⟩ := aT h
      refine ⟨?_, SV.fr_mono hle v h2, h3⟩
      rcases h1 with h1 | h1
      · exact R.here.sl i v (fT h1).1
      · exact R.here.rs i v h1) (fun nm B h => by
      obtain ⟨h1, h2, h3⟩ := aM h
      refine ⟨(kp h3).1, fun B' hB' => ?_⟩
      subst hB'
      have : s.g (N.ι nm) = some (B'.av C.D.toTE N) ∧ N.ln nm = B'.len := by
        rcases h1 with h1 | h1
        · exact R.here.bl nm B' (fM h1).1
        · exact R.here.rb nm B' h1
      exact ⟨this.1, this.2, SB.fr_mono hle B' (h2 B' rfl)⟩) R.inj R.lt
      (fun t Ar h id hid => by
        have halv : ∀ nm B, (⟨ft ++ st.rt, fm ++ st.rm, putT C.D vs T x0, putM C.D vs T x0, st.nx⟩ : SS τ dn).alv nm B → (∃ B', st.alv nm B') ∧ (∀ t Ar, nm = 0 → B = .ar t Ar → st.alv 0 (.ar t Ar)) := fun nm B hB => by
          rcases hB with hB | hB
          · rcases putM_alive hx0 hTl nm B (getS_mem hB) with ⟨j, v, p1, p2, p3, ⟨B', p4⟩, p5⟩ | ⟨hf, ⟨B', p4⟩, p5⟩
            case inr => exact ⟨⟨B', gm_alive p4⟩, fun t Ar h0 he => absurd he (p5 t Ar)⟩
            have hj : nmV st v = nm := by
              have : T[j]? = some (nmV st v) := by rw [← hT, List.getElem?_map, p1]; rfl
              rw [p2] at this; simpa using this.symm
            exact ⟨⟨B', hj ▸ gm_alive p4⟩, fun t Ar h0 he => gm_alive (p5 t Ar he).2⟩
          · have hB' : getS (fm ++ st.rm) nm = some (some B) := hB
            have : st.alv nm B := by
              rcases (aM hB').1 with h1 | h1
              · exact .inl (fM h1).1
              · exact .inr h1
            exact ⟨⟨B, this⟩, fun t Ar h0 he => by subst h0; subst he; exact this⟩
        have h1 := (halv 0 _ h).2 t Ar rfl rfl
        obtain ⟨q1, q2⟩ := R.sp t Ar h1 id hid
        exact ⟨R.here.ar t Ar h1 id hid, q1, fun nm B hB => by obtain ⟨⟨B', hB'⟩, _⟩ := halv nm B hB; exact q2 nm B' hB'⟩)
  obtain ⟨e, s', j, N2, st', c1, c2, c3, c4, c5, c6⟩ := rounds (ms x0) x0 N s1 (Nat.le_refl _) hI0 R1
  exact ⟨e, s', N2, st', ED.weak w1 (ED.loop c1), c2, c3, c4, c5, c6⟩
theorem wpPs_ok {C : Cfg τ dn} (hC : C.Ok) {n k0 : Nat} {an : Nat → Option (LA τ dn)} : ∀ (ps : List (List AOper)) {st : SS τ dn} {K : SS τ dn → Prop} {N : Nms} {s : S3}, Rel C.D N st s → wpPs C n an ps st K →
    ∃ s' N' st', PsRun C.P n k0 ps s s' ∧ Rel C.D N' st' s' ∧ (st'.rt = st.rt ∧ st'.rm = st.rm) ∧ N.agree st.nx N' ∧ st.nx ≤ st'.nx ∧ K st'
  | [], st, K, N, s, R, h => ⟨s, N, st, .nil, R, ⟨rfl, rfl⟩, N.agree_refl _, Nat.le_refl _, h⟩
  | p :: ps, st, K, N, s, R, h => by
    simp only [wpPs] at h
    obtain ⟨s1, st1, w1, R1, z1, z2, z3, h⟩ := frzW_ok (n := n) (k0 := k0) hC.ok _ R h
    obtain ⟨st2', R2', y1', y2', y3', h⟩ := splW_ok R1 h
    obtain ⟨st2'', R2'', y1'', y2'', y3'', h⟩ := cutW_ok hC.ok R2' h
    obtain ⟨st2e, R2e, y1e, y2e, y3e, h⟩ := eqW_ok R2'' h
    obtain ⟨st2, R2, y1, y2, y3, h⟩ := tkW_ok hC.ok R2e h
    rw [y1e, y1'', y1'] at y1; rw [y2e, y2'', y2'] at y2; rw [y3e, y3'', y3'] at y3
    obtain ⟨s3, N3, st3, e3, R3, r1, r2, r3, h⟩ := wpOps_seq (hC.wo (uncOf an p)) (k0 := k0) R2 h
    obtain ⟨s4, N4, st4, e4, R4, q1, q2, q3, h⟩ := wpPs_ok hC (k0 := k0) ps R3 h
    rw [y1, y2, z1, z2] at r1
    rw [y3, z3] at r2 r3
    exact ⟨s4, N4, st4, .cons w1 e3 e4, R4, ⟨q1.1.trans r1.1, q1.2.trans r1.2⟩, Nms.agree_trans r2 q2 r3, Nat.le_trans r3 q3, h⟩
theorem wpC_ok {C : Cfg τ dn} (hC : C.Ok) {n k0 : Nat} {an : Nat → Option (LA τ dn)} : ∀ (ac : AC) (k : Nat) {st : SS τ dn} {K : Ex → SS τ dn → Prop} {N : Nms} {s : S3}, Rel C.D N st s → C.fl ≤ st.nx → wpC C n an ac k st K → Ends C n k0 ac N st s K
  | .skip, k, st, K, N, s, R, hl, h => ⟨_, s, N, st, ED.skip, R, rfl, rfl, ⟨N.agree_refl _, hl⟩, h⟩
  | .ret, k, st, K, N, s, R, hl, h => ⟨_, s, N, st, ED.ret, R, rfl, rfl, ⟨N.agree_refl _, hl⟩, h⟩
  | .exit i, k, st, K, N, s, R, hl, h => ⟨_, s, N, st, ED.exit, R, rfl, rfl, ⟨N.agree_refl _, hl⟩, h⟩
  | .seq a b, k, st, K, N, s, R, hl, h => by
    simp only [wpC] at h
    obtain ⟨e, s1, N1, st1, e1, R1, r1, r2, r3, hk⟩ := wpC_ok hC a k R hl h
    cases e with
    | normal =>
      obtain ⟨e, s2, N2, st2, e2, R2, q1, q2, q3, hk2⟩ := wpC_ok hC b _ R1 r3.2 hk
      exact ⟨e, s2, N2, st2, ED.seq e1 e2, R2, q1.trans r1, q2.trans r2, ⟨Nms.agree_trans r3.1 q3.1 (Nat.le_refl _), q3.2⟩, hk2⟩
    | exit i => exact ⟨_, s1, N1, st1, ED.seqX e1 (by simp), R1, r1, r2, r3, hk⟩
    | ret => exact ⟨_, s1, N1, st1, ED.seqX e1 (by simp), R1, r1, r2, r3, hk⟩
  | .cond c a b, k, st, K, N, s, R, hl, h => by
    simp only [wpC] at h
    have go : ∀ p : Bool, argσ s.σ c = .v (.bool p) → (p = true → Ends C n k0 a N st s K) → (p = false → Ends C n k0 b N st s K) → Ends C n k0 (.cond c a b) N st s K := fun p hp h1 h2 => by
      cases p with
      | true =>
        obtain ⟨e, s1, N1, st1, e1, R1, r1, r2, r3, hk⟩ := h1 rfl
        exact ⟨e, s1, N1, st1, ED.cond hp (by rw [if_pos rfl]; exact e1), R1, r1, r2, r3, hk⟩
      | false =>
        obtain ⟨e, s1, N1, st1, e1, R1, r1, r2, r3, hk⟩ := h2 rfl
        exact ⟨e, s1, N1, st1, ED.cond hp (by rw [if_neg (by simp)]; exact e1), R1, r1, r2, r3, hk⟩
    split at h
    · rename_i hc
      exact go true (R.here.ev hc) (fun _ => wpC_ok hC a k R hl h) (fun hh => by simp at hh)
    · rename_i hc
      exact go false (R.here.ev hc) (fun hh => by simp at hh) (fun _ => wpC_ok hC b _ R hl h)
    · rename_i c' hc
      split at h
      · rename_i O st' hm
        rw [obl_iff] at h
        obtain ⟨hO, hk⟩ := h
        have idl : ∀ {x : AC}, x = .skip → Rel C.D N st' s → st'.rt = st.rt ∧ st'.rm = st.rm ∧ st'.nx = st.nx → Ends C n k0 x N st s K := fun {x} hx hR hs => by
          subst hx
          exact ⟨_, s, N, st', ED.skip, hR, hs.1, hs.2.1, ⟨N.agree_refl _, by rw [hs.2.2]; exact hl⟩, hk⟩
        have run : ∀ {x : AC} {os : List AOper}, x = .reg os none → (∃ s' N', OpsRun C.P n k0 os s.σ s.g s.k s'.σ s'.g s'.k ∧ Rel C.D N' st' s' ∧ N.agree st.nx N') → st'.rt = st.rt ∧ st'.rm = st.rm ∧ st'.nx = st.nx → Ends C n k0 x N st s K := fun {x os} hx hR hs => by
          subst hx
          obtain ⟨s', N', q1, q2, q3⟩ := hR
          exact ⟨_, s', N', st', ED.reg q1, q2, hs.1, hs.2.1, ⟨agree_le q3 hl, by rw [hs.2.2]; exact hl⟩, hk⟩
        unfold mrgC at hm
        split at hm
        · obtain ⟨q1, q2, q3⟩ := mrgS_ok (k0 := k0) hC hm hO R
          exact go c'.den (R.here.ev hc) (fun hh => idl rfl (q2 hh) q1) (fun hh => run rfl (q3 hh) q1)
        · obtain ⟨q1, q2, q3⟩ := mrgS_ok (k0 := k0) hC hm hO R
          exact go c'.den (R.here.ev hc) (fun hh => run rfl (q3 hh) q1) (fun hh => idl rfl (q2 hh) q1)
        · simp at hm
      exact go c'.den (R.here.ev hc) (fun hh => wpC_ok hC a k R hl (h.1 ((Cn.tf_iff c' true).2 hh))) (fun hh => wpC_ok hC b _ R hl (h.2 ((Cn.tf_iff c' false).2 hh)))
    · exact h.elim
  | .block i a, k, st, K, N, s, R, hl, h => by
    simp only [wpC] at h
    obtain ⟨e, s1, N1, st1, e1, R1, r1, r2, r3, hk⟩ := wpC_ok hC a k R hl h
    exact ⟨_, s1, N1, st1, ED.block e1, R1, r1, r2, r3, hk⟩
  | .loop a, k, st, K, N, s, R, hl, h => by
    simp only [wpC] at h
    split at h
    · rename_i m hm
      obtain ⟨e, s2, j, N2, st2, c1, c2, c3, c4, c5, c6⟩ := unr_ok (fun R hl h => wpC_ok hC a (k + 1) R hl h) m R hl h
      exact ⟨e, s2, N2, st2, ED.loop c1, c2, c3, c4, c5, c6⟩
    · rename_i vs I ms hm
      obtain ⟨s1, N1, w1, R1, r1, r2, r3, r4⟩ := adopt_rel (n := n) (k0 := k0) (vs := vs) R
      obtain ⟨e, s2, N2, st2, e2, R2, q1, q2, q3, hk⟩ := loop_ok hC (fun R hl h => wpC_ok hC a (k + 1) R hl h) R1 (Nat.le_trans hl r4) h
      exact ⟨e, s2, N2, st2, ED.weak w1 e2, R2, q1.trans r1, q2.trans r2, ⟨Nms.agree_trans (agree_le r3 hl) q3.1 (Nat.le_refl _), q3.2⟩, hk⟩
    · exact h.elim
  | .reg os none, k, st, K, N, s, R, hl, h => by
    simp only [wpC] at h
    obtain ⟨s', N', st', e1, R1, r1, r2, r3, hk⟩ := wpPs_ok hC (k0 := k0) _ R h
    have e2 := ED.regs e1
    rw [pieces_flat] at e2
    exact ⟨_, s', N', st', e2, R1, r1.1, r1.2, ⟨agree_le r2 hl, Nat.le_trans hl r3⟩, hk⟩
  | .reg os (some dep), k, st, K, N, s, R, hl, h => by
    simp only [wpC] at h
    obtain ⟨s1, st1, w1, R1, z1, z2, z3, h⟩ := frzW_ok (n := n) (k0 := k0) hC.ok _ R h
    obtain ⟨st2'', R1'', y1'', y2'', y3'', h⟩ := cutW_ok hC.ok R1 h
    obtain ⟨st2, R1, y1, y2, y3, h⟩ := eqW_ok R1'' h
    rw [y1''] at y1; rw [y2''] at y2; rw [y3''] at y3
    obtain ⟨s', N', st', e1, R1, r1, r2, r3, hk⟩ := wpOps_draw (hC.wo (uncOf an os)) R1 h
    rw [y1, y2, z1, z2] at r1
    rw [y3, z3] at r2 r3
    exact ⟨_, s', N', st', ED.weak w1 (ED.draw e1), R1, r1.1, r1.2, ⟨agree_le r2 hl, Nat.le_trans hl r3⟩, hk⟩
  | .rng _ _ _ _, k, st, K, N, s, R, hl, h => by simp only [wpC] at h
def st0 (D : TD τ dn) (vs : List (SV τ dn)) : SS τ dn := match D.ar with
  | none => ⟨[], [], startS vs 0, [], 0⟩
  | some t => ⟨[], [], startS vs 0, [(0, some (.ar t []))], 1⟩
def resT : List ARes → List Nat
  | [] => []
  | .tmp i :: r | .cell i _ :: r => i :: resT r
def wpF (C : Cfg τ dn) (F : AFn) (an : Nat → Option (LA τ dn)) (vs : List (SV τ dn)) (rs : List τ) (r : RD dn rs) : Prop :=
  bif Nat.ble vs.length F.n && rs.all C.D.pu && Nat.beq C.fl 0 then wpC C F.n an F.code 0 (st0 C.D vs) fun e st => match e with
    | .exit _ => False
    | _ => frzW C.D false (st.nmsOf (resT F.res)) st fun st => match resS C.D st F.res with
      | some (O, l) => match snapMS C.D st l with
        | some l' => match deR C.D rs l' with
          | some y => obl O (y = r)
          | none => False
        | none => False
      | none => False
  else False
theorem wpF_ok {C : Cfg τ dn} (hC : C.Ok) {f : FuncId} {F : AFn} (hF : cFunc C.P f = some F) {an : Nat → Option (LA τ dn)} {vs : List (SV τ dn)} {rs : List τ} {r : RD dn rs} (N : Nms) (hfr : SV.frL (fun _ => false) vs = true) (h : wpF C F an vs rs r) : Fn C.P f (vs.map (SV.av C.D.toTE N)) ((oneS (enR C.D rs r)).av C.D.toTE N) := by
  unfold wpF at h
  cases hb : (Nat.ble vs.length F.n && rs.all C.D.pu && Nat.beq C.fl 0) with
  | false => rw [hb] at h; exact h.elim
  | true =>
  rw [hb, cond_true] at h
  rw [Bool.and_eq_true, Bool.and_eq_true] at hb
  obtain ⟨hb, hz⟩ := hb
  have hz := Nat.eq_of_beq_eq_true hz
  have hl : vs.length ≤ F.n := Nat.le_of_ble_eq_true hb.1
  have hsl : ∀ (N' : Nms), N'.ρ = N.ρ → ∀ i v, getS (startS vs 0) i = some v → σ0 (vs.map (SV.av C.D.toTE N)) i = v.av C.D.toTE N' := fun N' hρ i v hv => by
    obtain ⟨_, h2⟩ := startS_get hv
    rw [Nat.sub_zero] at h2
    have hs : N.same (fun _ => false) N' := ⟨fun a ha => by simp at ha, hρ⟩
    have hm : ∀ (l : List (SV τ dn)) (j : Nat) w, SV.frL (fun _ => false) l = true → l[j]? = some w → w.fr (fun _ => false) = true := by
      intro l
      induction l with
      | nil => intro j w _ hw; simp at hw
      | cons a l ih =>
        intro j w hl hw
        simp only [SV.frL, Bool.and_eq_true] at hl
        cases j with
        | zero => simp only [List.getElem?_cons_zero, Option.some.injEq] at hw; subst hw; exact hl.1
        | succ j => exact ih j w hl.2 (by simpa using hw)
    unfold σ0
    rw [List.getElem?_map, h2]
    exact (fr_av hs v (hm vs i v hfr h2)).symm
  have R0 : ∃ s0 N0, S3.Le 0 F.n ⟨σ0 (vs.map (SV.av C.D.toTE N)), fun _ => none, 0⟩ s0 ∧ Rel C.D N0 (st0 C.D vs) s0 := by
    unfold st0
    split
    · refine ⟨_, N, S3.Le.refl', ⟨fun N' hN => ⟨fun i v hv => hsl N' hN.2 i v hv, fun i v hv => by simp [getS] at hv, fun nm B hB => by simp [getS] at hB, fun nm B hB => by simp [getS] at hB, fun t A h => by rcases h with h | h <;> simp [getS] at h⟩, fun a b ha => absurd ha (Nat.not_lt_zero _), fun a ha => absurd ha (Nat.not_lt_zero _), fun nm B hB => by simp [getS] at hB, fun nm B hB => by simp [getS] at hB, fun t A h => by rcases h with h | h <;> simp [getS] at h⟩⟩
    · rename_i t _
      have ha0 : ∀ t' A, (⟨[], [], startS vs 0, [(0, some (.ar t []))], 1⟩ : SS τ dn).alv 0 (.ar t' A) → ∀ id, ¬ hasA A id := fun t' A h id => by
        rcases h with h | h
        · simp only [getS_cons, if_true, Option.some.injEq, SB.ar.injEq] at h
          obtain ⟨rfl, h⟩ := h
          have h := eq_of_heq h
          subst h; exact hasA_nil
        · simp [getS] at h
      refine ⟨_, ⟨fun _ => 0, fun _ => 0, N.ρ⟩, S3.le_phantom (C.D.sz t), ⟨fun N' hN => ⟨fun i v hv => hsl N' hN.2 i v hv, fun i v hv => by simp [getS] at hv, fun nm B hB => ?_, fun nm B hB => by simp [getS] at hB, fun t' A h id hid => absurd hid (ha0 t' A h id)⟩, fun a b ha hb _ => ?_, fun a ha => ?_, fun nm B hB => ?_, fun nm B hB => by simp [getS] at hB, fun t' A h id hid => absurd hid (ha0 t' A h id)⟩⟩
      · have hB' : getS [(0, some (SB.ar t ([] : List (Nat × List (dn t)))))] nm = some (some B) := hB
        rw [getS_cons] at hB'
        by_cases hn : nm = 0
        · subst hn
          simp only [if_true, Option.some.injEq] at hB'
          subst hB'
          have e := hN.1 0 (Nat.lt_succ_self 0)
          refine ⟨?_, e.2⟩
          show gput _ _ (N'.ι 0) = _
          rw [e.1]; rfl
        · rw [if_neg hn] at hB'; simp [getS] at hB'
      · have : a < 1 := ha
        have : b < 1 := hb
        omega
      · exact Nat.lt_succ_self 0
      · have hB' : getS [(0, some (SB.ar t ([] : List (Nat × List (dn t)))))] nm = some B := hB
        rw [getS_cons] at hB'
        by_cases hn : nm = 0
        · subst hn; exact Nat.lt_succ_self 0
        · rw [if_neg hn] at hB'; simp [getS] at hB'
  obtain ⟨s0, N0, w0, R0⟩ := R0
  refine fn_ofW hF (by rw [List.length_map]; exact hl) ?_
  obtain ⟨e, s', N', st', e1, R1, _, _, _, hk⟩ := wpC_ok hC (n := F.n) (k0 := 0) F.code 0 R0 (by rw [hz]; exact Nat.zero_le _) h
  have e1 := ED.weak w0 e1
  have hk2 : (e = .normal ∨ e = .ret) ∧ frzW C.D false (st'.nmsOf (resT F.res)) st' fun st' => match resS C.D st' F.res with
      | some (O, l) => match snapMS C.D st' l with
        | some l' => match deR C.D rs l' with
          | some y => obl O (y = r)
          | none => False
        | none => False
      | none => False := by
    cases e with
    | normal => exact ⟨.inl rfl, hk⟩
    | ret => exact ⟨.inr rfl, hk⟩
    | exit i => exact hk.elim
  clear hk
  obtain ⟨he, hk⟩ := hk2
  obtain ⟨s2, st2, w2, R2, _, _, _, hk2⟩ := frzW_ok (n := F.n) (k0 := 0) hC.ok _ R1 hk
  clear hk
  have e1 := ED.post e1 w2
  clear R1 w2
  revert hk2 R2
  generalize st2 = st'
  intro R1 hk
  refine EW.conseq e1 fun x t ht => ?_
  obtain ⟨rfl, rfl⟩ := ht
  have fin : (match resS C.D st' F.res with
      | some (O, l) => match snapMS C.D st' l with
        | some l' => match deR C.D rs l' with
          | some y => obl O (y = r)
          | none => False
        | none => False
      | none => False) → ∃ r', ((resR t.σ F.res).bind snapR).run t.g = some r' ∧ Ale r' ((oneS (enR C.D rs r)).av C.D.toTE N) := fun hk => by
    split at hk
    case h_2 => exact hk.elim
    rename_i O l hr
    split at hk
    case h_2 => exact hk.elim
    rename_i l' hs
    split at hk
    case h_2 => exact hk.elim
    rename_i y hy
    rw [obl_iff] at hk
    obtain ⟨hO, rfl⟩ := hk
    have q1 := resS_ok hC.ok R1.here hr hO
    have q2 := snapMS_ok hC.ok R1.here hs
    have q3 : (resR t.σ F.res).run t.g = some (one1 (l.map (SV.av C.D.toTE N'))) := by
      unfold resR
      rw [run_bindS q1]; rfl
    have q4 : (snapR (one1 (l.map (SV.av C.D.toTE N')))).run t.g = some (one1 (l'.map (SV.av C.D.toTE N'))) := by
      have hlen := snapMS_len hs
      match l, l', q2, hlen with
      | [], [], q2, _ => exact run_bindS q2
      | [v], [v'], q2, _ =>
        have : (snapA (v.av C.D.toTE N')).run t.g = some (v'.av C.D.toTE N') := by
          simp only [snapMS] at hs
          split at hs
          · rename_i x l2 h1 h2
            simp only [Option.some.injEq] at h2; subst h2
            simp only [Option.some.injEq, List.cons.injEq, and_true] at hs; subst hs
            exact snapAS_ok hC.ok R1.here h1
          · simp at hs
        exact snapR_one this
      | v :: w :: l2, v' :: w' :: l2', q2, _ =>
        show ((snapAs ((v :: w :: l2).map (SV.av C.D.toTE N'))).bind fun l => RM.ret (AV.tup l)).run t.g = _
        rw [run_bindS q2]; rfl
    refine ⟨_, (run_bindS q3).trans q4, ?_⟩
    refine Ale.trans (one1_le (deR_le (N := N') hC.ok hy)) (Ale.of_eq ?_)
    rw [oneS_av, enR_pu hC.ok rs y hb.2]
  exact ⟨he, fin hk⟩
end
open Go.RowKit
section
variable {τ : Type} {dn : τ → Type} {D : TD τ dn}
theorem encC_fr (ok : TDok D) {p : Nat → Bool} : ∀ (cs : List (Bool × τ)) (x : CD dn cs), SV.frL p (encC D cs x) = true
  | [], _ => rfl
  | (false, t) :: r, x => by simp only [encC, SV.frL, en_fr ok, encC_fr ok r x.2, Bool.and_self]
  | (true, t) :: r, x => by simp only [encC, SV.frL, SV.fr, ok.nf, encC_fr ok r x.2, Bool.and_self]
theorem encP_fr (ok : TDok D) {p : Nat → Bool} : ∀ (ps : List (Pt τ)) (x : PD dn ps), SV.frL p (encP D ps x) = true
  | [], _ => rfl
  | .ty t :: r, x => by simp only [encP, Pt.enc, SV.frL, en_fr ok, encP_fr ok r x.2, Bool.and_self]
  | .ptr t :: r, x => by simp only [encP, Pt.enc, SV.frL, SV.fr, ok.nf, encP_fr ok r x.2, Bool.and_self]
  | .fnc f cs :: r, x => by simp only [encP, Pt.enc, SV.frL, SV.fr, encC_fr ok, encP_fr ok r x.2, Bool.and_self]
inductive IK (τ : Type) (dn : τ → Type) where
  | fn (F : AFn) (an : Nat → Option (LA τ dn))
  | del (t : τ) (by_ : Nat) (zs : List AV)
structure IL (τ : Type) (dn : τ → Type) where
  f : FuncId
  k : IK τ dn
  cl : Option FuncId := none
def hasF (g : FuncId) : List (SV τ dn) → Bool
  | [] => false
  | .fn f _ :: r => Nat.beq f g || hasF g r
  | _ :: r => hasF g r
def findI : List (IL τ dn) → FuncId → List (SV τ dn) → Option (IL τ dn)
  | [], _, _ => none
  | i :: r, f, vs => bif Nat.beq i.f f && (match i.cl with | none => true | some g => hasF g vs) then some i else findI r f vs
def Cons (P : Program) (D : TD τ dn) : List (Con τ dn) → Prop
  | [] => True
  | c :: r => c.Ok P D ∧ Cons P D r
def ConsO (P : Program) (D : TD τ dn) : List (ConO τ dn) → Prop
  | [] => True
  | c :: r => c.Ok P D ∧ ConsO P D r
def IK.Ok (P : Program) (D : TD τ dn) (f : FuncId) : IK τ dn → Prop
  | .fn F _ => cFunc P f = some F ∧ callable P f = true
  | .del t by_ zs => cFunc P f = some (DelF (D.sz t) by_ zs) ∧ callable P f = true ∧ zs.length = D.sz t
def ILs (P : Program) (D : TD τ dn) : List (IL τ dn) → Prop
  | [] => True
  | i :: r => i.k.Ok P D i.f ∧ ILs P D r
theorem cons_mem {P : Program} : ∀ {Δ : List (Con τ dn)}, Cons P D Δ → ∀ c, c ∈ Δ → c.Ok P D
  | [], _, c, hc => by simp at hc
  | d :: r, h, c, hc => by
    rcases List.mem_cons.1 hc with rfl | hc
    · exact h.1
    · exact cons_mem h.2 c hc
theorem consO_mem {P : Program} : ∀ {Ω : List (ConO τ dn)}, ConsO P D Ω → ∀ c, c ∈ Ω → c.Ok P D
  | [], _, c, hc => by simp at hc
  | d :: r, h, c, hc => by
    rcases List.mem_cons.1 hc with rfl | hc
    · exact h.1
    · exact consO_mem h.2 c hc
theorem findI_ok {P : Program} : ∀ {il : List (IL τ dn)}, ILs P D il → ∀ {f vs i}, findI il f vs = some i → i.k.Ok P D f
  | [], _, f, vs, i, h => by simp [findI] at h
  | j :: r, h, f, vs, i, hi => by
    simp only [findI] at hi
    cases hb : (Nat.beq j.f f && (match j.cl with | none => true | some g => hasF g vs)) with
    | false => rw [hb, cond_false] at hi; exact findI_ok h.2 hi
    | true =>
      rw [hb, cond_true, Option.some.injEq] at hi
      subst hi
      rw [Bool.and_eq_true] at hb
      rw [← Nat.eq_of_beq_eq_true hb.1]; exact h.1
theorem fi_look {P : Program} {f : FuncId} {as_ : List AV} {g g' : Nat → Option Bk} {k k' : Nat} {r : AV} (h : ∀ m : List (Option Bk), m.length = k → look m = g → Fi P f as_ (look m) m.length r g' k') : Fi P f as_ g k r g' k' := by
  intro E J base vs hG hm hkn hrc
  have hg : look ((List.range k).map g) = g := by
    funext id
    unfold look
    rcases Nat.lt_or_ge id k with h1 | h1
    · simp [h1]
    · rw [List.getElem?_eq_none (by simpa using h1)]
      cases hq : g id with
      | none => rfl
      | some B => exact absurd (hkn id ((hm.live id).2 ⟨B, hq⟩).1) (by omega)
  have := h _ (by simp) hg
  rw [hg, List.length_map, List.length_range] at this
  exact this E J base vs hG hm hkn hrc
variable [DecidableEq τ]
def inlW (C : Cfg τ dn) (F : AFn) (an : Nat → Option (LA τ dn)) (vs : List (SV τ dn)) (st : SS τ dn) (K : SV τ dn → SS τ dn → Prop) : Prop :=
  bif Nat.ble vs.length F.n then wpC C F.n an F.code 0 ⟨[], st.rm, startS vs 0, st.m, st.nx⟩ fun e st' => match e with
    | .exit _ => False
    | _ => match resS C.D st' F.res with
      | some (O, l) => obl O (K (oneS l) st')
      | none => False
  else False
theorem inlW_ok {C : Cfg τ dn} (hC : C.Ok) {f : FuncId} {F : AFn} (hF : cFunc C.P f = some F) (hc : callable C.P f = true) {an : Nat → Option (LA τ dn)} {vs : List (SV τ dn)} {st : SS τ dn} {K : SV τ dn → SS τ dn → Prop} {N : Nms} {s : S3} (R : Rel C.D N st s) (hfl : C.fl = st.nx)
    (ha : ∀ N', N.agree st.nx N' → vs.map (SV.av C.D.toTE N') = vs.map (SV.av C.D.toTE N)) (h : inlW C F an vs st K) : JOut C.P C.D f vs st K N s := by
  unfold inlW at h
  cases hb : Nat.ble vs.length F.n with
  | false => rw [hb] at h; exact h.elim
  | true =>
  rw [hb, cond_true] at h
  have R0 : Rel C.D N ⟨[], st.rm, startS vs 0, st.m, st.nx⟩ ⟨σ0 (vs.map (SV.av C.D.toTE N)), s.g, s.k⟩ := by
    refine ⟨fun N' hN => ⟨fun i v hv => ?_, fun i v hv => by simp [getS] at hv, (R.at_ N' hN).bl, (R.at_ N' hN).rb, (R.at_ N' hN).ar⟩, R.inj, R.lt, R.ml, R.rl, R.sp⟩
    obtain ⟨_, h2⟩ := startS_get hv
    rw [Nat.sub_zero] at h2
    show σ0 _ i = _
    unfold σ0
    rw [← ha N' hN, List.getElem?_map, h2]; rfl
  obtain ⟨e, s', N', st', e1, R1, _, r2, r3, hk⟩ := wpC_ok hC (n := F.n) (k0 := s.k) F.code 0 R0 (Nat.le_of_eq hfl) h
  have fin : (match resS C.D st' F.res with
      | some (O, l) => obl O (K (oneS l) st')
      | none => False) → ∃ v, (resR s'.σ F.res).run s'.g = some (v.av C.D.toTE N') ∧ (∀ N'', N'.agree st'.nx N'' → v.av C.D.toTE N'' = v.av C.D.toTE N') ∧ K v st' := fun hk => by
    split at hk
    case h_2 => exact hk.elim
    rename_i O l hr
    rw [obl_iff] at hk
    obtain ⟨hO, hk⟩ := hk
    have q : ∀ N'', N'.agree st'.nx N'' → (resR s'.σ F.res).run s'.g = some ((oneS l).av C.D.toTE N'') := fun N'' hN => by
      rw [oneS_av]
      unfold resR
      rw [run_bindS (resS_ok hC.ok (R1.at_ N'' hN) hr hO)]; rfl
    refine ⟨_, q N' (N'.agree_refl _), fun N'' hN => ?_, hk⟩
    have := (q N'' hN).symm.trans (q N' (N'.agree_refl _))
    simpa using this
  have go : ∀ {x : Ex}, (x = .normal ∨ x = .ret) → e = x → (∃ v, (resR s'.σ F.res).run s'.g = some (v.av C.D.toTE N') ∧ (∀ N'', N'.agree st'.nx N'' → v.av C.D.toTE N'' = v.av C.D.toTE N') ∧ K v st') → JOut C.P C.D f vs st K N s := fun {x} hx he hv => by
    obtain ⟨v, v1, v2, v3⟩ := hv
    refine ⟨hc, s'.g, s'.k, N', v, st', ?_, v2, ?_, ?_, ?_, v3⟩
    · refine fi_ofW hF (by rw [List.length_map]; exact Nat.le_of_ble_eq_true hb) (EW.conseq e1 fun y t ht => ?_)
      obtain ⟨rfl, rfl⟩ := ht
      exact ⟨by rw [he]; exact hx, t, S3.Le.refl', v1, rfl, rfl⟩
    · rw [← hfl]; exact r3.1
    · rw [← hfl]; exact r3.2
    · have r2' : st'.rm = st.rm := r2
      have halv : ∀ a X, (⟨[], st.rm, [], st'.m, st'.nx⟩ : SS τ dn).alv a X → st'.alv a X := fun a X hX => hX.imp id fun h => by rw [r2']; exact h
      refine ⟨fun N'' hN => ⟨fun i v hv => by simp [getS] at hv, fun i v hv => by simp [getS] at hv, (R1.at_ N'' hN).bl, fun nm B hB => (R1.at_ N'' hN).rb nm B (by rw [r2']; exact hB), fun t A h id hid => (R1.at_ N'' hN).ar t A (halv 0 _ h) id hid⟩, R1.inj, R1.lt, R1.ml, fun nm B hB => R1.rl nm B (by rw [r2']; exact hB), fun t A h id hid => ⟨(R1.sp t A (halv 0 _ h) id hid).1, fun nm B hB => (R1.sp t A (halv 0 _ h) id hid).2 nm B (halv nm B hB)⟩⟩
  cases e with
  | normal => exact go (.inl rfl) rfl (fin hk)
  | ret => exact go (.inr rfl) rfl (fin hk)
  | exit i => exact hk.elim
def delW (D : TD τ dn) (t : τ) (vs : List (SV τ dn)) (st : SS τ dn) (K : SV τ dn → SS τ dn → Prop) : Prop :=
  match vs with
  | [.own nm sz, a, b] => match st.gm nm, a.int, b.int with
    | some (.bl t' xs), some (x, _), some (y, _) => if h : t' = t then (bif st.rw nm && Nat.beq sz (D.sz t) then 0 ≤ x ∧ x < xs.length ∧ y = x + 1 ∧ xs.length ≤ 1000000 ∧ K (.own st.nx sz) ⟨st.rt, st.rm, st.t, (st.nx, some (.bl t ((h ▸ xs : List (dn t)).eraseIdx x.toNat))) :: (nm, none) :: st.m, st.nx + 1⟩ else False) else False
    | _, _, _ => False
  | _ => False
theorem delW_ok {P : Program} {f : FuncId} {t : τ} {by_ : Nat} {zs : List AV} (hk : IK.Ok P D f (.del t by_ zs : IK τ dn)) {vs : List (SV τ dn)} {st : SS τ dn} {K : SV τ dn → SS τ dn → Prop} {N : Nms} {s : S3} (R : Rel D N st s) (h : delW D t vs st K) : JOut P D f vs st K N s := by
  obtain ⟨hF, hc, hz⟩ := hk
  unfold delW at h
  split at h
  case h_2 => exact h.elim
  rename_i nm sz a b
  split at h
  case h_2 => exact h.elim
  rename_i t' xs x bx y by1 h1 h2 h3
  split at h
  case isFalse => exact h.elim
  rename_i ht
  subst ht
  cases hb : st.rw nm && Nat.beq sz (D.sz t') with
  | false => rw [hb] at h; exact h.elim
  | true =>
  rw [hb, cond_true] at h
  rw [Bool.and_eq_true] at hb
  obtain ⟨hrw, hs⟩ := hb
  have hs := Nat.eq_of_beq_eq_true hs
  subst hs
  obtain ⟨q1, q2, q3, q4, hK⟩ := h
  unfold SS.rw at hrw
  rw [Bool.and_eq_true] at hrw
  obtain ⟨w1, w2⟩ := hrw
  have hm : getS st.m nm = some (some (.bl t' xs)) := by
    unfold SS.gm at h1
    cases hg : getS st.m nm with
    | none => rw [hg] at w1; simp at w1
    | some B => rw [hg] at h1; simp only at h1; rw [h1]
  have hb0 := R.here.bl nm _ hm
  have R1 : Rel D N st ⟨s.σ, s.g, s.k + 1⟩ := ⟨R.at_, R.inj, fun a ha => Nat.lt_succ_of_lt (R.lt a ha), R.ml, R.rl, fun t A h id hid => ⟨Nat.lt_succ_of_lt (R.sp t A h id hid).1, (R.sp t A h id hid).2⟩⟩
  have hgo := R1.go (n := 0) (d := none) (r := .mov [] (.vo undef) nm (.bl t' (xs.eraseIdx x.toNat))) rfl ⟨⟨_, hm⟩, by simpa using w2, rfl⟩ (val := .v undef) (ups := [(N.ι nm, none), (s.k + 1, some ⟨D.sz t', (xs.eraseIdx x.toNat).map (D.ea N.ρ t')⟩)]) (fun _ _ => rfl) (fun N' hN => by
    have e := hN.1 nm (Nat.lt_succ_of_lt (R.ml nm _ hm))
    have e2 := hN.2
    simp only [SR.up, Nms.upd] at e e2
    have hne : ¬ nm = st.nx := fun e => by have := R.ml nm _ hm; omega
    rw [if_neg hne, if_neg hne] at e
    simp only [SR.ups, SB.av, e.1, e2])
  have hid : N.ι nm < s.k := R.lt nm (R.ml nm _ hm)
  refine ⟨hc, gput s.g [(N.ι nm, none), (s.k + 1, some ⟨D.sz t', (xs.eraseIdx x.toNat).map (D.ea N.ρ t')⟩)], s.k + 2, N.upd st.nx (s.k + 1) (xs.eraseIdx x.toNat).length, .own st.nx (D.sz t'), _, ?_, fun N'' hN => ?_, N.upd_agree _ _ _, Nat.le_succ _, ?_, hK⟩
  · refine fi_look fun m hml hmg => ?_
    have hB : look m (N.ι nm) = some ⟨D.sz t', xs.map (D.ea N.ρ t')⟩ := by rw [hmg]; exact hb0.1
    have := delete_map (P := P) (f := f) (m := m) hF hz hB q1 q2 q4
    rw [q3] at h3
    have hln : N.ln nm = xs.length := hb0.2
    have e1 : [SV.own nm (D.sz t'), a, b].map (SV.av D.toTE N) = [.own (N.ι nm) (D.sz t') 0 xs.length, VI x, VI (x + 1)] := by
      simp only [List.map_cons, List.map_nil, SV.av, hln, int_av h2, int_av h3]
    have e2 : (SV.own st.nx (D.sz t') : SV τ dn).av D.toTE (N.upd st.nx (s.k + 1) (xs.eraseIdx x.toNat).length) = .own (m.length + 1) (D.sz t') 0 (xs.eraseIdx x.toNat).length := by
      simp only [SV.av, Nms.upd, if_true, hml]
    rw [e1, e2]
    have e3 : look (delM m (N.ι nm) ⟨D.sz t', (xs.eraseIdx x.toNat).map (D.ea N.ρ t')⟩) = gput s.g [(N.ι nm, none), (s.k + 1, some ⟨D.sz t', (xs.eraseIdx x.toNat).map (D.ea N.ρ t')⟩)] := by
      rw [← hmg, ← hml]
      rw [← hml] at hid
      funext id
      unfold look delM
      simp only [gput]
      rcases Nat.lt_or_ge id m.length with hl | hl
      · rw [List.getElem?_append_left (by simpa using hl)]
        rw [if_neg (by omega)]
        by_cases hi : id = N.ι nm
        · subst hi; simp [hid]
        · rw [if_neg hi, List.getElem?_set_ne (fun e => hi e.symm)]
      · rw [List.getElem?_append_right (by simpa using hl), List.length_set]
        rcases Nat.lt_trichotomy id (m.length + 1) with h5 | h5 | h5
        · have : id = m.length := by omega
          subst this
          rw [if_neg (by omega), if_neg (by omega)]; simp
        · subst h5
          rw [if_pos rfl]; simp
        · rw [if_neg (by omega), if_neg (by omega), List.getElem?_eq_none (by simp; omega), List.getElem?_eq_none (by omega)]
    have e4 : (delM m (N.ι nm) ⟨D.sz t', (xs.eraseIdx x.toNat).map (D.ea N.ρ t')⟩).length = s.k + 2 := by simp [delM, hml]
    rw [e3, e4] at this
    exact this
  · have := hN.1 st.nx (Nat.lt_succ_self _)
    simp only [SV.av, this.1, this.2]
  · exact ⟨fun N'' hN => ⟨fun i v hv => by simp [getS] at hv, fun i v hv => by simp [getS] at hv, (hgo.at_ N'' hN).bl, (hgo.at_ N'' hN).rb, (hgo.at_ N'' hN).ar⟩, hgo.inj, hgo.lt, hgo.ml, hgo.rl, hgo.sp⟩
def mkJ (P : Program) (D : TD τ dn) (Δ : List (Con τ dn)) (Ω : List (ConO τ dn)) (il : List (IL τ dn)) : Nat → JW τ dn
  | 0, _, _, _, _ => False
  | d + 1, f, vs, st, K => match findI il f vs with
    | some ⟨_, .fn F an, _⟩ => inlW ⟨P, D, Δ, Ω, st.nx, mkJ P D Δ Ω il d⟩ F an vs st K
    | some ⟨_, .del t _ _, _⟩ => delW D t vs st K
    | none => False
theorem mkJ_ok {P : Program} (ok : TDok D) {Δ : List (Con τ dn)} (hΔ : Cons P D Δ) {Ω : List (ConO τ dn)} (hΩ : ConsO P D Ω) {il : List (IL τ dn)} (hil : ILs P D il) : ∀ (d fl : Nat), (⟨P, D, Δ, Ω, fl, mkJ P D Δ Ω il d⟩ : Cfg τ dn).Ok
  | 0, fl => ⟨ok, cons_mem hΔ, consO_mem hΩ, fun _ _ h => h.elim⟩
  | d + 1, fl => ⟨ok, cons_mem hΔ, consO_mem hΩ, fun {f vs st K N s} R ha h => by
    simp only [mkJ] at h
    split at h
    · rename_i F an hi
      obtain ⟨h1, h2⟩ := findI_ok hil hi
      exact inlW_ok (mkJ_ok ok hΔ hΩ hil d st.nx) h1 h2 R rfl ha h
    · rename_i hi
      exact delW_ok (findI_ok hil hi) R h
    · exact h.elim⟩
theorem con_ok {P : Program} (ok : TDok D) {Δ : List (Con τ dn)} (hΔ : Cons P D Δ) {Ω : List (ConO τ dn)} (hΩ : ConsO P D Ω) {F : AFn} (c : Con τ dn) (hF : cFunc P c.f = some F) (hc : callable P c.f = true) (il : PD dn c.ps → List (IL τ dn)) (hil : ∀ x, ILs P D (il x)) (d : Nat) (an : PD dn c.ps → Nat → Option (LA τ dn)) (h : ∀ x, c.pre x → wpF ⟨P, D, Δ, Ω, 0, mkJ P D Δ Ω (il x) d⟩ F (an x) (encP D c.ps x) c.rs (c.res x)) : c.Ok P D :=
  ⟨hc, fun x N hp => wpF_ok (mkJ_ok ok hΔ hΩ (hil x) d 0) hF N (encP_fr ok c.ps x) (h x hp)⟩
end
open Go.RowKit
structure LR (α : Type) where
  sz : Nat
  ea : (Nat → AV) → α → List AV
def LR.i64 : LR Int := ⟨1, fun _ x => [.v (.int .i64 x)]⟩
def LR.u8 : LR UInt8 := ⟨1, fun _ x => [.v (.int .u8 x.toNat)]⟩
def LR.boo : LR Bool := ⟨1, fun _ x => [.v (.bool x)]⟩
def LR.list {α : Type} (A : LR α) : LR (List α) := ⟨1, fun ρ xs => [.lst A.sz (xs.map (A.ea ρ))]⟩
section
variable {τ : Type} {dn : τ → Type}
structure LY (E : TE τ dn) {α : Type} (R : LR α) where
  es : α → List (SV τ dn)
  ds : List (SV τ dn) → Option α
  df : α
  es_av : ∀ (N : Nms) (x : α), (es x).map (SV.av E N) = R.ea N.ρ x
  ds_le : ∀ (N : Nms) (cs : List (SV τ dn)) (x : α), ds cs = some x → AleL (cs.map (SV.av E N)) (R.ea N.ρ x)
  em : Bool
  pu : Bool
  ds_eq : ∀ (N : Nms) (cs : List (SV τ dn)) (x : α), ds cs = some x → (em = true ∨ cs.all SV.ne = true) → cs.map (SV.av E N) = R.ea N.ρ x
  len : ∀ x, (es x).length = R.sz
  one : ∀ x, (es x).all SV.one = true
  nf : ∀ (p : Nat → Bool) x, SV.frL p (es x) = true
  pρ : ∀ (ρ ρ' : Nat → AV) (x : α), R.ea ρ x = R.ea ρ' x
  pu1 : ∀ (N : Nms) (x : α), pu = true → (R.ea N.ρ x).all AV.pu1 = true
variable {E : TE τ dn}
def dsI : List (SV τ dn) → Option Int
  | [.vi x] => some x
  | [.vn x] => some x
  | _ => none
def dsY : List (SV τ dn) → Option UInt8
  | [.vy x] => some x
  | _ => none
def dsB : List (SV τ dn) → Option Bool
  | [.vt x] => some x
  | [.vb c] => some c.den
  | _ => none
theorem dsI_av {N : Nms} {cs : List (SV τ dn)} {x : Int} (h : dsI cs = some x) : cs.map (SV.av E N) = [.v (.int .i64 x)] := by
  unfold dsI at h; split at h <;> simp only [Option.some.injEq, reduceCtorEq] at h <;> subst h <;> rfl
theorem dsY_av {N : Nms} {cs : List (SV τ dn)} {x : UInt8} (h : dsY cs = some x) : cs.map (SV.av E N) = [.v (.int .u8 x.toNat)] := by
  unfold dsY at h; split at h <;> simp only [Option.some.injEq, reduceCtorEq] at h; subst h; rfl
theorem dsB_av {N : Nms} {cs : List (SV τ dn)} {x : Bool} (h : dsB cs = some x) : cs.map (SV.av E N) = [.v (.bool x)] := by
  unfold dsB at h; split at h <;> simp only [Option.some.injEq, reduceCtorEq] at h <;> subst h <;> rfl
theorem AleL.of_eq {a b : List AV} (h : a = b) : AleL a b := by
  subst h
  induction a with
  | nil => exact .nil
  | cons x r ih => exact .cons Ale.refl ih
def LY.i64 : LY E LR.i64 where
  es x := [.vi x]
  ds := dsI
  df := 0
  es_av _ _ := rfl
  ds_le _ _ _ h := .of_eq (dsI_av h)
  em := true
  pu := true
  ds_eq _ _ _ h _ := dsI_av h
  len _ := rfl
  one _ := rfl
  nf _ _ := rfl
  pρ _ _ _ := rfl
  pu1 _ _ _ := rfl
def LY.u8 : LY E LR.u8 where
  es x := [.vy x]
  ds := dsY
  df := 0
  es_av _ _ := rfl
  ds_le _ _ _ h := .of_eq (dsY_av h)
  em := true
  pu := true
  ds_eq _ _ _ h _ := dsY_av h
  len _ := rfl
  one _ := rfl
  nf _ _ := rfl
  pρ _ _ _ := rfl
  pu1 _ _ _ := rfl
def LY.boo : LY E LR.boo where
  es x := [.vb (.b x)]
  ds := dsB
  df := false
  es_av _ _ := rfl
  ds_le _ _ _ h := .of_eq (dsB_av h)
  em := true
  pu := true
  ds_eq _ _ _ h _ := dsB_av h
  len _ := rfl
  one _ := rfl
  nf _ _ := rfl
  pρ _ _ _ := rfl
  pu1 _ _ _ := rfl
def dsP {α β : Type} (n : Nat) (a : List (SV τ dn) → Option α) (b : List (SV τ dn) → Option β) (cs : List (SV τ dn)) : Option (α × β) :=
  match a (cs.take n), b (cs.drop n) with
  | some x, some y => some (x, y)
  | _, _ => none
def dsE {α : Type} (em : Bool) (ds : List (SV τ dn) → Option α) : List (List (SV τ dn)) → Option (List α)
  | [] => some []
  | cs :: r => if (em || cs.all SV.ne) = true then (match ds cs, dsE em ds r with
    | some x, some l => some (x :: l)
    | _, _ => none) else none
theorem dsE_av {t : τ} {R : LR (dn t)} (A : LY E R) (N : Nms) : ∀ {els : List (List (SV τ dn))} {xs : List (dn t)}, dsE A.em A.ds els = some xs → SV.avM E N els = xs.map (R.ea N.ρ)
  | [], xs, h => by simp only [dsE, Option.some.injEq] at h; subst h; rfl
  | cs :: r, xs, h => by
    simp only [dsE] at h
    split at h
    · rename_i hn
      split at h
      · rename_i x l h1 h2
        simp only [Option.some.injEq] at h; subst h
        simp only [SV.avM, List.map_cons, SV.avL_map, A.ds_eq N _ _ h1 (by rw [Bool.or_eq_true] at hn; exact hn), dsE_av A N h2]
      · simp at h
    · simp at h
section
variable [DecidableEq τ]
def dsL (t : τ) (sz : Nat) (em : Bool) (ds : List (SV τ dn) → Option (dn t)) : List (SV τ dn) → Option (List (dn t))
  | [.vl t' xs] => if h : t' = t then some (h ▸ xs) else none
  | [.vc k els] => if k = sz then dsE em ds els else none
  | [.emp] => some []
  | _ => none
theorem dsL_le {t : τ} {R : LR (dn t)} (A : LY E R) (hs : E.sz t = R.sz) (he : ∀ ρ, E.ea ρ t = R.ea ρ) (N : Nms) {cs : List (SV τ dn)} {xs : List (dn t)} (h : dsL t R.sz A.em A.ds cs = some xs) : AleL (cs.map (SV.av E N)) ((LR.list R).ea N.ρ xs) ∧ (cs.all SV.ne = true → cs.map (SV.av E N) = (LR.list R).ea N.ρ xs) := by
  unfold dsL at h
  split at h
  · rename_i t' ys
    split at h
    · rename_i ht
      subst ht
      simp only [Option.some.injEq] at h; subst h
      have : [SV.vl t' ys].map (SV.av E N) = (LR.list R).ea N.ρ ys := by
        simp only [List.map_cons, List.map_nil, SV.av, hs, he]; rfl
      exact ⟨.of_eq this, fun _ => this⟩
    · simp at h
  · rename_i k els
    split at h
    · rename_i hk
      subst hk
      have : [SV.vc R.sz els].map (SV.av E N) = (LR.list R).ea N.ρ xs := by
        simp only [List.map_cons, List.map_nil, SV.av, dsE_av A N h]; rfl
      exact ⟨.of_eq this, fun _ => this⟩
    · simp at h
  · simp only [Option.some.injEq] at h; subst h
    exact ⟨.cons Ale.emp .nil, fun hn => by simp [SV.ne] at hn⟩
  · simp at h
def LY.list {t : τ} {R : LR (dn t)} (A : LY E R) (hs : E.sz t = R.sz) (he : ∀ ρ, E.ea ρ t = R.ea ρ) : LY E (LR.list R) where
  es x := [.vl t x]
  ds := dsL t R.sz A.em A.ds
  df := []
  es_av N x := by simp only [List.map_cons, List.map_nil, SV.av, hs, he]; rfl
  ds_le N cs x h := (dsL_le A hs he N h).1
  em := false
  pu := true
  ds_eq N cs x h hn := (dsL_le A hs he N h).2 (hn.resolve_left (by simp))
  len _ := rfl
  one _ := rfl
  nf _ _ := rfl
  pρ ρ ρ' x := by show [AV.lst R.sz (x.map (R.ea ρ))] = [AV.lst R.sz (x.map (R.ea ρ'))]; rw [funext fun y => A.pρ ρ ρ' y]
  pu1 _ _ _ := rfl
end
def FzOk (E : TE τ dn) (ta : τ) (A : List (Nat × List (dn ta))) {α β : Type} (R : LR α) (R' : LR β) (f : α → β) (O : α → Prop) : Prop :=
  R'.sz = R.sz ∧ ∀ (N : Nms) (φ : AV → AV), (∀ a, a.pu1 = true → φ a = a) → (∀ id n, hasA A id → (lkA A id).length = n → φ (.own id (E.sz ta) 0 n) = .lst (E.sz ta) ((lkA A id).map (E.ea N.ρ ta))) → ∀ x, O x → (R.ea N.ρ x).map φ = R'.ea N.ρ (f x)
abbrev FZ (τ : Type) (dn : τ → Type) : Type := (t ta : τ) → (A : List (Nat × List (dn ta))) → Option ((t' : τ) × (dn t → dn t') × (dn t → Prop))
def TE.ofL (lr : (t : τ) → LR (dn t)) : TE τ dn := ⟨fun t => (lr t).sz, fun ρ t => (lr t).ea ρ⟩
def TD.ofL {lr : (t : τ) → LR (dn t)} (ly : (t : τ) → LY (TE.ofL lr) (lr t)) (ag : τ → Bool) (hint : Nat → Nat → Option τ) (neg : Bool) (ar : Option τ := none) (hr : τ → Bool := fun _ => false) (fz : FZ τ dn := fun _ _ _ => none) : TD τ dn where
  toTE := TE.ofL lr
  df t := (ly t).df
  es t := (ly t).es
  ds t := (ly t).ds
  ag := ag
  pu t := (ly t).pu
  hint := hint
  neg := neg
  em t := (ly t).em
  ar := ar
  hr := hr
  fz := fz
theorem TD.ofL_ok {lr : (t : τ) → LR (dn t)} {ly : (t : τ) → LY (TE.ofL lr) (lr t)} {ag : τ → Bool} {hint : Nat → Nat → Option τ} {neg : Bool} {ar : Option τ} {hr : τ → Bool} {fz : FZ τ dn} (hfz : ∀ (t ta : τ) (A : List (Nat × List (dn ta))) (t' : τ) (f : dn t → dn t') (O : dn t → Prop), fz t ta A = some ⟨t', f, O⟩ → FzOk (TE.ofL lr) ta A (lr t) (lr t') f O := by intro t ta A t' f O h; simp at h) : TDok (TD.ofL ly ag hint neg ar hr fz) where
  es_av N t x := (ly t).es_av N x
  ds_le N t cs x h := (ly t).ds_le N cs x h
  ds_eq N t cs x h hn := (ly t).ds_eq N cs x h (by unfold TD.nee at hn; rw [Bool.or_eq_true] at hn; exact hn)
  len t x := (ly t).len x
  one t x := (ly t).one x
  nf p t x := (ly t).nf p x
  pρ ρ ρ' t x _ := (ly t).pρ ρ ρ' x
  pu1 N t x h := (ly t).pu1 N x h
  fz N φ t ta A t' f O h h1 h2 := ⟨(hfz t ta A t' f O h).1, fun x hx => (hfz t ta A t' f O h).2 N φ h1 h2 x hx⟩
end
open Go.RowKit
structure LG {α : Type} [GoT α] (R : LR α) where
  big : α → Prop
  sz : R.sz = GoT.size α
  av : ∀ {w : World} {cs : List Value} {x : α}, GoT.rep w w.heap.size cs x → R2 (Rep (E0 w fun b => b < w.heap.size)) cs (R.ea (fun _ => .dead) x)
  one : ∀ {w : World} {cs : List Value} {x : α}, GoT.rep w w.heap.size cs x → ∀ v, v ∈ cs → v.oneCell' = true
  pu : ∀ (x : α) c, c ∈ R.ea (fun _ => .dead) x → Pu c
  bg : ∀ {w : World} {cs : List Value} {x : α}, GoT.rep w w.heap.size cs x → big x
def LG.u8 : LG LR.u8 where
  big _ := True
  sz := rfl
  av h := by cases h; exact .cons (.v rfl) .nil
  one h v hv := by cases h; simp at hv; subst hv; rfl
  pu x c hc := by simp [LR.u8] at hc; subst hc; exact .v
  bg _ := trivial
def LG.list {α : Type} [GoT α] {A : LR α} (a : LG A) : LG (LR.list A) where
  big xs := xs.length ≤ 9223372036854775807 ∧ ∀ x, x ∈ xs → a.big x
  sz := rfl
  av {w cs xs} h := by
    obtain ⟨A0, n, c, rfl, hn, hle, hc, h⟩ := h
    refine .cons ?_ .nil
    rcases h with rfl | ⟨b, off, rfl, hb, hs⟩
    · simp only [List.length_nil] at hn; subst hn; exact .lst0 hc
    · have get : ∀ (i : Nat) (cs : List AV) (j : Nat) x, (xs.map (A.ea fun _ => .dead))[i]? = some cs → cs[j]? = some x → ∃ u, w.cell? ⟨b, off + i * A.sz + j, none⟩ = some u ∧ u.oneCell' = true ∧ Pu x ∧ Rep (E0 w fun b => b < w.heap.size) u x := by
        intro i cs j x hi hj
        rw [List.getElem?_map, Option.map_eq_some_iff] at hi
        obtain ⟨y, hy, rfl⟩ := hi
        obtain ⟨vs, h1, h2⟩ := hs i y hy
        have r := a.av h1
        have hjl : j < vs.length := by rw [r.len]; exact (List.getElem?_eq_some_iff.1 hj).1
        have hv := List.getElem?_eq_getElem hjl
        refine ⟨vs[j], by rw [a.sz]; exact h2 j _ hv, a.one h1 _ (List.getElem_mem hjl), a.pu y x (List.mem_of_getElem? hj), r.get j _ x hv hj⟩
      refine .lst1 (fun i j => (w.cell? ⟨b, off + i * A.sz + j, none⟩).getD undef) (by simpa using hn) hle hc hb (fun i cs hi => ?_) (fun i cs j x hi hj => ?_) (fun i cs j x hi hj => ?_) (fun i cs j x hi hj => ?_)
      · rw [List.getElem?_map, Option.map_eq_some_iff] at hi
        obtain ⟨y, hy, rfl⟩ := hi
        obtain ⟨vs, h1, _⟩ := hs i y hy
        rw [← (a.av h1).len, GoT.len h1, a.sz]
      all_goals
        obtain ⟨u, k1, k2, k3, k4⟩ := get i cs j x hi hj
      · show w.cell? _ = _; rw [k1]; rfl
      · simp only [k1, Option.getD_some]; exact ⟨k2, k3⟩
      · simp only [k1, Option.getD_some]; exact k4
  one h v hv := by obtain ⟨A0, n, c, rfl, _⟩ := h; simp at hv; subst hv; rfl
  pu xs c hc := by simp [LR.list] at hc; subst hc; exact .lst
  bg {w cs xs} h := by
    obtain ⟨A0, n, c, rfl, hn, hle, hc, h⟩ := h
    refine ⟨by omega, fun x hx => ?_⟩
    rcases h with rfl | ⟨b, off, rfl, hb, hs⟩
    · simp at hx
    · obtain ⟨i, hi⟩ := List.mem_iff_getElem?.1 hx
      obtain ⟨vs, h1, _⟩ := hs i x hi
      exact a.bg h1
def N0 : Nms := ⟨fun _ => 0, fun _ => 0, fun _ => .dead⟩
section
variable {τ : Type} {dn : τ → Type} {D : TD τ dn}
theorem arg_one (ok : TDok D) {E : Env} {t : τ} {x : dn t} {v : Value} (ha : D.ag t = false) (h : R2 (Rep E) [v] (D.ea (fun _ => .dead) t x)) : Rep E v ((D.en t x).av D.toTE N0) := by
  have one : ∀ l : List AV, [v].length = l.length → ∃ b, l = [b] := fun l hl => by
    match l with
    | [b] => exact ⟨b, rfl⟩
    | [] => simp at hl
    | _ :: _ :: _ => simp at hl
  obtain ⟨b, hb⟩ := one _ h.len
  rw [en_one (N := N0) ok ha hb]
  have h2 : R2 (Rep E) [v] [b] := by rw [← hb]; exact h
  cases h2 with | cons h _ => exact h
end
open Go.RowKit
inductive Tc where
  | cInt
  | cU8
  | cBool
  | lInt
  | lU8
  | lBool
  | llU8
def Tc.no : Tc → Nat
  | .cInt => 0
  | .cU8 => 1
  | .cBool => 2
  | .lInt => 3
  | .lU8 => 4
  | .lBool => 5
  | .llU8 => 6
def Tc.of : Nat → Tc
  | 0 => .cInt
  | 1 => .cU8
  | 2 => .cBool
  | 3 => .lInt
  | 4 => .lU8
  | 5 => .lBool
  | _ => .llU8
theorem Tc.of_no (a : Tc) : Tc.of a.no = a := by cases a <;> rfl
instance : DecidableEq Tc := fun a b => match Nat.decEq a.no b.no with
  | isTrue h => isTrue (by rw [← Tc.of_no a, h, Tc.of_no])
  | isFalse h => isFalse fun e => h (by rw [e])
abbrev Tc.dn : Tc → Type
  | .cInt => Int
  | .cU8 => UInt8
  | .cBool => Bool
  | .lInt => (List Int)
  | .lU8 => (List UInt8)
  | .lBool => (List Bool)
  | .llU8 => (List (List UInt8))
def Tc.lr : (t : Tc) → LR t.dn
  | .cInt => LR.i64
  | .cU8 => LR.u8
  | .cBool => LR.boo
  | .lInt => (LR.list LR.i64)
  | .lU8 => (LR.list LR.u8)
  | .lBool => (LR.list LR.boo)
  | .llU8 => (LR.list (LR.list LR.u8))
abbrev tE : TE Tc Tc.dn := TE.ofL Tc.lr
def Tc.ly : (t : Tc) → LY tE t.lr
  | .cInt => LY.i64
  | .cU8 => LY.u8
  | .cBool => LY.boo
  | .lInt => (LY.list (t := Tc.cInt) LY.i64 rfl fun _ => rfl)
  | .lU8 => (LY.list (t := Tc.cU8) LY.u8 rfl fun _ => rfl)
  | .lBool => (LY.list (t := Tc.cBool) LY.boo rfl fun _ => rfl)
  | .llU8 => (LY.list (t := Tc.lU8) (LY.list (t := Tc.cU8) LY.u8 rfl fun _ => rfl) rfl fun _ => rfl)
def Tc.ag : Tc → Bool
  | _ => false
def hintT (sz bytes : Nat) : Option Tc := bif Nat.beq sz 1 && Nat.beq bytes 1 then some .cU8 else bif Nat.beq sz 1 && Nat.beq bytes 8 then some .cInt else bif Nat.beq sz 1 && Nat.beq bytes 1001 then some .cBool else bif Nat.beq sz 1 && Nat.beq bytes 24 then some .lU8 else none
def tD : TD Tc Tc.dn := TD.ofL Tc.ly Tc.ag hintT false
theorem tD_ok : TDok tD := TD.ofL_ok
theorem opens_u8 : Opens Try.prog 5 UInt8 := GoT_u8 Try.underlying5 (by kernel_rfl)
theorem opens_Lu8 : Opens Try.prog 22 (List UInt8) := opens_slice Try.underlying22 (by kernel_rfl) opens_u8 (by decide)
open Go.ChangeShapes Go.WideShapes Go.ChangeAt Go.RowKit
open Go.ChangeMaps (open_string shut_string)
theorem shl1 (a : UInt8) : ((a.toNat : Int) * (2 : Int) % (256 : Int)) = ((a <<< 1).toNat : Int) := by
  have h : (a <<< 1).toNat = a.toNat * 2 % 256 := by
    have := all8 (fun a => (a <<< 1).toNat == a.toNat * 2 % 256) (by decide +kernel) a
    simpa using this
  rw [h]; omega
theorem shr1 (a : UInt8) : ((a.toNat : Int) / (2 : Int)) = ((a >>> 1).toNat : Int) := by
  have h : (a >>> 1).toNat = a.toNat / 2 := by
    have := all8 (fun a => (a >>> 1).toNat == a.toNat / 2) (by decide +kernel) a
    simpa using this
  rw [h]; omega
theorem and1 (a : UInt8) : bits .and .u8 (a.toNat : Int) 1 = ((a &&& 1).toNat : Int) := B_and a 1
theorem xor29 (a : UInt8) : bits .xor .u8 (a.toNat : Int) 29 = ((a ^^^ 29).toNat : Int) := B_xor a 29
theorem xt_hi (a : UInt8) (h : 127 < (a.toNat : Int)) : bits .xor .u8 ((a.toNat : Int) * (2 : Int) % (256 : Int)) 29 = ((xt a).toNat : Int) := by
  rw [shl1, xor29, xt, if_pos (by rw [gt_iff_lt, UInt8.lt_iff_toNat_lt]; show 127 < _; omega)]
theorem xt_lo (a : UInt8) (h : (a.toNat : Int) ≤ 127) : ((a.toNat : Int) * (2 : Int) % (256 : Int)) = ((xt a).toNat : Int) := by
  rw [shl1, xt, if_neg (by rw [gt_iff_lt, UInt8.lt_iff_toNat_lt]; simp; omega)]
theorem gm_done (n : Nat) (a b o : UInt8) (h : ((b.toNat : Int) != 0) = false) : gm n a b o = o := by
  have : b = 0 := by
    apply UInt8.toNat_inj.1
    simpa using h
  subst this; exact gm_zero n a o
theorem bit_yes (b : UInt8) (h : (bits BinOp.and IntKind.u8 (b.toNat : Int) 1 != 0) = true) : ¬ b &&& 1 = 0 := by
  intro h2; rw [and1, h2] at h; exact absurd h (by decide)
theorem bit_no (b : UInt8) (h : (bits BinOp.and IntKind.u8 (b.toNat : Int) 1 != 0) = false) : b &&& 1 = 0 := by
  rw [and1] at h
  have h2 : ((b &&& 1).toNat : Int) = 0 := by simpa only [bne_eq_false_iff_eq] using h
  apply UInt8.toNat_inj.1
  show _ = 0
  omega
set_option maxRecDepth 100000 in
set_option maxHeartbeats 400000 in
theorem mul_any (a b : UInt8) (w : World) :
    Calls Try.prog 27 #[B a, B b] w fun e w' => e = .returned (B (gmul a b)) ∧ w = w' := by
  go_enter Try.func27, Try.ntmps27
  go_wp2
  go_loop [0, 1, 5] (fun x y o => ∃ (n : Nat) (a' b' o' : UInt8), x = B a' ∧ y = B b' ∧ o = B o' ∧ b'.toNat < 2^n ∧ gm n a' b' o' = gmul a b) (fun _ y _ => (intOf y).toNat)
  case atStart => exact ⟨8, a, b, 0, rfl, rfl, rfl, b.toNat_lt, rfl⟩
  case round =>
    obtain ⟨n, a', b', o', rfl, rfl, rfl, hb, hg⟩ := hrel
    have Hg := Lib.hid hg
    clear hg
    by_cases h0 : b' = 0
    · subst h0
      go_wp2
      go_ret
      rw [gm_done _ _ _ _ rfl] at Hg
      have hg := Hg.out
      subst hg
      exact ⟨rfl, rfl⟩
    · have hb0 : 0 < b'.toNat := by
        rcases Nat.eq_zero_or_pos b'.toNat with h | h
        · exact absurd (UInt8.toNat_inj.1 h) h0
        · exact h
      obtain ⟨m, rfl⟩ : ∃ m, n = m + 1 := by
        cases n with
        | zero => simp at hb; omega
        | succ m => exact ⟨m, rfl⟩
      have hs : (b' >>> 1).toNat < 2 ^ m := by
        have := shr1 b'
        have h2 : 2 ^ (m + 1) = 2 ^ m * 2 := Nat.pow_succ ..
        omega
      have Hs := Lib.hid hs
      clear hb
      have e1 := shr1 b'
      have E1 := Lib.hid e1
      clear e1
      go_wp2
      all_goals
        go_round
        case rel =>
          refine ⟨m, xt a', b' >>> 1, if b' &&& 1 = 0 then o' else o' ^^^ a', ?_, by rw [E1.out], ?_, Hs.out, Hg.out⟩
          · first | rw [xt_hi _ (by assumption)] | rw [xt_lo _ (by assumption)]
          · first | rw [if_neg (bit_yes _ (by assumption)), B_xor] | rw [if_pos (bit_no _ (by assumption))]
        case measure => simp [intOf]; omega
def tab0 : Array Value := Array.replicate 510 (.int .u8 0) ++ Array.replicate 256 (.int .i64 0)
theorem run_tab (w : World) : (zeroValue 61).run Try.prog w = .ok (.agg tab0) w := by kernel_rfl
def tabAt (k i : Nat) : Value :=
  if i < 255 then (if i < k then B (pw i) else B 0) else if i < 510 then (if i < k + 255 then B (pw (i - 255)) else B 0) else .int .i64 (lgTo k (UInt8.ofNat (i - 510)))
theorem tab_start (i : Nat) (h : i < 766) : tab0[i]? = some (tabAt 0 i) := by
  unfold tab0 tabAt
  rw [Array.getElem?_append]
  simp only [Array.size_replicate, Array.getElem?_replicate, lgTo]
  by_cases h1 : i < 255
  · simp [h1, show i < 510 by omega]
  · by_cases h2 : i < 510
    · simp [h1, h2]
    · simp [h1, h2]; omega
theorem tab_row (w : World) : (w.alloc (.cells tab0 61)).rowIs w.heap.size 61 766 (tabAt 0) := by
  have h := World.rowIs_alloc w tab0 61 (tabAt 0) (fun i hi => tab_start i (by rw [show tab0.size = 766 by simp [tab0]] at hi; exact hi))
  rwa [show tab0.size = 766 by simp [tab0]] at h
attribute [irreducible] tab0
theorem dbl_nat (p : UInt8) : (127 < p.toNat → (p.toNat * 2) ^^^ 285 = (xt p).toNat) ∧ (p.toNat ≤ 127 → p.toNat * 2 = (xt p).toNat) := by
  have := all8 (fun p => decide ((127 < p.toNat → (p.toNat * 2) ^^^ 285 = (xt p).toNat) ∧ (p.toNat ≤ 127 → p.toNat * 2 = (xt p).toNat))) (by decide +kernel) p
  exact of_decide_eq_true this
theorem dbl_hi (p : UInt8) (h : (255 : Int) < (p.toNat : Int) * 2) : I (bits .xor .i64 ((p.toNat : Int) * 2) 285) = I (xt p).toNat := by
  have h1 := (dbl_nat p).1 (by omega)
  have h2 := i64_xor_nat (p.toNat * 2) 285 (by have := p.toNat_lt; omega) (by omega)
  rw [h1] at h2
  rw [← h2]; rfl
theorem dbl_lo (p : UInt8) (h : (p.toNat : Int) * 2 ≤ 255) : I ((p.toNat : Int) * 2) = I (xt p).toNat := by
  have h1 := (dbl_nat p).2 (by omega)
  rw [← h1]; rfl
theorem tab_next (k : Nat) (hk : k < 255) (w : World) (b : Nat) (h : w.rowIs b 61 766 (tabAt k)) :
    (((w.setCell ⟨b, k, none⟩ (B (pw k))).setCell ⟨b, k + 255, none⟩ (B (pw k))).setCell ⟨b, 510 + (pw k).toNat, none⟩ (I k)).rowIs b 61 766 (tabAt (k + 1)) := by
  refine (((h.set k _).set (k + 255) _).set _ _).congr fun i hi => ?_
  have hp := (pw k).toNat_lt
  unfold tabAt
  by_cases h1 : i = 510 + (pw k).toNat
  · subst h1
    rw [if_pos rfl, if_neg (by omega), if_neg (by omega), show 510 + (pw k).toNat - 510 = (pw k).toNat by omega, UInt8.ofNat_toNat, lgTo, if_pos rfl]
  · rw [if_neg h1]
    by_cases h2 : i = k + 255
    · subst h2
      rw [if_pos rfl, if_neg (by omega), if_pos (by omega), if_pos (by omega), show k + 255 - 255 = k by omega]
    · rw [if_neg h2]
      by_cases h3 : i = k
      · subst h3
        rw [if_pos rfl, if_pos (by omega), if_pos (by omega)]
      · rw [if_neg h3]
        by_cases h4 : i < 255
        · rw [if_pos h4, if_pos h4]
          by_cases h5 : i < k
          · rw [if_pos h5, if_pos (by omega)]
          · rw [if_neg h5, if_neg (by omega)]
        · rw [if_neg h4, if_neg h4]
          by_cases h6 : i < 510
          · rw [if_pos h6, if_pos h6]
            by_cases h5 : i < k + 255
            · rw [if_pos h5, if_pos (by omega)]
            · rw [if_neg h5, if_neg (by omega)]
          · rw [if_neg h6, if_neg h6, lgTo, if_neg]
            intro he
            apply h1
            rw [he, UInt8.toNat_ofNat']
            omega
set_option maxRecDepth 10000 in
set_option maxHeartbeats 400000 in
theorem made_any (w : World) :
    Calls Try.prog 37 #[] w fun e w' => e = .returned (.pointer (some ⟨w.heap.size, 0, none⟩)) ∧ w'.rowIs w.heap.size 61 766 (tabAt 255) ∧ Below w.heap.size w w' := by
  have hnew := run_tab
  go_enter Try.func37, Try.ntmps37
  go_wp2
  go_loopw [2, 5] (fun x i wr => ∃ k : Nat, k ≤ 255 ∧ i = I k ∧ x = I (pw k).toNat ∧ wr.rowIs w.heap.size 61 766 (tabAt k) ∧ Below w.heap.size w wr) (fun _ i _ => (255 - intOf i).toNat)
  case atStart => exact ⟨0, by omega, rfl, rfl, tab_row w, (Below.refl _ _).alloc (Nat.le_refl _) _⟩
  case round =>
    obtain ⟨k, hk, rfl, rfl, hrow, hb⟩ := hrel
    by_cases hlt : k < 255
    · have c1 := hrow.cell (i := k) (by omega)
      have c2 := hrow.cell (i := k + 255) (by omega)
      have c3 := hrow.cell (i := 510 + (pw k).toNat) (by have := (pw k).toNat_lt; omega)
      have f1 := hrow.frozen k
      have f2 := hrow.frozen (k + 255)
      have f3 := hrow.frozen (510 + (pw k).toNat)
      have Hrow := Lib.hid (tab_next k hlt _ _ hrow)
      have Hb := Lib.hid hb
      clear hrow hb
      generalize tabAt k k = v1 at c1
      generalize tabAt k (k + 255) = v2 at c2
      generalize tabAt k (510 + (pw k).toNat) = v3 at c3
      obtain ⟨p, hp⟩ : ∃ p, p = pw k := ⟨_, rfl⟩
      rw [← hp] at c3 f3 Hrow ⊢
      have Hp := Lib.hid hp
      have p1 := B_lt p
      clear hp
      have e1 : ((p.toNat : Int) % 256) = (p.toNat : Int) := by omega
      go_wp2
      go_region
      go_wp2
      all_goals
        go_roundw
        case rel =>
          refine ⟨k + 1, by omega, by go_num, ?_, Hrow.out, (((Hb.out.setCell (Nat.le_refl _) _).setCell (Nat.le_refl _) _).drew).setCell (Nat.le_refl _) _⟩
          rw [show pw (k + 1) = xt (pw k) from rfl, ← Hp.out]
          first | exact dbl_hi p (by assumption) | exact dbl_lo p (by assumption)
        case measure => simp [intOf]; omega
    · obtain rfl : k = 255 := by omega
      have Hrow := Lib.hid hrow
      have Hb := Lib.hid hb
      clear hrow hb
      generalize (pw 255).toNat = q
      go_wp2
      go_ret
      exact ⟨rfl, Hrow.out, Hb.out⟩
theorem tmod_bd (n : Int) : -254 ≤ n.tmod 255 ∧ n.tmod 255 ≤ 254 := by
  have h1 := Int.tmod_lt_of_pos n (show (0 : Int) < 255 by omega)
  have h2 := Int.tmod_lt_of_pos (-n) (show (0 : Int) < 255 by omega)
  rw [Int.neg_tmod] at h2
  omega
theorem tmod_emod (n : Int) : n.tmod 255 % 255 = n % 255 := by
  have h := Int.tmod_add_mul_tdiv n 255
  omega
set_option maxRecDepth 10000 in
set_option maxHeartbeats 400000 in
theorem power_any (n : Int) (w : World) :
    Calls Try.prog 36 #[I n] w fun e w' => e = .returned (B (powI n)) ∧ Below w.heap.size w w' := by
  have h1 := tmod_bd n
  have h2 : tabAt 255 (n.tmod 255 % 255).toNat = B (powI n) := by
    have := tmod_emod n
    rw [this, tabAt, if_pos (by omega), if_pos (by omega)]; rfl
  have H2 := Lib.hid h2
  clear h2
  go_enter Try.func36, Try.ntmps36
  go_wp2_with (go_at_call 37; refine (made_any _).mono ?_; rintro e w' ⟨rfl, hrow, hb⟩; have hc := hrow.cell (i := (n.tmod 255 % 255).toNat) (by omega); rw [H2.out] at hc; have Hrow := Lib.hid hrow; clear hrow)
  go_ret
  exact ⟨rfl, hb⟩
theorem log_zero (w : World) : Calls Try.prog 35 #[B 0] w fun e w' => e = .returned (.tuple #[I 0, I 5]) ∧ Below w.heap.size w w' := by
  go_enter Try.func35, Try.ntmps35
  go_wp2
  go_ret2
  exact ⟨rfl, Below.refl _ _⟩
set_option maxRecDepth 10000 in
set_option maxHeartbeats 400000 in
theorem log_some (a : UInt8) (ha : a ≠ 0) (w : World) :
    Calls Try.prog 35 #[B a] w fun e w' => e = .returned (.tuple #[I (lg a), I 0]) ∧ Below w.heap.size w w' := by
  have hz : (((a.toNat : Int)) == 0) = false := by rw [B_zero]; simpa using ha
  have p1 := B_lt a
  have h2 : tabAt 255 (510 + a.toNat) = I (lg a) := by
    rw [tabAt, if_neg (by omega), if_neg (by omega), show 510 + a.toNat - 510 = a.toNat by omega, UInt8.ofNat_toNat]; rfl
  have H2 := Lib.hid h2
  clear h2
  go_enter Try.func35, Try.ntmps35
  go_wp2_with (go_at_call 37; refine (made_any _).mono ?_; rintro e w' ⟨rfl, hrow, hb⟩; have hc := hrow.cell (i := 510 + a.toNat) (by omega); rw [H2.out] at hc; have Hrow := Lib.hid hrow; clear hrow)
  go_ret2
  exact ⟨rfl, hb⟩
theorem inverse_zero (w : World) : Calls Try.prog 31 #[B 0] w fun e w' => e = .returned (.tuple #[B 0, I 5]) ∧ Below w.heap.size w w' := by
  go_enter Try.func31, Try.ntmps31
  go_wp2_with (go_at_call 35; refine (log_zero _).mono ?_; rintro e w' ⟨rfl, hb⟩)
  go_ret2
  exact ⟨rfl, hb⟩
theorem inverse_some (a : UInt8) (ha : a ≠ 0) (w : World) :
    Calls Try.prog 31 #[B a] w fun e w' => e = .returned (.tuple #[B (ginv a), I 0]) ∧ Below w.heap.size w w' := by
  have hl := lg_lt a
  go_enter Try.func31, Try.ntmps31
  go_wp2_with (first | (go_at_call 35; refine (log_some a ha _).mono ?_; rintro e w' ⟨rfl, hb⟩) | (go_at_call 36; refine (power_any _ _).mono ?_; rintro e w'' ⟨rfl, hb2⟩))
  go_ret2
  exact ⟨rfl, hb.trans (hb2.mono hb.size)⟩
def errZ (a : UInt8) : Int := if a = 0 then 5 else 0
def invN (a : UInt8) : UInt8 := if a = 0 then 0 else ginv a
def divN (a b : UInt8) : UInt8 := if b = 0 then 0 else gmul a (ginv b)
theorem inverse_any (a : UInt8) (w : World) : Calls Try.prog 31 #[B a] w fun e w' => e = .returned (.tuple #[B (invN a), I (errZ a)]) ∧ Below w.heap.size w w' := by
  unfold invN errZ
  by_cases ha : a = 0
  · subst ha; exact inverse_zero w
  · rw [if_neg ha, if_neg ha]; exact inverse_some a ha w
open Go.RowKit
def CloneF (sz by_ : Nat) (zs : List AV) : AFn := ⟨8, [.tmp 2],
  .seq (.reg [⟨some 2, .mov (.c .emp), none⟩] none)
  (.seq (.seq (.reg [⟨some 3, .mov (.s 0), none⟩, ⟨some 4, .isn .sl false (.s 3), none⟩] none)
  (.cond (.s 4)
    (.seq (.reg [⟨some 2, .mov (.c .emp), none⟩] none)
    (.ret))
    (.skip)))
  (.seq (.reg [⟨some 5, .bsl sz 0 zs [], none⟩, ⟨some 6, .mov (.s 0), none⟩, ⟨some 7, .app sz by_ (.s 5) (.s 6), none⟩, ⟨some 2, .mov (.s 7), none⟩] none)
  (.ret)))⟩
theorem clone_fo {P : Program} {f : FuncId} {sz by_ : Nat} {zs : List AV} (hF : cFunc P f = some (CloneF sz by_ zs)) {α : Type} (fe : α → List AV) (hp : ∀ y, (fe y).all AV.pu1 = true) (hz : sz ≠ 0) (hzs : zs.length = sz) (xs : List α) (hx : ((xs.length : Nat) : Int) * by_ ≤ 140737488355328) : Fo P f [.lst sz (xs.map fe)] sz (xs.map fe) := by
  refine fo_of ?_
  rw [List.length_map]
  refine fV (m := []) (m' := [some ⟨sz, (xs.map fe)⟩]) hF (of_decide_eq_true (by kernel_rfl)) ?_
  refine srl 1 [0] ⟨[(0, .lst sz (xs.map fe))], []⟩ ?_
  refine EL.seqG [0] (fun y => (y = ⟨[(0, .lst sz (xs.map fe))], []⟩ ∧ ((List.isEmpty xs = true) ∨ (List.isEmpty xs = false)))) ?_ ?_
  · intro IHJ1 HJ1
    refine srr 1 ⟨[(3, .lst sz (xs.map fe)), (0, .lst sz (xs.map fe))], []⟩ ?_
    cases h2 : (List.isEmpty xs)
    · refine ow2 ⟨[(4, .v (.bool false)), (3, .lst sz (xs.map fe)), (0, .lst sz (xs.map fe))], []⟩ (opE_isn_ne fe xs (.s 3) sz false (by kernel_rfl) (by kernel_rfl) (.inl rfl) h2) ?_
      refine owl 0 [0, 4] ⟨[(4, .v (.bool false)), (0, .lst sz (xs.map fe))], []⟩ ?_
      refine cnF ?_
      refine EL.skip ?_
      exact tN (HJ1.get ⟨by kernel_rfl, (Or.inr h2)⟩)
    · refine ow2 ⟨[(4, .anyb), (3, .lst sz (xs.map fe)), (0, .lst sz (xs.map fe))], []⟩ (opE_isn_any fe xs (.s 3) sz false (by kernel_rfl) (by kernel_rfl) (.inl rfl) h2) ?_
      refine owl 0 [0, 4] ⟨[(4, .anyb), (0, .lst sz (xs.map fe))], []⟩ ?_
      refine EL.condAny (by kernel_rfl) ?_ ?_
      · refine srl 1 [2] ⟨[(2, .emp)], []⟩ ?_
        refine rtr ?_
        refine ⟨.inr rfl, ⟨[(2, .own 0 sz 0 (List.length xs))], [some ⟨sz, (xs.map fe)⟩]⟩, norm_le (live := [2]) (src := [.new sz]) (es := [(2, 0)]) (by rw [List.isEmpty_iff.1 h2]; cases sz with | zero => exact absurd rfl hz | succ n => kernel_rfl) trivial, by kernel_rfl, rfl⟩
      · refine EL.skip ?_
        exact tN (HJ1.get ⟨by kernel_rfl, (Or.inl h2)⟩)
  rintro _ (⟨rfl, hD3⟩)
  refine srr 2 ⟨[(6, .lst sz (xs.map fe)), (5, .own 0 sz 0 0), (0, .lst sz (xs.map fe))], [some ⟨sz, []⟩]⟩ ?_
  refine ow2 ⟨(7, .own 1 sz 0 (List.length xs)) :: [(6, .lst sz (xs.map fe)), (5, .own 0 sz 0 0), (0, .lst sz (xs.map fe))], [none, some ⟨sz, (xs.map fe)⟩]⟩ (oap fe ([] : List α) xs (.s 5) (.s 6) sz by_ 0 (.lst sz (xs.map fe)) .lst (by simp; omega)) ?_
  refine owl 1 [2] ⟨[(2, .own 1 sz 0 (List.length xs))], [none, some ⟨sz, (xs.map fe)⟩]⟩ ?_
  refine EL.ret ?_
  exact fne [2] [ut 1] ⟨[(2, .own 0 sz 0 (List.length xs))], [some ⟨sz, (xs.map fe)⟩]⟩ ⟨pq sz fe xs (by kernel_rfl) hp, trivial⟩
open Go.RowKit
theorem rc_plain {E : Env} : ∀ {vs : List Value} {ws : Array Value}, RC E ws (vs.map AV.v) → ws = vs.toArray := by
  intro vs ws h
  apply Array.ext
  · simpa using h.1
  · intro i h1 h2
    have h3 : i < vs.length := by simpa using h2
    have := h.2 i ws[i] (.v vs[i]) (Array.getElem?_eq_getElem h1) (by rw [List.getElem?_map, List.getElem?_eq_getElem h3]; rfl)
    generalize hq : ws[i] = q at this
    generalize hp : vs[i] = p at this
    have e : q = p := by cases this with | v h => rfl
    rw [e, ← hp]; simp
theorem fn_plain {P : Program} {f : FuncId} {vs : List Value} {u : Value} {r : AV} (hr : ∀ E : Env, Rep E u r) (h : ∀ w, Calls P f vs.toArray w fun e w' => e = .returned u ∧ Below w.heap.size w w') : Fn P f (vs.map AV.v) r := by
  intro w J ws hJ hG hrc
  rw [rc_plain hrc]
  exact (h w).mono fun e w' ⟨h1, h2⟩ => ⟨u, h1, hr _, h2⟩
theorem rep_two {E : Env} {a b : Value} (ha : plainV a = true) (hb : plainV b = true) : Rep E (.tuple #[a, b]) (.tup [.v a, .v b]) := by
  refine .tup rfl fun i v c hv hc => ?_
  match i with
  | 0 => simp at hv hc; subst hv; subst hc; exact .v ha
  | 1 => simp at hv hc; subst hv; subst hc; exact .v hb
  | i + 2 => simp at hc
def k_27 : Con Tc Tc.dn := ⟨27, [.ty .cU8, .ty .cU8], fun _ => True, [.cU8], fun x => gmul x.1 x.2.1⟩
theorem k_27_ok : k_27.Ok Try.prog tD := ⟨F27_call, fun x N _ => fn_plain (vs := [B x.1, B x.2.1]) (u := B (gmul x.1 x.2.1)) (fun _ => .v rfl) fun w => (mul_any x.1 x.2.1 w).mono fun e w' ⟨h1, h2⟩ => ⟨h1, by subst h2; exact Below.refl _ _⟩⟩
def k_31 : Con Tc Tc.dn := ⟨31, [.ty .cU8], fun _ => True, [.cU8, .cInt], fun x => (invN x.1, errZ x.1)⟩
theorem k_31_ok : k_31.Ok Try.prog tD := ⟨F31_call, fun x N _ => fn_plain (vs := [B x.1]) (u := .tuple #[B (invN x.1), I (errZ x.1)]) (fun _ => rep_two rfl rfl) fun w => inverse_any x.1 w⟩
theorem gmul_fn (a b : UInt8) : Fn Try.prog 27 [.v (.int .u8 (a.toNat : Int)), .v (.int .u8 (b.toNat : Int))] (.v (.int .u8 ((gmul a b).toNat : Int))) := k_27_ok.2 (a, b, ()) ⟨fun _ => 0, fun _ => 0, fun _ => .v .nilFunc⟩ trivial
theorem xorY {x y : UInt8} (_ : 0 ≤ 0) : bits .xor .u8 (x.toNat : Int) (y.toNat : Int) = ((x ^^^ y).toNat : Int) := B_xor x y
theorem pv_back {p : List UInt8} {x a : UInt8} {t : Int} (h0 : 0 ≤ t) (h : p[t.toNat]? = some a) : gmul (pv (p.drop (t + 1).toNat) x) x ^^^ a = pv (p.drop (t - 1 + 1).toNat) x := by
  obtain ⟨h1, h2⟩ := List.getElem?_eq_some_iff.1 h
  rw [show (t - 1 + 1).toNat = t.toNat by omega, show (t + 1).toNat = t.toNat + 1 by omega, List.drop_eq_getElem_cons h1, h2, pv, UInt8.xor_comm, gmul_comm]
section
variable (a6 : UInt8) (c : UInt8) (i : Int) (out : UInt8) (p : List UInt8) (x : UInt8)
abbrev pvq0 : OB := some ⟨1, [[.v (.int .u8 (x.toNat : Int))]]⟩
abbrev pvq1 : LB := [(pvq0 x), some ⟨1, [[.v (.int .u8 0)]]⟩]
abbrev pvq2 : LS := [(4, .ref 1 1 0 0), (3, .ref 0 1 0 0), (0, .lst 1 (p.map cY))]
abbrev pvq3 : OB := some ⟨1, [[.lst 1 (p.map cY)]]⟩
abbrev pvq4 : LB := [(pvq0 x), some ⟨1, [[.v (.int .u8 0)]]⟩, (pvq3 p)]
abbrev pvq5 : LS := (8, .fn 33 [.ref 2 1 0 0]) :: (7, .lst 1 (p.map cY)) :: (pvq2 p)
abbrev pvq6 : LS := [(8, .fn 33 [.ref 2 1 0 0]), (4, .ref 1 1 0 0), (3, .ref 0 1 0 0)]
abbrev pvq7 : OB := some ⟨1, [[.v (.int .u8 ((0 : UInt8).toNat : Int))]]⟩
abbrev pvq8 : OB := some ⟨1, [[.v (.int .u8 ((pv p x).toNat : Int))]]⟩
abbrev pvq9 : LB := [(pvq0 x), (pvq8 p x), (pvq3 p)]
abbrev pvq10 : OB := some ⟨1, [[.v (.int .u8 (out.toNat : Int))]]⟩
abbrev pvq11 : LB := [(pvq0 x), (pvq10 out), (pvq3 p)]
abbrev pvq12 : OB := some ⟨1, [[.v (.int .u8 ((gmul out x ^^^ c).toNat : Int))]]⟩
abbrev pvq13 : LB := [(pvq0 x), (pvq12 c out x), (pvq3 p)]
abbrev pvq14 : LS := [(6, .v (.int .u8 (c.toNat : Int))), (10, .v (.int .u8 (c.toNat : Int))), (9, VI i), (0, .dead), (1, .dead), (2, .dead), (3, .ref 0 1 0 0), (4, .ref 1 1 0 0), (5, .dead), (7, .dead), (8, .fn 33 [.ref 2 1 0 0]), (11, .dead), (12, .dead), (13, .dead), (14, .dead), (15, .dead), (16, .dead)]
abbrev pvq15 : LS := [(12, .v (.int .u8 (x.toNat : Int))), (11, .v (.int .u8 (out.toNat : Int))), (6, .v (.int .u8 (c.toNat : Int))), (10, .v (.int .u8 (c.toNat : Int))), (9, VI i), (0, .dead), (1, .dead), (2, .dead), (3, .ref 0 1 0 0), (4, .ref 1 1 0 0), (5, .dead), (7, .dead), (8, .fn 33 [.ref 2 1 0 0]), (13, .dead), (14, .dead), (15, .dead), (16, .dead)]
abbrev pvq16 : LS := [(13, .v (.int .u8 ((gmul out x).toNat : Int))), (12, .v (.int .u8 (x.toNat : Int))), (11, .v (.int .u8 (out.toNat : Int))), (6, .v (.int .u8 (c.toNat : Int))), (10, .v (.int .u8 (c.toNat : Int))), (9, VI i), (0, .dead), (1, .dead), (2, .dead), (3, .ref 0 1 0 0), (4, .ref 1 1 0 0), (5, .dead), (7, .dead), (8, .fn 33 [.ref 2 1 0 0]), (14, .dead), (15, .dead), (16, .dead)]
abbrev pvq17 : LS := [(14, .v (.int .u8 (c.toNat : Int))), (13, .v (.int .u8 ((gmul out x).toNat : Int))), (12, .v (.int .u8 (x.toNat : Int))), (11, .v (.int .u8 (out.toNat : Int))), (6, .v (.int .u8 (c.toNat : Int))), (10, .v (.int .u8 (c.toNat : Int))), (9, VI i), (0, .dead), (1, .dead), (2, .dead), (3, .ref 0 1 0 0), (4, .ref 1 1 0 0), (5, .dead), (7, .dead), (8, .fn 33 [.ref 2 1 0 0]), (16, .dead)]
abbrev pvq18 : OB := some ⟨1, [[.v (.int .u8 (((gmul out x) ^^^ c).toNat : Int))]]⟩
abbrev pvq19 : LB := [(pvq0 x), (pvq18 c out x), (pvq3 p)]
abbrev pvq20 : LS := (15, .v (.int .u8 (((gmul out x) ^^^ c).toNat : Int))) :: (pvq17 c i out x)
abbrev pvq21 : OB := some ⟨1, [[.v (.int .u8 ((gmul out x ^^^ a6).toNat : Int))]]⟩
abbrev pvq22 : LB := [(pvq0 x), (pvq21 a6 out x), (pvq3 p)]
end
theorem value_fn (p : List UInt8) (x : UInt8) (hl : p.length ≤ 140737488355328) : Fn Try.prog 16 [.lst 1 (p.map cY), .v (.int .u8 (x.toNat : Int))] (.v (.int .u8 ((pv p x).toNat : Int))) := by
  refine fW F16_ok (of_decide_eq_true (by kernel_rfl)) ?_
  refine EL.sreg ?_
  refine OW.last 2 [0, 3, 4] (x' := ⟨(pvq2 p), (pvq1 x)⟩) (by kernel_rfl) (by kernel_rfl) ?_
  refine EL.seq ?_
  refine EL.sreg ?_
  refine OW.run 1 (x' := ⟨(7, .lst 1 (p.map cY)) :: (pvq2 p), (pvq1 x)⟩) (by kernel_rfl) ?_
  refine OW.fi (ar := [.lst 1 (p.map cY)]) (r := .fn 33 [.ref 2 1 0 0]) (m' := (pvq4 p x)) (x' := ⟨(pvq5 p), (pvq4 p x)⟩) (by kernel_rfl) (by kernel_rfl) F28_call ?_ (by kernel_rfl) ?_
  · refine fV F28_ok (of_decide_eq_true (by kernel_rfl)) ?_
    refine EL.sreg ?_
    refine OW.last 2 [1] (x' := ⟨[(1, .ref 2 1 0 0)], (pvq4 p x)⟩) (by kernel_rfl) (by kernel_rfl) ?_
    refine EL.sreg ?_
    refine OW.last 2 [2] (x' := ⟨[(2, .fn 33 [.ref 2 1 0 0])], (pvq4 p x)⟩) (by kernel_rfl) (by kernel_rfl) ?_
    refine EL.ret ?_
    refine ⟨.inr rfl, ⟨[(2, .fn 33 [.ref 2 1 0 0])], (pvq4 p x)⟩, norm_le (live := [2]) (src := [uf 0, uf 1, uf 2]) (es := []) (by kernel_rfl) trivial, by kernel_rfl, rfl⟩
  refine OW.last 0 [3, 4, 8] (x' := ⟨pvq6, (pvq4 p x)⟩) (by kernel_rfl) (by kernel_rfl) ?_
  refine EL.block ?_
  refine EL.eqv (x' := ⟨pvq6, [(pvq0 x), pvq7, (pvq3 p)]⟩) (by kernel_rfl) ?_
  refine EL.rng 3 (res := .tup []) (f := 33) (caps := [.ref 2 1 0 0]) (cs := [.dead, .dead, .dead, .ref 0 1 0 0, .ref 1 1 0 0, .dead, .dead, .dead, .fn 33 [.ref 2 1 0 0], .dead, .dead, .dead, .dead, .dead, .dead, .dead, .dead]) (m' := (pvq9 p x)) (by kernel_rfl) (by kernel_rfl) F33_call (by kernel_rfl) (⟨.inl (by kernel_rfl), ⟨.inl (by kernel_rfl), ⟨.inl (by kernel_rfl), trivial⟩⟩⟩) ?_ ?_
  · intro r r1 r2 r3 r4 r5
    have HY : ∀ (out : UInt8) (i : Int) (c : UInt8) , Yd Try.prog 3 r [.dead, .dead, .dead, .ref 0 1 0 0, .ref 1 1 0 0, .dead, .dead, .dead, .fn 33 [.ref 2 1 0 0], .dead, .dead, .dead, .dead, .dead, .dead, .dead, .dead] [VI i, .v (.int .u8 (c.toNat : Int))] (look (pvq11 out p x)) 3 (look (pvq13 c out p x)) 3 := by
      intro out i c 
      refine yd_walk (n := F16.n) (m := (pvq11 out p x)) (m' := (pvq13 c out p x)) r1 r2 r3 r4 r5 (by kernel_rfl) ?_
      refine EL.reg0 ?_
      refine OW.end 1 (x' := ⟨(pvq14 c i), (pvq11 out p x)⟩) (by kernel_rfl) (by kernel_rfl) ?_
      refine ⟨rfl, by kernel_rfl, (⟨.inl (by kernel_rfl), ⟨.inl (by kernel_rfl), ⟨.inl (by kernel_rfl), trivial⟩⟩⟩), ?_⟩
      refine EL.block ?_
      refine EL.reg0 ?_
      refine OW.run 2 (x' := ⟨(pvq15 c i out x), (pvq11 out p x)⟩) (by kernel_rfl) ?_
      refine OW.fn (ar := [.v (.int .u8 (out.toNat : Int)), .v (.int .u8 (x.toNat : Int))]) (x' := ⟨(pvq16 c i out x), (pvq11 out p x)⟩) (by kernel_rfl) (by kernel_rfl) F27_call (gmul_fn out x) (by kernel_rfl) (by kernel_rfl) ?_
      refine OW.run 3 (x' := ⟨(15, .v (.int .u8 (bits .xor .u8 ((gmul out x).toNat : Int) (c.toNat : Int)))) :: (pvq17 c i out x), [(pvq0 x), some ⟨1, [[.v (.int .u8 (bits .xor .u8 ((gmul out x).toNat : Int) (c.toNat : Int)))]]⟩, (pvq3 p)]⟩) (by kernel_rfl) ?_
      have e1 : bits .xor .u8 ((gmul out x).toNat : Int) (c.toNat : Int) = (((gmul out x) ^^^ c).toNat : Int) := xorY (by omega)
      rw [e1]
      clear e1
      refine OW.end 0 (x' := ⟨(pvq20 c i out x), (pvq19 c out p x)⟩) (by kernel_rfl) (by kernel_rfl) ?_
      refine iN ?_
      refine ⟨rfl, ⟨[], (pvq13 c out p x)⟩, norm_le (live := []) (src := [uf 0, uf 1, uf 2]) (es := []) (by kernel_rfl) trivial, (⟨.inl (by kernel_rfl), ⟨.inl (by kernel_rfl), ⟨.inl (by kernel_rfl), trivial⟩⟩⟩), rfl⟩
    refine fib_walk (m := [(pvq0 x), pvq7, (pvq3 p)]) (m' := (pvq9 p x)) (kb := 3) F33_ok (of_decide_eq_true (by kernel_rfl)) ?_
    refine EL.sreg ?_
    refine OW.run 1 (x' := ⟨[(4, .lst 1 (p.map cY)), (0, .yld r [.dead, .dead, .dead, .ref 0 1 0 0, .ref 1 1 0 0, .dead, .dead, .dead, .fn 33 [.ref 2 1 0 0], .dead, .dead, .dead, .dead, .dead, .dead, .dead, .dead]), (1, .ref 2 1 0 0)], [(pvq0 x), pvq7, (pvq3 p)]⟩) (by kernel_rfl) ?_
    refine OW.ope (v := VI (List.length p : Int)) (u := []) (acc := []) (x' := ⟨[(5, VI (List.length p : Int)), (4, .lst 1 (p.map cY)), (0, .yld r [.dead, .dead, .dead, .ref 0 1 0 0, .ref 1 1 0 0, .dead, .dead, .dead, .fn 33 [.ref 2 1 0 0], .dead, .dead, .dead, .dead, .dead, .dead, .dead, .dead]), (1, .ref 2 1 0 0)], [(pvq0 x), pvq7, (pvq3 p)]⟩) (by kernel_rfl) (opE_len cY p (.s 4) 1 (by kernel_rfl) (by kernel_rfl) (.inl rfl)) (by kernel_rfl) ?_
    refine OW.run 2 (x' := ⟨[(3, VI (IntKind.i64.wrap ((List.length p : Int) - 1))), (6, VI (IntKind.i64.wrap ((List.length p : Int) - 1))), (5, VI (List.length p : Int)), (4, .lst 1 (p.map cY)), (0, .yld r [.dead, .dead, .dead, .ref 0 1 0 0, .ref 1 1 0 0, .dead, .dead, .dead, .fn 33 [.ref 2 1 0 0], .dead, .dead, .dead, .dead, .dead, .dead, .dead, .dead]), (1, .ref 2 1 0 0)], [(pvq0 x), pvq7, (pvq3 p)]⟩) (by kernel_rfl) ?_
    have e2 : IntKind.i64.wrap ((List.length p : Int) - 1) = (List.length p : Int) - 1 := wr64 (by omega)
    rw [e2]
    refine OW.last 0 [0, 1, 3] (x' := ⟨[(3, VI ((List.length p : Int) - 1)), (0, .yld r [.dead, .dead, .dead, .ref 0 1 0 0, .ref 1 1 0 0, .dead, .dead, .dead, .fn 33 [.ref 2 1 0 0], .dead, .dead, .dead, .dead, .dead, .dead, .dead, .dead]), (1, .ref 2 1 0 0)], [(pvq0 x), pvq7, (pvq3 p)]⟩) (by kernel_rfl) (by kernel_rfl) ?_
    refine EL.block ?_
    refine EL.loopN (fun mM xX => ∃ (t : Int) (out : UInt8), mM = (t + 1).toNat ∧ ((-1 ≤ t ∧ t < p.length) ∧ out = pv (p.drop (t + 1).toNat) x) ∧ xX = ⟨[(0, .yld r [.dead, .dead, .dead, .ref 0 1 0 0, .ref 1 1 0 0, .dead, .dead, .dead, .fn 33 [.ref 2 1 0 0], .dead, .dead, .dead, .dead, .dead, .dead, .dead, .dead]), (1, .ref 2 1 0 0), (3, VI t)], (pvq11 out p x)⟩) (y := (fun (t : Int) (out : UInt8) => (⟨[(0, .yld r [.dead, .dead, .dead, .ref 0 1 0 0, .ref 1 1 0 0, .dead, .dead, .dead, .fn 33 [.ref 2 1 0 0], .dead, .dead, .dead, .dead, .dead, .dead, .dead, .dead]), (1, .ref 2 1 0 0), (3, VI t)], (pvq11 out p x)⟩ : L3)) ((List.length p : Int) - 1) (0 : UInt8)) [0, 1, 3] [uf 0, uf 1, uf 2] [] (by kernel_rfl) trivial ⟨((List.length p : Int) - 1), (0 : UInt8), rfl, ⟨⟨by omega, by omega⟩, by rw [List.drop_eq_nil_of_le (by omega)]; rfl⟩, rfl⟩ ?_
    rintro _ _ ⟨t, out, rfl, hI3, rfl⟩
    obtain ⟨hk, hs⟩ := hI3
    refine EL.seq ?_
    refine EL.sreg ?_
    refine OW.last 2 [0, 1, 3, 8] (x' := ⟨[(8, .v (.bool (decide (t ≥ 0)))), (0, .yld r [.dead, .dead, .dead, .ref 0 1 0 0, .ref 1 1 0 0, .dead, .dead, .dead, .fn 33 [.ref 2 1 0 0], .dead, .dead, .dead, .dead, .dead, .dead, .dead, .dead]), (1, .ref 2 1 0 0), (3, VI t)], (pvq11 out p x)⟩) (by kernel_rfl) (by kernel_rfl) ?_
    cases h4 : (decide (t ≥ 0))
    ·
      have g4 := of_decide_eq_false h4
      refine EL.condF (by kernel_rfl) ?_
      refine EL.exit ?_
      refine tX ?_
      refine tX ?_
      refine iH ?_
      refine ⟨.inl rfl, ⟨[], (pvq11 out p x)⟩, norm_le (live := []) (src := [uf 0, uf 1, uf 2]) (es := []) (by kernel_rfl) trivial, by kernel_rfl, ?_⟩
      focus ((rw [hs, show (t + 1).toNat = 0 by omega, List.drop_zero]))
    ·
      have g4 := of_decide_eq_true h4
      refine EL.condT (by kernel_rfl) ?_
      refine EL.skip ?_
      refine tN ?_
      refine EL.seq ?_
      refine EL.block ?_
      refine EL.norm [8, 0, 1, 3] [uf 0, uf 1, uf 2] [] (y := ⟨[(8, .v (.bool true)), (0, .yld r [.dead, .dead, .dead, .ref 0 1 0 0, .ref 1 1 0 0, .dead, .dead, .dead, .fn 33 [.ref 2 1 0 0], .dead, .dead, .dead, .dead, .dead, .dead, .dead, .dead]), (1, .ref 2 1 0 0), (3, VI t)], (pvq11 out p x)⟩) (by kernel_rfl) trivial ?_
      refine EL.sreg ?_
      refine OW.run 4 (x' := ⟨[(14, VI t), (13, .lst 1 (p.map cY)), (12, VI t), (11, .yld r [.dead, .dead, .dead, .ref 0 1 0 0, .ref 1 1 0 0, .dead, .dead, .dead, .fn 33 [.ref 2 1 0 0], .dead, .dead, .dead, .dead, .dead, .dead, .dead, .dead]), (8, .v (.bool true)), (0, .yld r [.dead, .dead, .dead, .ref 0 1 0 0, .ref 1 1 0 0, .dead, .dead, .dead, .fn 33 [.ref 2 1 0 0], .dead, .dead, .dead, .dead, .dead, .dead, .dead, .dead]), (1, .ref 2 1 0 0), (3, VI t)], (pvq11 out p x)⟩) (by kernel_rfl) ?_
      obtain ⟨a6, ha6⟩ : ∃ y, p[(t : Int).toNat]? = some y := idx_ex ⟨by omega, by omega⟩
      refine OW.ope (v := .pim [.v (.int .u8 (a6.toNat : Int))] 0) (u := []) (acc := []) (x' := ⟨[(15, .pim [.v (.int .u8 (a6.toNat : Int))] 0), (14, VI t), (13, .lst 1 (p.map cY)), (12, VI t), (11, .yld r [.dead, .dead, .dead, .ref 0 1 0 0, .ref 1 1 0 0, .dead, .dead, .dead, .fn 33 [.ref 2 1 0 0], .dead, .dead, .dead, .dead, .dead, .dead, .dead, .dead]), (8, .v (.bool true)), (0, .yld r [.dead, .dead, .dead, .ref 0 1 0 0, .ref 1 1 0 0, .dead, .dead, .dead, .fn 33 [.ref 2 1 0 0], .dead, .dead, .dead, .dead, .dead, .dead, .dead, .dead]), (1, .ref 2 1 0 0), (3, VI t)], (pvq11 out p x)⟩) (by kernel_rfl) (opE_iad cY p (.s 13) (.s 14) 1 .i64 t a6 (by kernel_rfl) (by kernel_rfl) (.inl rfl) rfl (by omega) ha6) (by kernel_rfl) ?_
      refine OW.run 1 (x' := ⟨[(16, .v (.int .u8 (a6.toNat : Int))), (15, .pim [.v (.int .u8 (a6.toNat : Int))] 0), (14, VI t), (13, .lst 1 (p.map cY)), (12, VI t), (11, .yld r [.dead, .dead, .dead, .ref 0 1 0 0, .ref 1 1 0 0, .dead, .dead, .dead, .fn 33 [.ref 2 1 0 0], .dead, .dead, .dead, .dead, .dead, .dead, .dead, .dead]), (8, .v (.bool true)), (0, .yld r [.dead, .dead, .dead, .ref 0 1 0 0, .ref 1 1 0 0, .dead, .dead, .dead, .fn 33 [.ref 2 1 0 0], .dead, .dead, .dead, .dead, .dead, .dead, .dead, .dead]), (1, .ref 2 1 0 0), (3, VI t)], (pvq11 out p x)⟩) (by kernel_rfl) ?_
      refine OW.yld (a := (.s 11)) (args := [(.s 12), (.s 16)]) (aa := [VI t, .v (.int .u8 (a6.toNat : Int))]) (kb := 3) (m' := (pvq22 a6 out p x)) (x' := ⟨[(17, .v (.bool true)), (16, .v (.int .u8 (a6.toNat : Int))), (15, .pim [.v (.int .u8 (a6.toNat : Int))] 0), (14, VI t), (13, .lst 1 (p.map cY)), (12, VI t), (11, .yld r [.dead, .dead, .dead, .ref 0 1 0 0, .ref 1 1 0 0, .dead, .dead, .dead, .fn 33 [.ref 2 1 0 0], .dead, .dead, .dead, .dead, .dead, .dead, .dead, .dead]), (8, .v (.bool true)), (0, .yld r [.dead, .dead, .dead, .ref 0 1 0 0, .ref 1 1 0 0, .dead, .dead, .dead, .fn 33 [.ref 2 1 0 0], .dead, .dead, .dead, .dead, .dead, .dead, .dead, .dead]), (1, .ref 2 1 0 0), (3, VI t)], (pvq22 a6 out p x)⟩) (by kernel_rfl) (by kernel_rfl) (by kernel_rfl) (by kernel_rfl) (by kernel_rfl) (by kernel_rfl) (HY out t a6 ) (by kernel_rfl) ?_
      refine OW.last 1 [0, 1, 3, 18] (x' := ⟨[(18, .v (.bool false)), (0, .yld r [.dead, .dead, .dead, .ref 0 1 0 0, .ref 1 1 0 0, .dead, .dead, .dead, .fn 33 [.ref 2 1 0 0], .dead, .dead, .dead, .dead, .dead, .dead, .dead, .dead]), (1, .ref 2 1 0 0), (3, VI t)], (pvq22 a6 out p x)⟩) (by kernel_rfl) (by kernel_rfl) ?_
      refine EL.condF (by kernel_rfl) ?_
      refine EL.skip ?_
      refine iN ?_
      refine tN ?_
      refine EL.reg0 ?_
      refine OW.run 3 (x' := ⟨[(3, VI (IntKind.i64.wrap (t - 1))), (10, VI (IntKind.i64.wrap (t - 1))), (9, VI t), (18, .v (.bool false)), (0, .yld r [.dead, .dead, .dead, .ref 0 1 0 0, .ref 1 1 0 0, .dead, .dead, .dead, .fn 33 [.ref 2 1 0 0], .dead, .dead, .dead, .dead, .dead, .dead, .dead, .dead]), (1, .ref 2 1 0 0)], (pvq22 a6 out p x)⟩) (by kernel_rfl) ?_
      have e7 : IntKind.i64.wrap (t - 1) = t - 1 := wr64 (by omega)
      rw [e7]
      refine OW.end 0 (x' := ⟨[(3, VI (t - 1)), (10, VI (t - 1)), (9, VI t), (18, .v (.bool false)), (0, .yld r [.dead, .dead, .dead, .ref 0 1 0 0, .ref 1 1 0 0, .dead, .dead, .dead, .fn 33 [.ref 2 1 0 0], .dead, .dead, .dead, .dead, .dead, .dead, .dead, .dead]), (1, .ref 2 1 0 0)], (pvq22 a6 out p x)⟩) (by kernel_rfl) (by kernel_rfl) ?_
      refine tN ?_
      refine rE (live := [0, 1, 3]) (src := [uf 0, uf 1, uf 2]) (es := []) (y := (fun (t : Int) (out : UInt8) => (⟨[(0, .yld r [.dead, .dead, .dead, .ref 0 1 0 0, .ref 1 1 0 0, .dead, .dead, .dead, .fn 33 [.ref 2 1 0 0], .dead, .dead, .dead, .dead, .dead, .dead, .dead, .dead]), (1, .ref 2 1 0 0), (3, VI t)], (pvq11 out p x)⟩ : L3)) (t - 1) (gmul out x ^^^ a6)) ?_ trivial ?_ ⟨(t - 1), (gmul out x ^^^ a6), rfl, ?_, rfl⟩
      · kernel_rfl
      · omega
      focus (refine ⟨⟨by omega, by omega⟩, ?_⟩; rw [hs]; exact pv_back (by omega) (by assumption))
  · skip
    refine iN ?_
    refine tN ?_
    refine EL.sreg ?_
    refine OW.last 2 [4] (x' := ⟨[(4, .ref 1 1 0 0)], (pvq9 p x)⟩) (by kernel_rfl) (by kernel_rfl) ?_
    refine EL.ret ?_
    refine ⟨.inr rfl, .v (.int .u8 ((pv p x).toNat : Int)), by kernel_rfl, Ale.of_eq ?_⟩
    focus ((simp))
open Go.RowKit
def k_16 : Con Tc Tc.dn := ⟨16, [.ty .lU8, .ty .cU8], fun x => x.1.length ≤ 140737488355328, [.cU8], fun x => pv x.1 x.2.1⟩
theorem k_16_ok : k_16.Ok Try.prog tD := ⟨F16_call, fun x N h => value_fn x.1 x.2.1 h⟩
theorem trim_back {p : List UInt8} {n : Int} (h0 : 0 < n) (h : n ≤ p.length) (hz : gd 0 p (n - 1).toNat = 0) : trimP (p.take (n - 1).toNat) = trimP (p.take n.toNat) := by
  have h1 : (n - 1).toNat < p.length := by omega
  have e : gd 0 p (n - 1).toNat = p[(n - 1).toNat] := by unfold gd; rw [List.getElem?_eq_getElem h1]; rfl
  rw [show n.toNat = (n - 1).toNat + 1 by omega, List.take_succ_eq_append_getElem h1, trimP_snoc, if_pos (e ▸ hz)]
theorem trim_stop {p : List UInt8} {n : Int} (h : n ≤ p.length) (hz : n ≤ 0 ∨ ¬ gd 0 p (n - 1).toNat = 0) : trimP (p.take n.toNat) = p.take n.toNat := by
  by_cases h0 : n ≤ 0
  · rw [show n.toNat = 0 by omega]; rfl
  · have h1 : (n - 1).toNat < p.length := by omega
    have e : gd 0 p (n - 1).toNat = p[(n - 1).toNat] := by unfold gd; rw [List.getElem?_eq_getElem h1]; rfl
    rw [show n.toNat = (n - 1).toNat + 1 by omega, List.take_succ_eq_append_getElem h1, trimP_snoc, if_neg (e ▸ (hz.resolve_left h0))]
def o_23 : ConO Tc Tc.dn := ⟨23, [.ty .lU8], fun x => ((x.1.length : Nat) : Int) * 1 ≤ 140737488355328, .cU8, fun x => x.1⟩
theorem o_23_ok : o_23.Ok Try.prog tD := ⟨⟨F23_call, fun _ => rfl⟩, fun x N hp => clone_fo (sz := 1) (by_ := 1) F23_ok (tD.ea N.ρ .cU8) (fun y => tD_ok.pu1 N .cU8 y rfl) (by decide) rfl x.1 hp⟩
def i_13_0 (p : (List UInt8)) (n : Int) : Prop := 0 ≤ n ∧ n ≤ p.length ∧ trimP (p.take n.toNat) = trimP p
def k_13 : Con Tc Tc.dn := ⟨13, [.ty .lU8], fun x => (fun (p : (List UInt8)) => p.length ≤ 140737488355328) x.1, [.lU8], fun x => (fun (p : (List UInt8)) => trimP p) x.1⟩
theorem k_13_v (p : (List UInt8)) (hp : p.length ≤ 140737488355328) : i_13_0 p (↑p.length : Int) ∧ ∀ (x : Int), i_13_0 p x → ((0 : Int) < x → (0 : Int) < x) ∧ ((0 : Int) < x → I64 (x - (1 : Int))) ∧ ((0 : Int) < x → (0 : Int) < x) ∧ ((0 : Int) < x → (0 : Int) < x) ∧ ((0 : Int) < x → (0 : Int) ≤ x - (1 : Int) ∧ x - (1 : Int) < (↑p.length : Int)) ∧ ((0 : Int) < x → (0 : Int) < x) ∧ ((0 : Int) < x → (0 : Int) < x) ∧ ((0 : Int) < x → (0 : Int) < x) ∧ ((0 : Int) < x ∧ gd (0 : UInt8) p (x - (1 : Int)).toNat = UInt8.ofNat (Int.toNat (0 : Int)) → I64 (x - (1 : Int)) ∧ i_13_0 p (x - (1 : Int)) ∧ (x - (1 : Int)).toNat < x.toNat) ∧ (x ≤ (0 : Int) ∨ ¬gd (0 : UInt8) p (x - (1 : Int)).toNat = UInt8.ofNat (Int.toNat (0 : Int)) → ((0 : Int) ≤ x ∧ x ≤ (↑p.length : Int)) ∧ (↑(List.take x.toNat p).length : Int) * (1 : Int) ≤ (140737488355328 : Int) ∧ List.take x.toNat p = trimP p) := by
  have h1 := @trim_back p
  have h2 := @trim_stop p
  have e1 : p.take (p.length : Int).toNat = p := by simp
  simp only [i_13_0] at *
  (repeat' (first | apply And.intro | intro _)) <;> first | assumption | trivial | omega | (rw [e1]; done) | (simp only [List.length_take]; omega) | (grind [I64]) | trace_state
theorem k_13_ok : k_13.Ok Try.prog tD := con_ok tD_ok (Δ := []) trivial (Ω := [o_23]) ⟨o_23_ok, trivial⟩ k_13 F13_ok F13_call (fun _ => []) (fun _ => trivial) 0 (fun x => (fun (p : (List UInt8)) => (fun k => bif Nat.beq k 0 then some (.inv [.sl 3 .cInt] (fun zo zv => (fun (n : Int) => i_13_0 p n) zv.1) (fun zo zv => (fun (n : Int) => n.toNat) zv.1)) else none)) x.1) fun x hp => Eq.mp (by kernel_rfl) (k_13_v x.1 hp)
open Go.RowKit
theorem gd_padd : ∀ (a b : List UInt8) (n : Nat), gd 0 (padd a b) n = gd 0 a n ^^^ gd 0 b n
  | [], b, n => by cases b <;> simp [padd, gd]
  | a :: p, [], n => by simp [padd, gd]
  | a :: p, b :: q, 0 => rfl
  | a :: p, b :: q, n + 1 => gd_padd p q n
theorem gd_pscale (c : UInt8) : ∀ (p : List UInt8) (n : Nat), gd 0 (pscale c p) n = gmul c (gd 0 p n)
  | [], n => by simp [pscale, gd, gmul_zero]
  | a :: p, 0 => rfl
  | a :: p, n + 1 => gd_pscale c p n
theorem gd_far {p : List UInt8} {n : Nat} (h : p.length ≤ n) : gd 0 p n = 0 := by unfold gd; rw [List.getElem?_eq_none h]; rfl
theorem gd_same {a b : List UInt8} (hl : a.length = b.length) (h : ∀ n, n < a.length → gd 0 a n = gd 0 b n) : a = b := by
  refine List.ext_getElem hl fun n h1 h2 => ?_
  have := h n h1
  unfold gd at this
  rw [List.getElem?_eq_getElem h1, List.getElem?_eq_getElem h2] at this
  exact this
def cf (p q : List UInt8) : Nat → Nat → UInt8
  | 0, _ => 0
  | i + 1, n => cf p q i n ^^^ (if i ≤ n then gmul (gd 0 p i) (gd 0 q (n - i)) else 0)
theorem cf_cons (c : UInt8) (p q : List UInt8) (n : Nat) : ∀ i, cf (c :: p) q (i + 1) n = gmul c (gd 0 q n) ^^^ (if 1 ≤ n then cf p q i (n - 1) else 0)
  | 0 => by
    show (0 : UInt8) ^^^ (if 0 ≤ n then gmul c (gd 0 q (n - 0)) else 0) = _
    rw [if_pos (Nat.zero_le _), Nat.sub_zero, UInt8.zero_xor]
    show _ = _ ^^^ (if 1 ≤ n then (0 : UInt8) else 0)
    rw [ite_self, UInt8.xor_zero]
  | i + 1 => by
    show cf (c :: p) q (i + 1) n ^^^ (if i + 1 ≤ n then gmul (gd 0 p i) (gd 0 q (n - (i + 1))) else 0) = _
    rw [cf_cons c p q n i, UInt8.xor_assoc]
    congr 1
    by_cases h1 : 1 ≤ n
    · rw [if_pos h1, if_pos h1]
      show _ = cf p q i (n - 1) ^^^ _
      congr 1
      by_cases h2 : i + 1 ≤ n
      · rw [if_pos h2, if_pos (by omega), show n - (i + 1) = n - 1 - i by omega]
      · rw [if_neg h2, if_neg (by omega)]
    · rw [if_neg h1, if_neg h1, if_neg (by omega)]; rfl
theorem gd_pmul : ∀ (p q : List UInt8) (n : Nat), gd 0 (pmul p q) n = cf p q p.length n
  | [], q, n => by simp [pmul, cf, gd]
  | c :: p, q, n => by
    show gd 0 (padd (pscale c q) (0 :: pmul p q)) n = cf (c :: p) q (p.length + 1) n
    rw [gd_padd, gd_pscale, cf_cons]
    congr 1
    cases n with
    | zero => rfl
    | succ n => rw [if_pos (by omega)]; exact gd_pmul p q n
def prodP (p q : List UInt8) : List UInt8 := if p.length = 0 ∨ q.length = 0 then [] else pmul p q
structure PrO (p q : List UInt8) (i : Int) (out : List UInt8) : Prop where
  lo : 0 ≤ i
  hi : i ≤ p.length
  ne : 0 < p.length ∧ 0 < q.length ∧ p.length ≤ 1000 ∧ q.length ≤ 1000
  len : out.length + 1 = p.length + q.length
  get : ∀ n, n < out.length → gd 0 out n = cf p q i.toNat n
structure PrN (p q : List UInt8) (i k : Int) (out : List UInt8) : Prop where
  lo : 0 ≤ i ∧ 0 ≤ k
  hi : i < p.length ∧ k ≤ q.length
  ne : 0 < p.length ∧ 0 < q.length ∧ p.length ≤ 1000 ∧ q.length ≤ 1000
  len : out.length + 1 = p.length + q.length
  get : ∀ n, n < out.length → gd 0 out n = cf p q i.toNat n ^^^ (if i.toNat ≤ n ∧ n - i.toNat < k.toNat then gmul (gd 0 p i.toNat) (gd 0 q (n - i.toNat)) else 0)
theorem PrO.start {p q : List UInt8} (h1 : ¬ (p.length : Int) = 0) (h2 : ¬ (q.length : Int) = 0) (h3 : p.length ≤ 1000 ∧ q.length ≤ 1000) {m : Nat} (hm : m + 1 = p.length + q.length) : PrO p q 0 (List.replicate m 0) :=
  ⟨by omega, by omega, ⟨by omega, by omega, h3⟩, by simpa using hm, fun n hn => by simp at hn; simp [gd, hn, cf]⟩
theorem PrO.inn {p q : List UInt8} {i : Int} {out : List UInt8} (h : PrO p q i out) (hi : i < p.length) : PrN p q i 0 out :=
  ⟨⟨h.lo, by omega⟩, ⟨hi, by omega⟩, h.ne, h.len, fun n hn => by rw [if_neg (by simp), UInt8.xor_zero]; exact h.get n hn⟩
theorem PrN.step {p q : List UInt8} {i k : Int} {out : List UInt8} (h : PrN p q i k out) (hk : k < q.length) : PrN p q i (k + 1) (out.set (i + k).toNat (gd 0 out (i + k).toNat ^^^ gmul (gd 0 p i.toNat) (gd 0 q k.toNat))) := by
  obtain ⟨a1, a2⟩ := h.lo
  have hl := h.len
  have hh := h.hi
  have hne := h.ne
  refine ⟨⟨a1, by omega⟩, ⟨hh.1, by omega⟩, h.ne, by rw [List.length_set]; exact hl, fun n hn => ?_⟩
  rw [List.length_set] at hn
  have e : (i + k).toNat = i.toNat + k.toNat := by omega
  have g : gd 0 (out.set (i + k).toNat (gd 0 out (i + k).toNat ^^^ gmul (gd 0 p i.toNat) (gd 0 q k.toNat))) n = if (i + k).toNat = n then gd 0 out n ^^^ gmul (gd 0 p i.toNat) (gd 0 q k.toNat) else gd 0 out n := by
    unfold gd
    rw [List.getElem?_set]
    by_cases hq : (i + k).toNat = n
    · subst hq; rw [if_pos rfl, if_pos hn, if_pos rfl]; rfl
    · rw [if_neg hq, if_neg hq]
  rw [g]
  by_cases hq : (i + k).toNat = n
  · rw [if_pos hq, h.get n hn, if_neg (by omega), UInt8.xor_zero, if_pos (by omega), show n - i.toNat = k.toNat by omega]
  · rw [if_neg hq, h.get n hn]
    congr 1
    by_cases h5 : i.toNat ≤ n ∧ n - i.toNat < k.toNat
    · rw [if_pos h5, if_pos (by omega)]
    · rw [if_neg h5, if_neg (by omega)]
theorem PrN.fin {p q : List UInt8} {i k : Int} {out : List UInt8} (h : PrN p q i k out) (hk : q.length ≤ k) : PrO p q (i + 1) out := by
  obtain ⟨a1, a2⟩ := h.lo
  have hh := h.hi
  refine ⟨by omega, by omega, h.ne, h.len, fun n hn => ?_⟩
  rw [h.get n hn, show (i + 1).toNat = i.toNat + 1 by omega, cf]
  congr 1
  by_cases h5 : i.toNat ≤ n
  · rw [if_pos h5]
    by_cases h6 : n - i.toNat < k.toNat
    · rw [if_pos ⟨h5, h6⟩]
    · rw [if_neg (by omega), gd_far (p := q) (by omega), gmul_zero]
  · rw [if_neg h5, if_neg (by omega)]
theorem PrO.fin {p q : List UInt8} {i : Int} {out : List UInt8} (h : PrO p q i out) (hi : p.length ≤ i) : out = prodP p q := by
  have hh := h.hi
  have hne := h.ne
  have hl := h.len
  unfold prodP
  rw [if_neg (by omega)]
  have := pmul_len p q (fun e => by subst e; simp at hne) (fun e => by subst e; simp at hne)
  refine gd_same (by omega) fun n hn => ?_
  rw [h.get n hn, gd_pmul, show i.toNat = p.length by omega]
theorem PrN.sz {p q : List UInt8} {i k : Int} {out : List UInt8} (h : PrN p q i k out) : (0 ≤ i ∧ i ≤ 1000) ∧ (0 ≤ k ∧ k ≤ 1000) ∧ (k < q.length → i + k < out.length ∧ (i + k).toNat < out.length ∧ 0 ≤ i + k) := by
  have h1 := h.lo; have h2 := h.hi; have h3 := h.ne; have h4 := h.len
  omega
theorem PrO.sz {p q : List UInt8} {i : Int} {out : List UInt8} (h : PrO p q i out) : 0 ≤ i ∧ i ≤ 1000 := by
  have h1 := h.lo; have h2 := h.hi; have h3 := h.ne
  omega
def mulP (p q : List UInt8) : List UInt8 × Int := if 64 < p.length ∨ 64 < q.length then ([], 2) else (trimP (prodP p q), 0)
theorem prodP_len {p q : List UInt8} (h1 : p.length ≤ 1000) (h2 : q.length ≤ 1000) : (prodP p q).length ≤ 2000 := by
  unfold prodP
  by_cases h : p.length = 0 ∨ q.length = 0
  · rw [if_pos h]; simp
  · rw [if_neg h]
    have := pmul_len p q (fun e => by subst e; simp at h) (fun e => by subst e; simp at h)
    omega
def k_30 : Con Tc Tc.dn := ⟨30, [.ty .lU8], fun x => (fun (l : (List UInt8)) => True) x.1, [.cBool], fun x => (fun (l : (List UInt8)) => decide (64 < (l.length : Int))) x.1⟩
theorem k_30_v (l : (List UInt8)) : decide ((64 : Int) < (↑l.length : Int)) = decide ((64 : Int) < (↑l.length : Int)) := by
  (repeat' (first | apply And.intro | intro _)) <;> first | assumption | trivial | omega | (grind) | trace_state
theorem k_30_ok : k_30.Ok Try.prog tD := con_ok tD_ok (Δ := []) trivial (Ω := []) trivial k_30 F30_ok F30_call (fun _ => []) (fun _ => trivial) 0 (fun x => (fun (l : (List UInt8)) => (fun _ => none)) x.1) fun x hp => Eq.mp (by kernel_rfl) (k_30_v x.1)
def i_21_1 (p : (List UInt8)) (q : (List UInt8)) (k0 : Int) (i0 : Int) (out0 : (List UInt8)) (k : Int) (i : Int) (out : (List UInt8)) : Prop := i = i0 ∧ PrN p q i k out
def i_21_0 (p : (List UInt8)) (q : (List UInt8)) (i : Int) (out : (List UInt8)) : Prop := PrO p q i out
def k_21 : Con Tc Tc.dn := ⟨21, [.ty .lU8, .ty .lU8], fun x => (fun (p : (List UInt8)) (q : (List UInt8)) => p.length ≤ 1000 ∧ q.length ≤ 1000) x.1 x.2.1, [.lU8], fun x => (fun (p : (List UInt8)) (q : (List UInt8)) => prodP p q) x.1 x.2.1⟩
theorem k_21_v (p : (List UInt8)) (q : (List UInt8)) (hp : p.length ≤ 1000 ∧ q.length ≤ 1000) : (¬(↑p.length : Int) = (0 : Int) → ¬(↑p.length : Int) = (0 : Int)) ∧ (¬(↑p.length : Int) = (0 : Int) → ¬(↑p.length : Int) = (0 : Int)) ∧ (¬(↑p.length : Int) = (0 : Int) → ¬(↑p.length : Int) = (0 : Int)) ∧ ((↑p.length : Int) = (0 : Int) ∨ (↑q.length : Int) = (0 : Int) → [] = prodP p q) ∧ (¬(↑p.length : Int) = (0 : Int) ∧ ¬(↑q.length : Int) = (0 : Int) → I64 ((↑p.length : Int) + (↑q.length : Int)) ∧ I64 ((↑p.length : Int) + (↑q.length : Int) - (1 : Int)) ∧ ((0 : Int) ≤ (↑p.length : Int) + (↑q.length : Int) - (1 : Int) ∧ (↑p.length : Int) + (↑q.length : Int) - (1 : Int) ≤ (↑p.length : Int) + (↑q.length : Int) - (1 : Int) ∧ ((↑p.length : Int) + (↑q.length : Int) - (1 : Int)) * (↑(1 : Nat) : Int) ≤ (140737488355328 : Int)) ∧ i_21_0 p q (0 : Int) (List.replicate ((↑p.length : Int) + (↑q.length : Int) - (1 : Int)).toNat (UInt8.ofNat (Int.toNat (0 : Int)))) ∧ ∀ (x : Int) (x_1 : List UInt8), i_21_0 p q x x_1 → (x < (↑p.length : Int) → ((0 : Int) ≤ x ∧ x < (↑p.length : Int)) ∧ i_21_1 p q (0 : Int) x x_1 (0 : Int) x x_1 ∧ ∀ (x_2 x_3 : Int) (x_4 : List UInt8), i_21_1 p q (0 : Int) x x_1 x_2 x_3 x_4 → (x_2 < (↑q.length : Int) → ((0 : Int) ≤ x_2 ∧ x_2 < (↑q.length : Int)) ∧ I64 (x + x_2) ∧ ((0 : Int) ≤ x + x_2 ∧ x + x_2 < (↑x_4.length : Int)) ∧ (x + x_2).toNat < x_4.length ∧ True ∧ ((0 : Int) ≤ x + x_2 ∧ x + x_2 < (↑x_4.length : Int)) ∧ (x + x_2).toNat < x_4.length ∧ I64 (x_2 + (1 : Int)) ∧ i_21_1 p q (0 : Int) x x_1 (x_2 + (1 : Int)) x_3 (x_4.set (x + x_2).toNat (gd (0 : UInt8) x_4 (x + x_2).toNat ^^^ gmul (gd (0 : UInt8) p x.toNat) (gd (0 : UInt8) q x_2.toNat))) ∧ ((↑q.length : Int) - (x_2 + (1 : Int))).toNat < ((↑q.length : Int) - x_2).toNat) ∧ ((↑q.length : Int) ≤ x_2 → I64 (x_3 + (1 : Int)) ∧ i_21_0 p q (x_3 + (1 : Int)) x_4 ∧ ((↑p.length : Int) - (x_3 + (1 : Int))).toNat < ((↑p.length : Int) - x).toNat)) ∧ ((↑p.length : Int) ≤ x → x_1 = prodP p q)) := by
  have h1 := @PrO.start p q
  have h2 := @PrO.inn p q
  have h3 := @PrN.step p q
  have h4 := @PrN.fin p q
  have h5 := @PrO.fin p q
  have h6 := @PrN.sz p q
  have h7 := @PrO.sz p q
  have h8 : (p.length : Int) = 0 ∨ (q.length : Int) = 0 → [] = prodP p q := fun h => by unfold prodP; rw [if_pos (by omega)]
  (repeat' (first | apply And.intro | intro _)) <;> first | assumption | trivial | omega | (refine PrO.start ?_ ?_ hp ?_ <;> omega) | (grind [i_21_1, i_21_0, I64]) | trace_state
theorem k_21_ok : k_21.Ok Try.prog tD := con_ok tD_ok (Δ := [k_27]) ⟨k_27_ok, trivial⟩ (Ω := []) trivial k_21 F21_ok F21_call (fun _ => []) (fun _ => trivial) 0 (fun x => (fun (p : (List UInt8)) (q : (List UInt8)) => (fun k => bif Nat.beq k 0 then some (.inv [.sl 27 .cInt, .ow 5 .cU8] (fun zo zv => (fun (i : Int) (out : (List UInt8)) => i_21_0 p q i out) zv.1 zv.2.1) (fun zo zv => (fun (i : Int) (out : (List UInt8)) => ((p.length : Int) - i).toNat) zv.1 zv.2.1)) else bif Nat.beq k 1 then some (.inv [.sl 34 .cInt, .sl 27 .cInt, .ow 5 .cU8] (fun zo zv => (fun (k0 : Int) (i0 : Int) (out0 : (List UInt8)) (k : Int) (i : Int) (out : (List UInt8)) => i_21_1 p q k0 i0 out0 k i out) zo.1 zo.2.1 zo.2.2.1 zv.1 zv.2.1 zv.2.2.1) (fun zo zv => (fun (k0 : Int) (i0 : Int) (out0 : (List UInt8)) (k : Int) (i : Int) (out : (List UInt8)) => ((q.length : Int) - k).toNat) zo.1 zo.2.1 zo.2.2.1 zv.1 zv.2.1 zv.2.2.1)) else none)) x.1 x.2.1) fun x hp => Eq.mp (by kernel_rfl) (k_21_v x.1 x.2.1 hp)
def k_10 : Con Tc Tc.dn := ⟨10, [.ty .lU8, .ty .lU8], fun x => (fun (p : (List UInt8)) (q : (List UInt8)) => p.length ≤ 140737488355328 ∧ q.length ≤ 140737488355328) x.1 x.2.1, [.lU8, .cInt], fun x => (fun (p : (List UInt8)) (q : (List UInt8)) => mulP p q) x.1 x.2.1⟩
theorem k_10_v (p : (List UInt8)) (q : (List UInt8)) (hp : p.length ≤ 140737488355328 ∧ q.length ≤ 140737488355328) : True ∧ (decide ((64 : Int) < (↑p.length : Int)) = true → ([], (2 : Int)) = mulP p q) ∧ (decide ((64 : Int) < (↑p.length : Int)) = false → True ∧ (decide ((64 : Int) < (↑q.length : Int)) = true → ([], (2 : Int)) = mulP p q) ∧ (decide ((64 : Int) < (↑q.length : Int)) = false → (p.length ≤ (1000 : Nat) ∧ q.length ≤ (1000 : Nat)) ∧ (prodP p q).length ≤ (140737488355328 : Nat) ∧ (trimP (prodP p q), (0 : Int)) = mulP p q)) := by
  have e := @prodP_len p q
  unfold mulP
  simp only [decide_eq_true_eq, decide_eq_false_iff_not]
  refine ⟨trivial, fun h => by rw [if_pos (by omega)], fun h => ⟨trivial, fun h2 => by rw [if_pos (by omega)], fun h2 => ⟨by omega, by have := e (by omega) (by omega); omega, by rw [if_neg (by omega)]⟩⟩⟩
def l_10 : PD Tc.dn k_10.ps → List (IL Tc Tc.dn) := fun x => (fun (p : (List UInt8)) (q : (List UInt8)) => ([⟨20, .fn F20 (fun _ => none), none⟩, ⟨29, .fn F29 (fun _ => none), none⟩, ⟨34, .fn F34 (fun k => bif Nat.beq k 0 then some (.unr 3) else none), none⟩])) x.1 x.2.1
theorem l_10_ok : ∀ x, ILs Try.prog tD (l_10 x) := fun _ => ⟨⟨F20_ok, F20_call⟩, ⟨F29_ok, F29_call⟩, ⟨F34_ok, F34_call⟩, trivial⟩
theorem k_10_ok : k_10.Ok Try.prog tD := con_ok tD_ok (Δ := [k_21, k_13, k_30]) ⟨k_21_ok, k_13_ok, k_30_ok, trivial⟩ (Ω := []) trivial k_10 F10_ok F10_call (l_10) (l_10_ok) 3 (fun x => (fun (p : (List UInt8)) (q : (List UInt8)) => (fun _ => none)) x.1 x.2.1) fun x hp => Eq.mp (by kernel_rfl) (k_10_v x.1 x.2.1 hp)
open Go.RowKit
abbrev zr (i : Nat) : List UInt8 := List.replicate i 0
def divGo (q : List UInt8) (l : UInt8) : Nat → List UInt8 → List UInt8 → List UInt8 × List UInt8
  | 0, r, qs => (qs, r)
  | i + 1, r, qs => divGo q l i (padd r (zr i ++ pscale (gmul (gd 0 r (i + q.length - 1)) l) q)) (gmul (gd 0 r (i + q.length - 1)) l :: qs)
def lastI (q : List UInt8) : UInt8 := invN (gd 0 q ((q.length : Int) - 1).toNat)
def divL (p q : List UInt8) : List UInt8 × List UInt8 := (trimP (divGo q (lastI q) (p.length + 1 - q.length) p []).1, trimP (divGo q (lastI q) (p.length + 1 - q.length) p []).2)
theorem gd_zr (i : Nat) (s : List UInt8) (n : Nat) : gd 0 (zr i ++ s) n = if n < i then 0 else gd 0 s (n - i) := by
  unfold gd
  rw [List.getElem?_append]
  simp only [List.length_replicate]
  by_cases h : n < i
  · rw [if_pos h, if_pos h, List.getElem?_replicate, if_pos h]; rfl
  · rw [if_neg h, if_neg h]
theorem gd_tk (q : List UInt8) (k n : Nat) : gd 0 (q.take k) n = if n < k then gd 0 q n else 0 := by
  unfold gd
  rw [List.getElem?_take]
  by_cases h : n < k
  · rw [if_pos h, if_pos h]
  · rw [if_neg h, if_neg h]; rfl
theorem gd_st (r : List UInt8) (j n : Nat) (x : UInt8) (hj : j < r.length) : gd 0 (r.set j x) n = if j = n then x else gd 0 r n := by
  unfold gd
  rw [List.getElem?_set]
  by_cases hq : j = n
  · subst hq; rw [if_pos rfl, if_pos hj, if_pos rfl]; rfl
  · rw [if_neg hq, if_neg hq]
structure AdI (q : List UInt8) (r0 : List UInt8) (i : Int) (f : UInt8) (k : Int) (r : List UInt8) : Prop where
  lo : 0 ≤ i ∧ 0 ≤ k ∧ k ≤ q.length
  room : i + q.length ≤ r0.length ∧ r0.length ≤ 1000
  eq : r = padd r0 (zr i.toNat ++ pscale f (q.take k.toNat))
theorem AdI.start {q r0 : List UInt8} {i : Int} (f : UInt8) (h : 0 ≤ i) (h2 : i + q.length ≤ r0.length ∧ r0.length ≤ 1000) : AdI q r0 i f 0 r0 := by
  refine ⟨⟨h, by omega, by omega⟩, h2, ?_⟩
  refine gd_same ?_ fun n hn => ?_
  · rw [padd_len]; simp [pscale]; omega
  · rw [gd_padd, gd_zr]
    have : gd 0 (pscale f (q.take (0 : Int).toNat)) (n - i.toNat) = 0 := by simp [pscale, gd]
    rw [this, ite_self, UInt8.xor_zero]
theorem AdI.len {q r0 r : List UInt8} {i k : Int} {f : UInt8} (h : AdI q r0 i f k r) : r.length = r0.length := by
  have h1 := h.lo; have h2 := h.room
  rw [h.eq, padd_len]
  simp [pscale]; omega
theorem AdI.sz {q r0 r : List UInt8} {i k : Int} {f : UInt8} (h : AdI q r0 i f k r) : (0 ≤ i ∧ i ≤ 1000) ∧ (0 ≤ k ∧ k ≤ 1000) ∧ (k < q.length → i + k < r.length ∧ (i + k).toNat < r.length ∧ 0 ≤ i + k) := by
  have h1 := h.lo; have h2 := h.room; have h3 := h.len
  omega
theorem AdI.step {q r0 r : List UInt8} {i k : Int} {f : UInt8} (h : AdI q r0 i f k r) (hk : k < q.length) : AdI q r0 i f (k + 1) (r.set (i + k).toNat (gd 0 r (i + k).toNat ^^^ gmul f (gd 0 q k.toNat))) := by
  have h1 := h.lo; have h2 := h.room; have h3 := h.len
  refine ⟨by omega, h2, gd_same ?_ fun n hn => ?_⟩
  · rw [List.length_set, h3, padd_len]; simp [pscale]; omega
  · have hs := h.sz.2.2 hk
    rw [gd_st _ _ _ _ hs.2.1, h.eq]
    simp only [gd_padd, gd_zr, gd_pscale, gd_tk]
    by_cases e : (i + k).toNat = n
    · rw [if_pos e, ← e, if_neg (by omega), if_neg (by omega), show (i + k).toNat - i.toNat = k.toNat by omega, if_neg (by omega), if_pos (by omega), gmul_zero, UInt8.xor_zero]
    · rw [if_neg e]
      congr 1
      by_cases h5 : n < i.toNat
      · rw [if_pos h5, if_pos h5]
      · rw [if_neg h5, if_neg h5]
        by_cases h6 : n - i.toNat < k.toNat
        · rw [if_pos h6, if_pos (by omega)]
        · rw [if_neg h6, if_neg (by omega)]
theorem AdI.fin {q r0 r : List UInt8} {i k : Int} {f : UInt8} (h : AdI q r0 i f k r) (hk : q.length ≤ k) : r = padd r0 (zr i.toNat ++ pscale f q) := by
  have h1 := h.lo
  rw [h.eq, List.take_of_length_le (by omega)]
structure DvO (p q : List UInt8) (i : Int) (r t : List UInt8) : Prop where
  lo : -1 ≤ i ∧ i < t.length
  len : t.length = p.length + 1 - q.length ∧ r.length = p.length
  few : 0 < q.length ∧ p.length ≤ 1000 ∧ q.length ≤ 1000
  ex : ∃ qs, t = zr (i + 1).toNat ++ qs ∧ divGo q (lastI q) (i + 1).toNat r qs = divGo q (lastI q) (p.length + 1 - q.length) p []
theorem DvO.start {p q : List UInt8} {n : Nat} {i : Int} (h : 0 < q.length ∧ p.length ≤ 1000 ∧ q.length ≤ 1000) (hn : n = p.length + 1 - q.length) (hi : i = (n : Int) - 1) : DvO p q i p (List.replicate n 0) :=
  ⟨by rw [List.length_replicate]; omega, by rw [List.length_replicate]; omega, h, [], by rw [show (i + 1).toNat = n by omega, List.append_nil], by rw [show (i + 1).toNat = n by omega, hn]⟩
theorem zr_set (n : Nat) (qs : List UInt8) (f : UInt8) : (zr (n + 1) ++ qs).set n f = zr n ++ f :: qs := by
  rw [show zr (n + 1) = zr n ++ [0] from List.replicate_succ', List.append_assoc, List.set_append]
  simp
theorem DvO.room {p q r t : List UInt8} {i : Int} (h : DvO p q i r t) : (-1 ≤ i ∧ i ≤ 1000) ∧ (0 ≤ i → (i.toNat < t.length ∧ i < t.length) ∧ (i + q.length ≤ r.length ∧ r.length ≤ 1000) ∧ (0 ≤ i + q.length - 1 ∧ i + q.length - 1 < r.length ∧ (i + q.length - 1).toNat < r.length)) := by
  have h1 := h.lo; have h2 := h.len; have h3 := h.few
  omega
theorem DvO.step {p q r t : List UInt8} {i : Int} (h : DvO p q i r t) (hi : 0 ≤ i) {r' : List UInt8} (hr : r' = padd r (zr i.toNat ++ pscale (gmul (gd 0 r (i + q.length - 1).toNat) (lastI q)) q)) : DvO p q (i - 1) r' (t.set i.toNat (gmul (gd 0 r (i + q.length - 1).toNat) (lastI q))) := by
  have h1 := h.lo; have h2 := h.len; have h3 := h.few
  have h4 := h.room.2 hi
  obtain ⟨qs, e1, e2⟩ := h.ex
  refine ⟨by rw [List.length_set]; omega, ⟨by rw [List.length_set]; exact h2.1, ?_⟩, h3, gmul (gd 0 r (i + q.length - 1).toNat) (lastI q) :: qs, ?_, ?_⟩
  · rw [hr, padd_len]; simp [pscale]; omega
  · rw [e1, show (i + 1).toNat = i.toNat + 1 by omega, zr_set, show (i - 1 + 1).toNat = i.toNat by omega]
  · rw [← e2, show (i + 1).toNat = i.toNat + 1 by omega, show (i - 1 + 1).toNat = i.toNat by omega, divGo, hr, show (i + q.length - 1).toNat = i.toNat + q.length - 1 by omega]
theorem DvO.fin {p q r t : List UInt8} {i : Int} (h : DvO p q i r t) (hi : i < 0) : (trimP t, trimP r) = divL p q := by
  have h1 := h.lo
  obtain ⟨qs, e1, e2⟩ := h.ex
  rw [show (i + 1).toNat = 0 by omega] at e1 e2
  unfold divL
  rw [← e2, e1]; rfl
def dvdP (p q : List UInt8) : List UInt8 × List UInt8 × Int := if 64 < p.length ∨ 64 < q.length then ([], [], 2) else if (trimP q).length = 0 then ([], [], 5) else ((divL (trimP p) (trimP q)).1, (divL (trimP p) (trimP q)).2, 0)
def i_24_1 (q : (List UInt8)) (k0 : Int) (i0 : Int) (f0 : UInt8) (r0 : (List UInt8)) (k : Int) (i : Int) (f : UInt8) (r : (List UInt8)) : Prop := i = i0 ∧ f = f0 ∧ AdI q r0 i f k r
def i_24_0 (p : (List UInt8)) (q : (List UInt8)) (i : Int) (r : (List UInt8)) (t : (List UInt8)) : Prop := DvO p q i r t
def k_24 : Con Tc Tc.dn := ⟨24, [.ty .lU8, .ty .lU8], fun x => (fun (p : (List UInt8)) (q : (List UInt8)) => 0 < q.length ∧ p.length ≤ 1000 ∧ q.length ≤ 1000) x.1 x.2.1, [.lU8, .lU8], fun x => (fun (p : (List UInt8)) (q : (List UInt8)) => divL p q) x.1 x.2.1⟩
abbrev z24_0 (p : (List UInt8)) (q : (List UInt8)) := ((↑p.length : Int) - (↑q.length : Int) + (1 : Int))
theorem k_24_v (p : (List UInt8)) (q : (List UInt8)) (hp : 0 < q.length ∧ p.length ≤ 1000 ∧ q.length ≤ 1000) : (↑p.length : Int) * (1 : Int) ≤ (140737488355328 : Int) ∧ I64 ((↑q.length : Int) - (1 : Int)) ∧ ((0 : Int) ≤ (↑q.length : Int) - (1 : Int) ∧ (↑q.length : Int) - (1 : Int) < (↑q.length : Int)) ∧ True ∧ I64 ((↑p.length : Int) - (↑q.length : Int)) ∧ I64 (z24_0 p q) ∧ ((0 : Int) ≤ max (0 : Int) (z24_0 p q) ∧ max (0 : Int) (z24_0 p q) ≤ max (0 : Int) (z24_0 p q) ∧ max (0 : Int) (z24_0 p q) * (↑(1 : Nat) : Int) ≤ (140737488355328 : Int)) ∧ I64 ((↑(List.replicate (max (0 : Int) (z24_0 p q)).toNat (UInt8.ofNat (Int.toNat (0 : Int)))).length : Int) - (1 : Int)) ∧ i_24_0 p q ((↑(List.replicate (max (0 : Int) (z24_0 p q)).toNat (UInt8.ofNat (Int.toNat (0 : Int)))).length : Int) - (1 : Int)) p (List.replicate (max (0 : Int) (z24_0 p q)).toNat (UInt8.ofNat (Int.toNat (0 : Int)))) ∧ ∀ (x : Int) (x_1 x_2 : List UInt8), i_24_0 p q x x_1 x_2 → ((0 : Int) ≤ x → I64 (x + (↑q.length : Int)) ∧ I64 (x + (↑q.length : Int) - (1 : Int)) ∧ ((0 : Int) ≤ x + (↑q.length : Int) - (1 : Int) ∧ x + (↑q.length : Int) - (1 : Int) < (↑x_1.length : Int)) ∧ (x + (↑q.length : Int) - (1 : Int)).toNat < x_1.length ∧ True ∧ ((0 : Int) ≤ x ∧ x < (↑x_2.length : Int)) ∧ x.toNat < x_2.length ∧ i_24_1 q (0 : Int) x (gmul (gd (0 : UInt8) x_1 (x + (↑q.length : Int) - (1 : Int)).toNat) (invN (gd (0 : UInt8) q ((↑q.length : Int) - (1 : Int)).toNat))) x_1 (0 : Int) x (gmul (gd (0 : UInt8) x_1 (x + (↑q.length : Int) - (1 : Int)).toNat) (invN (gd (0 : UInt8) q ((↑q.length : Int) - (1 : Int)).toNat))) x_1 ∧ ∀ (x_3 x_4 : Int) (x_5 : UInt8) (x_6 : List UInt8), i_24_1 q (0 : Int) x (gmul (gd (0 : UInt8) x_1 (x + (↑q.length : Int) - (1 : Int)).toNat) (invN (gd (0 : UInt8) q ((↑q.length : Int) - (1 : Int)).toNat))) x_1 x_3 x_4 x_5 x_6 → (x_3 < (↑q.length : Int) → ((0 : Int) ≤ x_3 ∧ x_3 < (↑q.length : Int)) ∧ I64 (x_4 + x_3) ∧ ((0 : Int) ≤ x_4 + x_3 ∧ x_4 + x_3 < (↑x_6.length : Int)) ∧ (x_4 + x_3).toNat < x_6.length ∧ True ∧ ((0 : Int) ≤ x_4 + x_3 ∧ x_4 + x_3 < (↑x_6.length : Int)) ∧ (x_4 + x_3).toNat < x_6.length ∧ I64 (x_3 + (1 : Int)) ∧ i_24_1 q (0 : Int) x (gmul (gd (0 : UInt8) x_1 (x + (↑q.length : Int) - (1 : Int)).toNat) (invN (gd (0 : UInt8) q ((↑q.length : Int) - (1 : Int)).toNat))) x_1 (x_3 + (1 : Int)) x_4 x_5 (x_6.set (x_4 + x_3).toNat (gd (0 : UInt8) x_6 (x_4 + x_3).toNat ^^^ gmul x_5 (gd (0 : UInt8) q x_3.toNat))) ∧ ((↑q.length : Int) - (x_3 + (1 : Int))).toNat < ((↑q.length : Int) - x_3).toNat) ∧ ((↑q.length : Int) ≤ x_3 → I64 (x_4 - (1 : Int)) ∧ i_24_0 p q (x_4 - (1 : Int)) x_6 (x_2.set x.toNat (gmul (gd (0 : UInt8) x_1 (x + (↑q.length : Int) - (1 : Int)).toNat) (invN (gd (0 : UInt8) q ((↑q.length : Int) - (1 : Int)).toNat)))) ∧ (x_4 - (1 : Int) + (1 : Int)).toNat < (x + (1 : Int)).toNat)) ∧ (x < (0 : Int) → x_2.length ≤ (140737488355328 : Nat) ∧ x_1.length ≤ (140737488355328 : Nat) ∧ (trimP x_2, trimP x_1) = divL p q) := by
  delta z24_0
  have h1 := @AdI.start q
  have h2 := @AdI.step q
  have h3 := @AdI.sz q
  have h4 := @AdI.fin q
  have h5 := @DvO.room p q
  have h6 := @DvO.step p q
  have h7 := @DvO.fin p q
  have h8 := @DvO.few p q
  have h9 := @DvO.len p q
  (repeat' (first | apply And.intro | intro _)) <;> first | assumption | trivial | omega | (refine DvO.start hp ?_ ?_ <;> first | omega | (rw [List.length_replicate])) | (rw [List.length_replicate]; unfold I64; omega) | (grind [i_24_1, i_24_0, I64, lastI]) | trace_state
theorem k_24_ok : k_24.Ok Try.prog tD := con_ok tD_ok (Δ := [k_27, k_31, k_13]) ⟨k_27_ok, k_31_ok, k_13_ok, trivial⟩ (Ω := [o_23]) ⟨o_23_ok, trivial⟩ k_24 F24_ok F24_call (fun _ => []) (fun _ => trivial) 0 (fun x => (fun (p : (List UInt8)) (q : (List UInt8)) => (fun k => bif Nat.beq k 0 then some (.inv [.sl 8 .cInt, .ow 5 .cU8, .ow 4 .cU8] (fun zo zv => (fun (i : Int) (r : (List UInt8)) (t : (List UInt8)) => i_24_0 p q i r t) zv.1 zv.2.1 zv.2.2.1) (fun zo zv => (fun (i : Int) (r : (List UInt8)) (t : (List UInt8)) => (i + 1).toNat) zv.1 zv.2.1 zv.2.2.1)) else bif Nat.beq k 1 then some (.inv [.sl 55 .cInt, .sl 8 .cInt, .sl 9 .cU8, .ow 5 .cU8] (fun zo zv => (fun (k0 : Int) (i0 : Int) (f0 : UInt8) (r0 : (List UInt8)) (k : Int) (i : Int) (f : UInt8) (r : (List UInt8)) => i_24_1 q k0 i0 f0 r0 k i f r) zo.1 zo.2.1 zo.2.2.1 zo.2.2.2.1 zv.1 zv.2.1 zv.2.2.1 zv.2.2.2.1) (fun zo zv => (fun (k0 : Int) (i0 : Int) (f0 : UInt8) (r0 : (List UInt8)) (k : Int) (i : Int) (f : UInt8) (r : (List UInt8)) => ((q.length : Int) - k).toNat) zo.1 zo.2.1 zo.2.2.1 zo.2.2.2.1 zv.1 zv.2.1 zv.2.2.1 zv.2.2.2.1)) else none)) x.1 x.2.1) fun x hp => Eq.mp (by kernel_rfl) (k_24_v x.1 x.2.1 hp)
open Go.RowKit
theorem trimP_le (p : List UInt8) : (trimP p).length ≤ p.length := (trimP_ok p).2.1
def ixB (v : UInt8) : List UInt8 → Int → Int
  | [], _ => -1
  | a :: r, k => if v = a then k else ixB v r (k + 1)
theorem ixB_neg {v : UInt8} : ∀ {l : List UInt8} {k : Int}, 0 ≤ k → (0 ≤ ixB v l k ↔ v ∈ l)
  | [], k, h => by simp [ixB]
  | a :: r, k, h => by
    unfold ixB
    by_cases hp : v = a
    · rw [if_pos hp]; simp [hp]; exact h
    · rw [if_neg hp, ixB_neg (by omega)]; simp [hp]
structure IxB (v : UInt8) (xs : List UInt8) (k : Int) : Prop where
  lo : 0 ≤ k
  hi : k ≤ xs.length
  few : xs.length ≤ 140737488355328
  eq : ixB v (xs.drop k.toNat) k = ixB v xs 0
theorem IxB.start {v : UInt8} {xs : List UInt8} (h : xs.length ≤ 140737488355328) : IxB v xs 0 := ⟨by omega, by omega, h, rfl⟩
theorem dropB (xs : List UInt8) {k : Int} (h0 : 0 ≤ k) (hk : k < xs.length) : xs.drop k.toNat = gd 0 xs k.toNat :: xs.drop (k + 1).toNat := by
  rw [show (k + 1).toNat = k.toNat + 1 by omega, List.drop_eq_getElem_cons (by omega)]
  have : gd 0 xs k.toNat = xs[k.toNat] := by unfold gd; rw [List.getElem?_eq_getElem (by omega)]; rfl
  rw [this]
theorem IxB.no {v : UInt8} {xs : List UInt8} {k : Int} (h : IxB v xs k) (hk : k < xs.length) (hp : ¬ v = gd 0 xs k.toNat) : IxB v xs (k + 1) := by
  have h0 := h.lo
  refine ⟨by omega, by omega, h.few, ?_⟩
  rw [← h.eq, dropB xs h0 hk, ixB, if_neg hp]
theorem IxB.yes {v : UInt8} {xs : List UInt8} {k : Int} (h : IxB v xs k) (hk : k < xs.length) (hp : v = gd 0 xs k.toNat) : k = ixB v xs 0 := by
  have h0 := h.lo
  rw [← h.eq, dropB xs h0 hk, ixB, if_pos hp]
theorem IxB.fin {v : UInt8} {xs : List UInt8} {k : Int} (h : IxB v xs k) (hk : xs.length ≤ k) : -1 = ixB v xs 0 := by
  rw [← h.eq, List.drop_eq_nil_of_le (by omega)]; rfl
def i_32_0 (xs : (List UInt8)) (v : UInt8) (k : Int) : Prop := IxB v xs k
def k_32 : Con Tc Tc.dn := ⟨32, [.ty .lU8, .ty .cU8], fun x => (fun (xs : (List UInt8)) (v : UInt8) => xs.length ≤ 140737488355328) x.1 x.2.1, [.cInt], fun x => (fun (xs : (List UInt8)) (v : UInt8) => ixB v xs 0) x.1 x.2.1⟩
theorem k_32_v (xs : (List UInt8)) (v : UInt8) (hp : xs.length ≤ 140737488355328) : i_32_0 xs v (0 : Int) ∧ ∀ (x : Int), i_32_0 xs v x → (x < (↑xs.length : Int) → ((0 : Int) ≤ x ∧ x < (↑xs.length : Int)) ∧ (v = gd (0 : UInt8) xs x.toNat → x = ixB v xs (0 : Int)) ∧ (¬v = gd (0 : UInt8) xs x.toNat → I64 (x + (1 : Int)) ∧ i_32_0 xs v (x + (1 : Int)) ∧ ((↑xs.length : Int) - (x + (1 : Int))).toNat < ((↑xs.length : Int) - x).toNat)) ∧ ((↑xs.length : Int) ≤ x → (-1 : Int) = ixB v xs (0 : Int)) := by
  have h1 := @IxB.start v xs
  have h2 := @IxB.no v xs
  have h3 := @IxB.yes v xs
  have h4 := @IxB.fin v xs
  have h5 := @IxB.lo v xs
  have h6 := @IxB.few v xs
  (repeat' (first | apply And.intro | intro _)) <;> first | assumption | trivial | omega | (grind [i_32_0, I64]) | trace_state
theorem k_32_ok : k_32.Ok Try.prog tD := con_ok tD_ok (Δ := []) trivial (Ω := []) trivial k_32 F32_ok F32_call (fun _ => []) (fun _ => trivial) 0 (fun x => (fun (xs : (List UInt8)) (v : UInt8) => (fun k => bif Nat.beq k 0 then some (.inv [.sl 8 .cInt] (fun zo zv => (fun (k : Int) => i_32_0 xs v k) zv.1) (fun zo zv => (fun (k : Int) => ((xs.length : Int) - k).toNat) zv.1)) else none)) x.1 x.2.1) fun x hp => Eq.mp (by kernel_rfl) (k_32_v x.1 x.2.1 hp)
def k_25 : Con Tc Tc.dn := ⟨25, [.ty .lU8, .ty .cU8], fun x => (fun (xs : (List UInt8)) (v : UInt8) => xs.length ≤ 140737488355328) x.1 x.2.1, [.cBool], fun x => (fun (xs : (List UInt8)) (v : UInt8) => decide (v ∈ xs)) x.1 x.2.1⟩
theorem k_25_v (xs : (List UInt8)) (v : UInt8) (hp : xs.length ≤ 140737488355328) : xs.length ≤ (140737488355328 : Nat) ∧ decide ((0 : Int) ≤ ixB v xs (0 : Int)) = decide (v ∈ xs) := by
  have h1 := @ixB_neg v xs 0 (Int.le_refl _)
  (repeat' (first | apply And.intro | intro _)) <;> first | assumption | trivial | omega | (grind []) | trace_state
theorem k_25_ok : k_25.Ok Try.prog tD := con_ok tD_ok (Δ := [k_32]) ⟨k_32_ok, trivial⟩ (Ω := []) trivial k_25 F25_ok F25_call (fun _ => []) (fun _ => trivial) 0 (fun x => (fun (xs : (List UInt8)) (v : UInt8) => (fun _ => none)) x.1 x.2.1) fun x hp => Eq.mp (by kernel_rfl) (k_25_v x.1 x.2.1 hp)
def k_26 : Con Tc Tc.dn := ⟨26, [.ty .cU8, .ty .cU8], fun x => (fun (a : UInt8) (b : UInt8) => True) x.1 x.2.1, [.cU8, .cInt], fun x => (fun (a : UInt8) (b : UInt8) => (divN a b, errZ b)) x.1 x.2.1⟩
theorem k_26_v (a : UInt8) (b : UInt8) : True ∧ (¬errZ b = (0 : Int) → (UInt8.ofNat (Int.toNat (0 : Int)), errZ b) = (divN a b, errZ b)) ∧ (errZ b = (0 : Int) → True ∧ (gmul a (invN b), (0 : Int)) = (divN a b, errZ b)) := by
  by_cases h : b = 0
  · subst h; exact ⟨trivial, fun _ => rfl, fun h => absurd h (by decide)⟩
  · exact ⟨trivial, fun h2 => absurd (by unfold errZ; rw [if_neg h]) h2, fun _ => ⟨trivial, by unfold divN invN errZ; rw [if_neg h, if_neg h, if_neg h]⟩⟩
theorem k_26_ok : k_26.Ok Try.prog tD := con_ok tD_ok (Δ := [k_31, k_27]) ⟨k_31_ok, k_27_ok, trivial⟩ (Ω := []) trivial k_26 F26_ok F26_call (fun _ => []) (fun _ => trivial) 0 (fun x => (fun (a : UInt8) (b : UInt8) => (fun _ => none)) x.1 x.2.1) fun x hp => Eq.mp (by kernel_rfl) (k_26_v x.1 x.2.1)
def k_14 : Con Tc Tc.dn := ⟨14, [.ty .lU8, .ty .lU8], fun x => (fun (p : (List UInt8)) (q : (List UInt8)) => p.length ≤ 140737488355328 ∧ q.length ≤ 140737488355328) x.1 x.2.1, [.lU8, .lU8, .cInt], fun x => (fun (p : (List UInt8)) (q : (List UInt8)) => dvdP p q) x.1 x.2.1⟩
theorem k_14_v (p : (List UInt8)) (q : (List UInt8)) (hp : p.length ≤ 140737488355328 ∧ q.length ≤ 140737488355328) : True ∧ (decide ((64 : Int) < (↑p.length : Int)) = true → ([], [], (2 : Int)) = dvdP p q) ∧ (decide ((64 : Int) < (↑p.length : Int)) = false → True ∧ (decide ((64 : Int) < (↑q.length : Int)) = true → ([], [], (2 : Int)) = dvdP p q) ∧ (decide ((64 : Int) < (↑q.length : Int)) = false → q.length ≤ (140737488355328 : Nat) ∧ ((↑(trimP q).length : Int) = (0 : Int) → ([], [], (5 : Int)) = dvdP p q) ∧ (¬(↑(trimP q).length : Int) = (0 : Int) → p.length ≤ (140737488355328 : Nat) ∧ ((0 : Nat) < (trimP q).length ∧ (trimP p).length ≤ (1000 : Nat) ∧ (trimP q).length ≤ (1000 : Nat)) ∧ ((divL (trimP p) (trimP q)).fst, (divL (trimP p) (trimP q)).snd, (0 : Int)) = dvdP p q))) := by
  have e1 := trimP_le p
  have e2 := trimP_le q
  unfold dvdP
  simp only [decide_eq_true_eq, decide_eq_false_iff_not]
  refine ⟨trivial, fun h => by rw [if_pos (by omega)], fun h => ⟨trivial, fun h2 => by rw [if_pos (by omega)], fun h2 => ⟨by omega, fun h3 => by rw [if_neg (by omega), if_pos (by omega)], fun h3 => ⟨by omega, by omega, by rw [if_neg (by omega), if_neg (by omega)]⟩⟩⟩⟩
def l_14 : PD Tc.dn k_14.ps → List (IL Tc Tc.dn) := fun x => (fun (p : (List UInt8)) (q : (List UInt8)) => ([⟨20, .fn F20 (fun _ => none), none⟩, ⟨29, .fn F29 (fun _ => none), none⟩, ⟨34, .fn F34 (fun k => bif Nat.beq k 0 then some (.unr 3) else none), none⟩])) x.1 x.2.1
theorem l_14_ok : ∀ x, ILs Try.prog tD (l_14 x) := fun _ => ⟨⟨F20_ok, F20_call⟩, ⟨F29_ok, F29_call⟩, ⟨F34_ok, F34_call⟩, trivial⟩
theorem k_14_ok : k_14.Ok Try.prog tD := con_ok tD_ok (Δ := [k_24, k_13, k_30]) ⟨k_24_ok, k_13_ok, k_30_ok, trivial⟩ (Ω := []) trivial k_14 F14_ok F14_call (l_14) (l_14_ok) 3 (fun x => (fun (p : (List UInt8)) (q : (List UInt8)) => (fun _ => none)) x.1 x.2.1) fun x hp => Eq.mp (by kernel_rfl) (k_14_v x.1 x.2.1 hp)
open Go.RowKit
theorem divGo_len (q : List UInt8) (l : UInt8) : ∀ (n : Nat) (r qs : List UInt8), (divGo q l n r qs).1.length = n + qs.length
  | 0, r, qs => by simp [divGo]
  | n + 1, r, qs => by rw [divGo, divGo_len q l n]; simp; omega
theorem divL_len (p q : List UInt8) : (divL p q).1.length ≤ p.length + 1 - q.length := by
  have h := trimP_le (divGo q (lastI q) (p.length + 1 - q.length) p []).1
  rw [divGo_len] at h
  simpa [divL] using h
def prdF (xs : List UInt8) : List UInt8 := xs.foldl (fun a x => prodP a [x, 1]) [1]
theorem prdF_snoc (xs : List UInt8) (x : UInt8) : prdF (xs ++ [x]) = prodP (prdF xs) [x, 1] := by unfold prdF; rw [List.foldl_append]; rfl
theorem prodP_two {a : List UInt8} (x : UInt8) (h : 0 < a.length) : (prodP a [x, 1]).length = a.length + 1 := by
  unfold prodP
  rw [if_neg (by simp; intro e; subst e; simp at h)]
  have := pmul_len a [x, 1] (fun e => by subst e; simp at h) (by simp)
  simp at this; omega
structure MtA (xs : List UInt8) (i : Int) (a : List UInt8) : Prop where
  lo : 0 ≤ i ∧ i ≤ xs.length ∧ xs.length ≤ 64
  nd : (xs.take i.toNat).Nodup
  eq : a = prdF (xs.take i.toNat)
  len : (a.length : Int) = i + 1
theorem MtA.start {xs : List UInt8} (h : ¬ (64 : Int) < xs.length) : MtA xs 0 [1] := ⟨by omega, by simp, by simp [prdF], by simp⟩
theorem take_snoc (xs : List UInt8) {i : Int} (h0 : 0 ≤ i) (hk : i < xs.length) : xs.take (i + 1).toNat = xs.take i.toNat ++ [gd 0 xs i.toNat] := by
  rw [show (i + 1).toNat = i.toNat + 1 by omega, List.take_succ_eq_append_getElem (by omega)]
  have : gd 0 xs i.toNat = xs[i.toNat] := by unfold gd; rw [List.getElem?_eq_getElem (by omega)]; rfl
  rw [this]
theorem nodup_take_succ (xs : List UInt8) {i : Int} (h0 : 0 ≤ i) (hk : i < xs.length) : (xs.take (i + 1).toNat).Nodup ↔ (xs.take i.toNat).Nodup ∧ ¬ gd 0 xs i.toNat ∈ xs.take i.toNat := by
  rw [take_snoc xs h0 hk, List.nodup_append]
  simp only [List.nodup_cons, List.not_mem_nil, not_false_eq_true, List.nodup_nil, and_self, List.mem_singleton, true_and]
  exact ⟨fun ⟨h1, h2⟩ => ⟨h1, fun h => h2 _ h _ rfl rfl⟩, fun ⟨h1, h2⟩ => ⟨h1, fun a ha b hb e => h2 (by rw [← hb, ← e]; exact ha)⟩⟩
theorem MtA.twice {xs a : List UInt8} {i : Int} (h : MtA xs i a) (hk : i < xs.length) (hm : gd 0 xs i.toNat ∈ xs.take i.toNat) : ¬ xs.Nodup := fun hn => by
  have h0 := h.lo
  have : (xs.take (i + 1).toNat).Nodup := hn.sublist (List.take_sublist _ _)
  exact ((nodup_take_succ xs h0.1 hk).1 this).2 hm
theorem MtA.step {xs a : List UInt8} {i : Int} (h : MtA xs i a) (hk : i < xs.length) (hm : ¬ gd 0 xs i.toNat ∈ xs.take i.toNat) : MtA xs (i + 1) (prodP a [gd 0 xs i.toNat, 1]) := by
  have h0 := h.lo
  have hl := h.len
  refine ⟨by omega, (nodup_take_succ xs h0.1 hk).2 ⟨h.nd, hm⟩, ?_, ?_⟩
  · rw [take_snoc xs h0.1 hk, prdF_snoc, ← h.eq]
  · rw [prodP_two _ (by omega)]; omega
theorem MtA.sz {xs a : List UInt8} {i : Int} (h : MtA xs i a) : (0 ≤ i ∧ i ≤ 64) ∧ a.length ≤ 65 ∧ xs.length ≤ 64 := by
  have h0 := h.lo
  have hl := h.len
  omega
def mtGo (a : List UInt8) : List UInt8 → List UInt8 → List UInt8 → List UInt8
  | x :: xs, y :: ys, out => mtGo a xs ys (padd out (zr 0 ++ pscale (divN y (pv (divL a [x, 1]).1 x)) (divL a [x, 1]).1))
  | _, _, out => out
structure MtO (xs ys a : List UInt8) (i : Int) (out : List UInt8) : Prop where
  lo : 0 ≤ i ∧ i ≤ xs.length ∧ xs.length ≤ 64 ∧ xs.length = ys.length
  nd : xs.Nodup
  eq : a = prdF xs
  al : a.length = xs.length + 1
  len : out.length = xs.length
  go : mtGo a (xs.drop i.toNat) (ys.drop i.toNat) out = mtGo a xs ys (zr xs.length)
theorem MtA.out {xs ys a : List UInt8} {i : Int} (h : MtA xs i a) (hi : xs.length ≤ i) (he : ¬ ¬ (xs.length : Int) = ys.length) {n : Nat} (hn : n = xs.length) : MtO xs ys a 0 (List.replicate n 0) := by
  have h0 := h.lo
  have hl := h.len
  have e : xs.take i.toNat = xs := List.take_of_length_le (by omega)
  subst hn
  exact ⟨by omega, e ▸ h.nd, by rw [h.eq, e], by omega, by simp, rfl⟩
theorem MtO.sz {xs ys a out : List UInt8} {i : Int} (h : MtO xs ys a i out) : (0 ≤ i ∧ i ≤ 64) ∧ a.length ≤ 65 ∧ out.length ≤ 64 ∧ xs.length = ys.length ∧ 2 ≤ a.length + 1 := by
  have h0 := h.lo
  have hl := h.len
  have ha := h.al
  omega
theorem MtO.own {xs ys a out : List UInt8} {i : Int} (h : MtO xs ys a i out) (x : UInt8) : (divL a [x, 1]).1.length ≤ out.length := by
  have := divL_len a [x, 1]
  have hl := h.len
  have ha := h.al
  simp at this; omega
theorem MtO.inn {xs ys a out : List UInt8} {i : Int} (h : MtO xs ys a i out) (x f : UInt8) : AdI (divL a [x, 1]).1 out 0 f 0 out := AdI.start f (Int.le_refl _) ⟨by have := h.own x; omega, by have := h.sz; omega⟩
theorem MtO.step {xs ys a out r : List UInt8} {i k : Int} (h : MtO xs ys a i out) (hi : i < xs.length) (hr : AdI (divL a [gd 0 xs i.toNat, 1]).1 out 0 (divN (gd 0 ys i.toNat) (pv (divL a [gd 0 xs i.toNat, 1]).1 (gd 0 xs i.toNat))) k r) (hk : ((divL a [gd 0 xs i.toNat, 1]).1.length : Int) ≤ k) : MtO xs ys a (i + 1) r := by
  have h0 := h.lo
  refine ⟨by omega, h.nd, h.eq, h.al, by rw [hr.len]; exact h.len, ?_⟩
  rw [← h.go, dropB xs h0.1 hi, dropB ys h0.1 (by omega), mtGo, hr.fin hk]; rfl
theorem AdI.step0 {q r0 r : List UInt8} {k : Int} {f : UInt8} (h : AdI q r0 0 f k r) (hk : k < q.length) : AdI q r0 0 f (k + 1) (r.set k.toNat (gd 0 r k.toNat ^^^ gmul f (gd 0 q k.toNat))) := by
  have := h.step hk; rw [show (0 + k).toNat = k.toNat by omega] at this; exact this
theorem AdI.sz0 {q r0 r : List UInt8} {k : Int} {f : UInt8} (h : AdI q r0 0 f k r) : (0 ≤ k ∧ k ≤ 1000) ∧ (k < q.length → k < r.length ∧ k.toNat < r.length) := by
  have := h.sz; omega
def meetL (xs ys : List UInt8) : List UInt8 × Int := if 64 < xs.length then ([], 2) else if xs.length ≠ ys.length then ([], 1) else if ¬ xs.Nodup then ([], 6) else (trimP (mtGo (prdF xs) xs ys (zr xs.length)), 0)
theorem MtO.fin {xs ys a out : List UInt8} {i : Int} (h : MtO xs ys a i out) (hi : xs.length ≤ i) : (trimP out, (0 : Int)) = meetL xs ys := by
  have h0 := h.lo
  unfold meetL
  rw [if_neg (by omega), if_neg (by omega), if_neg (fun hh => hh h.nd), ← h.eq, ← h.go, List.drop_eq_nil_of_le (by omega)]
  simp [mtGo]
def i_15_2 (k0 : Int) (a0 : (List UInt8)) (x0 : UInt8) (f0 : UInt8) (r0 : (List UInt8)) (k : Int) (a : (List UInt8)) (x : UInt8) (f : UInt8) (r : (List UInt8)) : Prop := a = a0 ∧ x = x0 ∧ f = f0 ∧ AdI (divL a0 [x0, 1]).1 r0 0 f0 k r
def i_15_1 (xs : (List UInt8)) (ys : (List UInt8)) (i0 : Int) (a0 : (List UInt8)) (o0 : (List UInt8)) (i : Int) (a : (List UInt8)) (o : (List UInt8)) : Prop := a = a0 ∧ MtO xs ys a i o
def i_15_0 (xs : (List UInt8)) (i : Int) (a : (List UInt8)) : Prop := MtA xs i a
def k_15 : Con Tc Tc.dn := ⟨15, [.ty .lU8, .ty .lU8], fun x => (fun (xs : (List UInt8)) (ys : (List UInt8)) => xs.length ≤ 140737488355328 ∧ ys.length ≤ 140737488355328) x.1 x.2.1, [.lU8, .cInt], fun x => (fun (xs : (List UInt8)) (ys : (List UInt8)) => meetL xs ys) x.1 x.2.1⟩
theorem k_15_v (xs : (List UInt8)) (ys : (List UInt8)) (hp : xs.length ≤ 140737488355328 ∧ ys.length ≤ 140737488355328) : True ∧ (decide ((64 : Int) < (↑xs.length : Int)) = true → ([], (2 : Int)) = meetL xs ys) ∧ (decide ((64 : Int) < (↑xs.length : Int)) = false → (¬(↑xs.length : Int) = (↑ys.length : Int) → ([], (1 : Int)) = meetL xs ys) ∧ ((↑xs.length : Int) = (↑ys.length : Int) → i_15_0 xs (0 : Int) [UInt8.ofNat (Int.toNat (1 : Int))] ∧ ∀ (x : Int) (x_1 : List UInt8), i_15_0 xs x x_1 → (x < (↑xs.length : Int) → ((0 : Int) ≤ x ∧ x < (↑xs.length : Int)) ∧ ((0 : Int) ≤ x ∧ x ≤ (↑xs.length : Int)) ∧ (List.take x.toNat xs).length ≤ (140737488355328 : Nat) ∧ (decide (gd (0 : UInt8) xs x.toNat ∈ List.take x.toNat xs) = true → ([], (6 : Int)) = meetL xs ys) ∧ (decide (gd (0 : UInt8) xs x.toNat ∈ List.take x.toNat xs) = false → (x_1.length ≤ (1000 : Nat) ∧ (2 : Nat) ≤ (1000 : Nat)) ∧ I64 (x + (1 : Int)) ∧ i_15_0 xs (x + (1 : Int)) (prodP x_1 [gd (0 : UInt8) xs x.toNat, UInt8.ofNat (Int.toNat (1 : Int))]) ∧ ((↑xs.length : Int) - (x + (1 : Int))).toNat < ((↑xs.length : Int) - x).toNat)) ∧ ((↑xs.length : Int) ≤ x → ((0 : Int) ≤ (↑xs.length : Int) ∧ (↑xs.length : Int) ≤ (↑xs.length : Int) ∧ (↑xs.length : Int) * (↑(1 : Nat) : Int) ≤ (140737488355328 : Int)) ∧ i_15_1 xs ys (0 : Int) x_1 (List.replicate (↑xs.length : Int).toNat (UInt8.ofNat (Int.toNat (0 : Int)))) (0 : Int) x_1 (List.replicate (↑xs.length : Int).toNat (UInt8.ofNat (Int.toNat (0 : Int)))) ∧ ∀ (x : Int) (x_2 x_3 : List UInt8), i_15_1 xs ys (0 : Int) x_1 (List.replicate (↑xs.length : Int).toNat (UInt8.ofNat (Int.toNat (0 : Int)))) x x_2 x_3 → (x < (↑xs.length : Int) → ((0 : Int) ≤ x ∧ x < (↑xs.length : Int)) ∧ ((0 : Nat) < (2 : Nat) ∧ x_2.length ≤ (1000 : Nat) ∧ (2 : Nat) ≤ (1000 : Nat)) ∧ ((0 : Int) ≤ x ∧ x < (↑ys.length : Int)) ∧ (divL x_2 [gd (0 : UInt8) xs x.toNat, UInt8.ofNat (Int.toNat (1 : Int))]).fst.length ≤ (140737488355328 : Nat) ∧ True ∧ i_15_2 (0 : Int) x_2 (gd (0 : UInt8) xs x.toNat) (divN (gd (0 : UInt8) ys x.toNat) (pv (divL x_2 [gd (0 : UInt8) xs x.toNat, UInt8.ofNat (Int.toNat (1 : Int))]).fst (gd (0 : UInt8) xs x.toNat))) x_3 (0 : Int) x_2 (gd (0 : UInt8) xs x.toNat) (divN (gd (0 : UInt8) ys x.toNat) (pv (divL x_2 [gd (0 : UInt8) xs x.toNat, UInt8.ofNat (Int.toNat (1 : Int))]).fst (gd (0 : UInt8) xs x.toNat))) x_3 ∧ ∀ (x_4 : Int) (x_5 : List UInt8) (x_6 x_7 : UInt8) (x_8 : List UInt8), i_15_2 (0 : Int) x_2 (gd (0 : UInt8) xs x.toNat) (divN (gd (0 : UInt8) ys x.toNat) (pv (divL x_2 [gd (0 : UInt8) xs x.toNat, UInt8.ofNat (Int.toNat (1 : Int))]).fst (gd (0 : UInt8) xs x.toNat))) x_3 x_4 x_5 x_6 x_7 x_8 → (x_4 < (↑(divL x_2 [gd (0 : UInt8) xs x.toNat, UInt8.ofNat (Int.toNat (1 : Int))]).fst.length : Int) → ((0 : Int) ≤ x_4 ∧ x_4 < (↑(divL x_2 [gd (0 : UInt8) xs x.toNat, UInt8.ofNat (Int.toNat (1 : Int))]).fst.length : Int)) ∧ ((0 : Int) ≤ x_4 ∧ x_4 < (↑x_8.length : Int)) ∧ x_4.toNat < x_8.length ∧ True ∧ ((0 : Int) ≤ x_4 ∧ x_4 < (↑x_8.length : Int)) ∧ x_4.toNat < x_8.length ∧ I64 (x_4 + (1 : Int)) ∧ i_15_2 (0 : Int) x_2 (gd (0 : UInt8) xs x.toNat) (divN (gd (0 : UInt8) ys x.toNat) (pv (divL x_2 [gd (0 : UInt8) xs x.toNat, UInt8.ofNat (Int.toNat (1 : Int))]).fst (gd (0 : UInt8) xs x.toNat))) x_3 (x_4 + (1 : Int)) x_5 x_6 x_7 (x_8.set x_4.toNat (gd (0 : UInt8) x_8 x_4.toNat ^^^ gmul x_7 (gd (0 : UInt8) (divL x_2 [gd (0 : UInt8) xs x.toNat, UInt8.ofNat (Int.toNat (1 : Int))]).fst x_4.toNat))) ∧ ((↑(divL x_2 [gd (0 : UInt8) xs x.toNat, (1 : UInt8)]).fst.length : Int) - (x_4 + (1 : Int))).toNat < ((↑(divL x_2 [gd (0 : UInt8) xs x.toNat, (1 : UInt8)]).fst.length : Int) - x_4).toNat) ∧ ((↑(divL x_2 [gd (0 : UInt8) xs x.toNat, UInt8.ofNat (Int.toNat (1 : Int))]).fst.length : Int) ≤ x_4 → I64 (x + (1 : Int)) ∧ i_15_1 xs ys (0 : Int) x_1 (List.replicate (↑xs.length : Int).toNat (UInt8.ofNat (Int.toNat (0 : Int)))) (x + (1 : Int)) x_5 x_8 ∧ ((↑xs.length : Int) - (x + (1 : Int))).toNat < ((↑xs.length : Int) - x).toNat)) ∧ ((↑xs.length : Int) ≤ x → x_3.length ≤ (140737488355328 : Nat) ∧ (trimP x_3, (0 : Int)) = meetL xs ys)))) := by
  have u1 : UInt8.ofNat (Int.toNat 1) = 1 := rfl
  have u0 : UInt8.ofNat (Int.toNat 0) = 0 := rfl
  simp only [u1, u0, decide_eq_true_eq, decide_eq_false_iff_not]
  have h1 := @MtA.twice xs
  have h2 := @MtA.step xs
  have h3 := @MtA.sz xs
  have h4 := @MtA.out xs ys
  have h5 := @MtO.sz xs ys
  have h6 := @MtO.inn xs ys
  have h7 := @MtO.step xs ys
  have h8 := @MtO.fin xs ys
  have h9 := @MtO.own xs ys
  have g1 := @AdI.step0
  have g2 := @AdI.sz0
  have n1 : (64 : Int) < xs.length → ([], (2 : Int)) = meetL xs ys := fun h => by unfold meetL; rw [if_pos (by omega)]
  have n2 : ¬ (64 : Int) < xs.length → ¬ (xs.length : Int) = ys.length → ([], (1 : Int)) = meetL xs ys := fun h h2 => by unfold meetL; rw [if_neg (by omega), if_pos (by omega)]
  have n3 : ¬ (64 : Int) < xs.length → (xs.length : Int) = ys.length → ¬ xs.Nodup → ([], (6 : Int)) = meetL xs ys := fun h h2 h3 => by unfold meetL; rw [if_neg (by omega), if_neg (by omega), if_pos h3]
  (repeat' (first | apply And.intro | intro _)) <;> first | assumption | trivial | omega | (exact MtA.start ‹_›) | (rw [List.length_take]; omega) | (grind [i_15_2, i_15_1, i_15_0, I64]) | trace_state
def l_15 : PD Tc.dn k_15.ps → List (IL Tc Tc.dn) := fun x => (fun (xs : (List UInt8)) (ys : (List UInt8)) => ([⟨20, .fn F20 (fun _ => none), none⟩, ⟨29, .fn F29 (fun _ => none), none⟩, ⟨34, .fn F34 (fun k => bif Nat.beq k 0 then some (.unr 2) else none), none⟩])) x.1 x.2.1
theorem l_15_ok : ∀ x, ILs Try.prog tD (l_15 x) := fun _ => ⟨⟨F20_ok, F20_call⟩, ⟨F29_ok, F29_call⟩, ⟨F34_ok, F34_call⟩, trivial⟩
theorem k_15_ok : k_15.Ok Try.prog tD := con_ok tD_ok (Δ := [k_24, k_21, k_13, k_16, k_26, k_27, k_25, k_30]) ⟨k_24_ok, k_21_ok, k_13_ok, k_16_ok, k_26_ok, k_27_ok, k_25_ok, k_30_ok, trivial⟩ (Ω := []) trivial k_15 F15_ok F15_call (l_15) (l_15_ok) 3 (fun x => (fun (xs : (List UInt8)) (ys : (List UInt8)) => (fun k => bif Nat.beq k 0 then some (.inv [.sl 31 .cInt, .sl 6 .lU8] (fun zo zv => (fun (i : Int) (a : (List UInt8)) => i_15_0 xs i a) zv.1 zv.2.1) (fun zo zv => (fun (i : Int) (a : (List UInt8)) => ((xs.length : Int) - i).toNat) zv.1 zv.2.1)) else bif Nat.beq k 1 then some (.inv [.sl 51 .cInt, .sl 6 .lU8, .ow 9 .cU8] (fun zo zv => (fun (i0 : Int) (a0 : (List UInt8)) (o0 : (List UInt8)) (i : Int) (a : (List UInt8)) (o : (List UInt8)) => i_15_1 xs ys i0 a0 o0 i a o) zo.1 zo.2.1 zo.2.2.1 zv.1 zv.2.1 zv.2.2.1) (fun zo zv => (fun (i0 : Int) (a0 : (List UInt8)) (o0 : (List UInt8)) (i : Int) (a : (List UInt8)) (o : (List UInt8)) => ((xs.length : Int) - i).toNat) zo.1 zo.2.1 zo.2.2.1 zv.1 zv.2.1 zv.2.2.1)) else bif Nat.beq k 2 then some (.inv [.sl 76 .cInt, .sl 6 .lU8, .sl 11 .cU8, .sl 14 .cU8, .ow 9 .cU8] (fun zo zv => (fun (k0 : Int) (a0 : (List UInt8)) (x0 : UInt8) (f0 : UInt8) (r0 : (List UInt8)) (k : Int) (a : (List UInt8)) (x : UInt8) (f : UInt8) (r : (List UInt8)) => i_15_2 k0 a0 x0 f0 r0 k a x f r) zo.1 zo.2.1 zo.2.2.1 zo.2.2.2.1 zo.2.2.2.2.1 zv.1 zv.2.1 zv.2.2.1 zv.2.2.2.1 zv.2.2.2.2.1) (fun zo zv => (fun (k0 : Int) (a0 : (List UInt8)) (x0 : UInt8) (f0 : UInt8) (r0 : (List UInt8)) (k : Int) (a : (List UInt8)) (x : UInt8) (f : UInt8) (r : (List UInt8)) => (((divL a0 [x0, 1]).1.length : Int) - k).toNat) zo.1 zo.2.1 zo.2.2.1 zo.2.2.2.1 zo.2.2.2.2.1 zv.1 zv.2.1 zv.2.2.1 zv.2.2.2.1 zv.2.2.2.2.1)) else bif Nat.beq k 1029 then some (.frz [6]) else none)) x.1 x.2.1) fun x hp => Eq.mp (by kernel_rfl) (k_15_v x.1 x.2.1 hp)
open Go.RowKit
structure EqB (a b : List UInt8) (i : Int) : Prop where
  lo : 0 ≤ i
  hi : i ≤ a.length
  len : (a.length : Int) = b.length
  eq : ∀ j, j < i.toNat → gd 0 a j = gd 0 b j
theorem EqB.start {a b : List UInt8} (h : (a.length : Int) = b.length) : EqB a b 0 := ⟨by omega, by omega, h, fun j hj => by omega⟩
theorem EqB.step {a b : List UInt8} {i : Int} (h : EqB a b i) (hi : i < a.length) (he : gd 0 a i.toNat = gd 0 b i.toNat) : EqB a b (i + 1) := ⟨by have := h.lo; omega, by omega, h.len, fun j hj => by
  by_cases e : j = i.toNat
  · subst e; exact he
  · exact h.eq j (by have := h.lo; omega)⟩
theorem EqB.fin {a b : List UInt8} {i : Int} (h : EqB a b i) (hi : a.length ≤ i) : a = b := gd_same (by have := h.len; omega) fun j hj => h.eq j (by omega)
theorem gdB_ne {a b : List UInt8} {i : Nat} (h : gd 0 a i ≠ gd 0 b i) : a ≠ b := fun e => h (e ▸ rfl)
theorem lenB_ne {a b : List UInt8} (h : (a.length : Int) ≠ b.length) : a ≠ b := fun e => h (e ▸ rfl)
def i_12_0 (a : (List UInt8)) (b : (List UInt8)) (i : Int) : Prop := EqB a b i
def k_12 : Con Tc Tc.dn := ⟨12, [.ty .lU8, .ty .lU8], fun x => (fun (a : (List UInt8)) (b : (List UInt8)) => a.length ≤ 140737488355328) x.1 x.2.1, [.cBool], fun x => (fun (a : (List UInt8)) (b : (List UInt8)) => decide (a = b)) x.1 x.2.1⟩
theorem k_12_v (a : (List UInt8)) (b : (List UInt8)) (hp : a.length ≤ 140737488355328) : (¬(↑a.length : Int) = (↑b.length : Int) → false = decide (a = b)) ∧ ((↑a.length : Int) = (↑b.length : Int) → i_12_0 a b (0 : Int) ∧ ∀ (x : Int), i_12_0 a b x → (x < (↑a.length : Int) → ((0 : Int) ≤ x ∧ x < (↑a.length : Int)) ∧ ((0 : Int) ≤ x ∧ x < (↑b.length : Int)) ∧ (¬gd (0 : UInt8) a x.toNat = gd (0 : UInt8) b x.toNat → false = decide (a = b)) ∧ (gd (0 : UInt8) a x.toNat = gd (0 : UInt8) b x.toNat → I64 (x + (1 : Int)) ∧ i_12_0 a b (x + (1 : Int)) ∧ ((↑a.length : Int) - (x + (1 : Int))).toNat < ((↑a.length : Int) - x).toNat)) ∧ ((↑a.length : Int) ≤ x → true = decide (a = b))) := by
  have h1 := @EqB.start a b
  have h2 := @EqB.step a b
  have h3 := @EqB.fin a b
  have h4 := @gdB_ne a b
  have h5 := @lenB_ne a b
  have h6 := @EqB.lo a b
  have h7 := @EqB.len a b
  (repeat' (first | apply And.intro | intro _)) <;> first | assumption | trivial | omega | (grind [i_12_0, I64]) | trace_state
theorem k_12_ok : k_12.Ok Try.prog tD := con_ok tD_ok (Δ := []) trivial (Ω := []) trivial k_12 F12_ok F12_call (fun _ => []) (fun _ => trivial) 0 (fun x => (fun (a : (List UInt8)) (b : (List UInt8)) => (fun k => bif Nat.beq k 0 then some (.inv [.sl 5 .cInt] (fun zo zv => (fun (i : Int) => i_12_0 a b i) zv.1) (fun zo zv => (fun (i : Int) => ((a.length : Int) - i).toNat) zv.1)) else none)) x.1 x.2.1) fun x hp => Eq.mp (by kernel_rfl) (k_12_v x.1 x.2.1 hp)
open Go.RowKit
def k_9 : Con Tc Tc.dn := ⟨9, [], fun _ => True, [.cBool], fun _ => true⟩
abbrev z9_0 := (mulP [UInt8.ofNat (Int.toNat (1 : Int)), UInt8.ofNat (Int.toNat (1 : Int))] [UInt8.ofNat (Int.toNat (2 : Int)), UInt8.ofNat (Int.toNat (1 : Int)), UInt8.ofNat (Int.toNat (0 : Int))])
abbrev z9_1 := ((meetL [UInt8.ofNat (Int.toNat (0 : Int)), UInt8.ofNat (Int.toNat (1 : Int))] [UInt8.ofNat (Int.toNat (7 : Int)), UInt8.ofNat (Int.toNat (5 : Int))]).fst = [UInt8.ofNat (Int.toNat (7 : Int)), UInt8.ofNat (Int.toNat (2 : Int))])
abbrev z9_3 := (meetL [UInt8.ofNat (Int.toNat (3 : Int)), UInt8.ofNat (Int.toNat (3 : Int))] [UInt8.ofNat (Int.toNat (1 : Int)), UInt8.ofNat (Int.toNat (2 : Int))])
abbrev z9_4 := (dvdP z9_0.fst [UInt8.ofNat (Int.toNat (2 : Int)), UInt8.ofNat (Int.toNat (1 : Int))])
abbrev z9_2 := (z9_4.fst = [UInt8.ofNat (Int.toNat (1 : Int)), UInt8.ofNat (Int.toNat (1 : Int))])
abbrev z9_5 := (z9_0.fst = [UInt8.ofNat (Int.toNat (2 : Int)), UInt8.ofNat (Int.toNat (3 : Int)), UInt8.ofNat (Int.toNat (1 : Int))])
abbrev z9_6 := ((decide z9_1 = true ∧ z9_3.snd = (6 : Int)) ∧ (dvdP z9_0.fst [UInt8.ofNat (Int.toNat (0 : Int))]).snd.snd = (5 : Int) → (decide z9_1 = true ∧ z9_3.snd = (6 : Int)) ∧ (dvdP z9_0.fst [UInt8.ofNat (Int.toNat (0 : Int))]).snd.snd = (5 : Int))
theorem k_9_v  : ((2 : Nat) ≤ (140737488355328 : Nat) ∧ (3 : Nat) ≤ (140737488355328 : Nat)) ∧ (z9_0.fst.length ≤ (140737488355328 : Nat) ∧ (2 : Nat) ≤ (140737488355328 : Nat)) ∧ ((2 : Nat) ≤ (140737488355328 : Nat) ∧ (2 : Nat) ≤ (140737488355328 : Nat)) ∧ ((2 : Nat) ≤ (140737488355328 : Nat) ∧ (2 : Nat) ≤ (140737488355328 : Nat)) ∧ (z9_0.fst.length ≤ (140737488355328 : Nat) ∧ (1 : Nat) ≤ (140737488355328 : Nat)) ∧ (z9_0.snd = (0 : Int) → z9_0.fst.length ≤ (140737488355328 : Nat) ∧ (decide z9_5 = true → decide z9_5 = true) ∧ (decide z9_5 = true → decide z9_5 = true) ∧ (decide z9_5 = true ∧ z9_4.snd.snd = (0 : Int) → z9_4.fst.length ≤ (140737488355328 : Nat) ∧ (decide z9_2 = true → decide z9_2 = true) ∧ (decide z9_2 = true → decide z9_2 = true) ∧ (decide z9_2 = true → decide z9_2 = true) ∧ (decide z9_2 = true ∧ (↑z9_4.snd.fst.length : Int) = (0 : Int) → decide z9_2 = true ∧ (↑z9_4.snd.fst.length : Int) = (0 : Int)) ∧ (decide z9_2 = true ∧ (↑z9_4.snd.fst.length : Int) = (0 : Int) → decide z9_2 = true ∧ (↑z9_4.snd.fst.length : Int) = (0 : Int)) ∧ ((decide z9_2 = true ∧ (↑z9_4.snd.fst.length : Int) = (0 : Int)) ∧ (meetL [UInt8.ofNat (Int.toNat (0 : Int)), UInt8.ofNat (Int.toNat (1 : Int))] [UInt8.ofNat (Int.toNat (7 : Int)), UInt8.ofNat (Int.toNat (5 : Int))]).snd = (0 : Int) → (meetL [UInt8.ofNat (Int.toNat (0 : Int)), UInt8.ofNat (Int.toNat (1 : Int))] [UInt8.ofNat (Int.toNat (7 : Int)), UInt8.ofNat (Int.toNat (5 : Int))]).fst.length ≤ (140737488355328 : Nat) ∧ (decide z9_1 = true → decide z9_1 = true) ∧ (decide z9_1 = true → decide z9_1 = true) ∧ (decide z9_1 = true ∧ z9_3.snd = (6 : Int) → decide z9_1 = true ∧ z9_3.snd = (6 : Int)) ∧ (decide z9_1 = true ∧ z9_3.snd = (6 : Int) → decide z9_1 = true ∧ z9_3.snd = (6 : Int)) ∧ z9_6 ∧ ((decide z9_1 = true ∧ z9_3.snd = (6 : Int)) ∧ (dvdP z9_0.fst [UInt8.ofNat (Int.toNat (0 : Int))]).snd.snd = (5 : Int) → z9_0.fst.length ≤ (140737488355328 : Nat)) ∧ z9_6 ∧ z9_6 ∧ (decide z9_1 && z9_3.snd == (6 : Int) && (dvdP z9_0.fst [UInt8.ofNat (Int.toNat (0 : Int))]).snd.snd == (5 : Int) && pv z9_0.fst (UInt8.ofNat (Int.toNat (1 : Int))) == UInt8.ofNat (Int.toNat (0 : Int))) = true) ∧ ((decide z9_2 = false ∨ ¬(↑z9_4.snd.fst.length : Int) = (0 : Int)) ∨ ¬(meetL [UInt8.ofNat (Int.toNat (0 : Int)), UInt8.ofNat (Int.toNat (1 : Int))] [UInt8.ofNat (Int.toNat (7 : Int)), UInt8.ofNat (Int.toNat (5 : Int))]).snd = (0 : Int) → false = true)) ∧ (decide z9_5 = false ∨ ¬z9_4.snd.snd = (0 : Int) → false = true)) ∧ (¬z9_0.snd = (0 : Int) → false = true) := by
  delta z9_6 z9_5 z9_4 z9_3 z9_2 z9_1 z9_0
  (repeat' (first | apply And.intro | (intro h; exact absurd h (by decide +kernel)) | (intro h; clear h) | decide +kernel)) <;> first | decide +kernel | trace_state
theorem k_9_ok : k_9.Ok Try.prog tD := con_ok tD_ok (Δ := [k_10, k_14, k_15, k_16, k_12]) ⟨k_10_ok, k_14_ok, k_15_ok, k_16_ok, k_12_ok, trivial⟩ (Ω := []) trivial k_9 F9_ok F9_call (fun _ => []) (fun _ => trivial) 0 (fun _ => fun k => bif Nat.beq k 3048 then some (.spl 47) else bif Nat.beq k 3057 then some (.spl 56) else bif Nat.beq k 3071 then some (.spl 70) else none) fun x hp => Eq.mp (by kernel_rfl) (k_9_v )
open Go.RowKit
theorem pv_trim (p : List UInt8) (x : UInt8) : pv (trimP p) x = pv p x := (trimP_ok p).2.2 x
theorem trim_tr (p : List UInt8) : Trimmed (trimP p) := (trimP_ok p).1
def xp (x : UInt8) : Nat → UInt8
  | 0 => 1
  | n + 1 => gmul x (xp x n)
theorem pv_zr (x : UInt8) (s : List UInt8) : ∀ i, pv (zr i ++ s) x = gmul (xp x i) (pv s x)
  | 0 => by simp [xp, one_gmul]
  | i + 1 => by
    show pv (0 :: (zr i ++ s)) x = _
    rw [pv, pv_zr x s i, UInt8.zero_xor, xp, gmul_assoc]
theorem lastI_ok {q : List UInt8} (h : gd 0 q (q.length - 1) ≠ 0) : gmul (lastI q) (gd 0 q (q.length - 1)) = 1 := by
  unfold lastI
  rw [show ((q.length : Int) - 1).toNat = q.length - 1 by omega]
  unfold invN
  rw [if_neg h, gmul_comm, gmul_ginv _ h]
theorem divGo_law {q : List UInt8} (h0 : 0 < q.length) (hq : gd 0 q (q.length - 1) ≠ 0) : ∀ (n : Nat) (r qs : List UInt8), (∀ m, n + q.length - 1 ≤ m → gd 0 r m = 0) →
    (∀ m, q.length - 1 ≤ m → gd 0 (divGo q (lastI q) n r qs).2 m = 0) ∧ ∀ x, pv (divGo q (lastI q) n r qs).2 x ^^^ gmul (pv (divGo q (lastI q) n r qs).1 x) (pv q x) = pv r x ^^^ gmul (pv (zr n ++ qs) x) (pv q x)
  | 0, r, qs, hz => ⟨fun m hm => hz m (by omega), fun x => by simp [divGo]⟩
  | n + 1, r, qs, hz => by
    rw [divGo]
    generalize hf : gmul (gd 0 r (n + q.length - 1)) (lastI q) = f
    have hfq : gmul f (gd 0 q (q.length - 1)) = gd 0 r (n + q.length - 1) := by rw [← hf, gmul_assoc, lastI_ok hq, gmul_one]
    obtain ⟨i1, i2⟩ := divGo_law h0 hq n (padd r (zr n ++ pscale f q)) (f :: qs) fun m hm => by
      rw [gd_padd, gd_zr, if_neg (by omega), gd_pscale]
      by_cases e : m = n + q.length - 1
      · rw [e, show n + q.length - 1 - n = q.length - 1 by omega, hfq, UInt8.xor_self]
      · rw [hz m (by omega), gd_far (p := q) (by omega), gmul_zero]; rfl
    refine ⟨i1, fun x => ?_⟩
    rw [i2 x, pv_add, pv_zr, pv_scale, pv_zr, pv_zr]
    have e1 : pv (f :: qs) x = f ^^^ gmul x (pv qs x) := rfl
    have e2 : xp x (n + 1) = gmul x (xp x n) := rfl
    rw [e1, e2]
    have e3 : gmul (gmul (xp x n) (f ^^^ gmul x (pv qs x))) (pv q x) = gmul (xp x n) (gmul f (pv q x)) ^^^ gmul (gmul (gmul x (xp x n)) (pv qs x)) (pv q x) := by
      rw [gmul_comm (xp x n) (f ^^^ _), gmul_add_left, gmul_add_left, gmul_comm f (xp x n), gmul_assoc, gmul_comm (gmul x (pv qs x)) (xp x n), ← gmul_assoc (xp x n) x, gmul_comm (xp x n) x]
    rw [e3, UInt8.xor_assoc, ← UInt8.xor_assoc (gmul (xp x n) (gmul f (pv q x))), UInt8.xor_self, UInt8.zero_xor]
theorem gd_short {r : List UInt8} {n : Nat} (h : ∀ m, n ≤ m → gd 0 r m = 0) : (trimP r).length ≤ n := by
  refine Nat.le_trans (Nat.le_of_eq (congrArg List.length ?_)) (Nat.le_trans (trimP_le (r.take n)) (by rw [List.length_take]; omega))
  have : ∀ k, trimP (r.take (n + k)) = trimP (r.take n) := fun k => by
    induction k with
    | zero => rfl
    | succ k ih =>
      by_cases hl : n + k < r.length
      · have e : gd 0 r (n + k) = r[n + k] := by unfold gd; rw [List.getElem?_eq_getElem hl]; rfl
        rw [← ih, show n + (k + 1) = n + k + 1 by omega, List.take_succ_eq_append_getElem hl, trimP_snoc, if_pos (e ▸ h _ (by omega))]
      · rw [← ih, List.take_of_length_le (by omega), List.take_of_length_le (by omega)]
  have h2 := this r.length
  rw [List.take_of_length_le (by omega)] at h2
  exact h2
theorem last_ne {q : List UInt8} (ht : Trimmed q) (h0 : 0 < q.length) : gd 0 q (q.length - 1) ≠ 0 := by
  have hne : q ≠ [] := fun e => by subst e; simp at h0
  have := ht _ (List.getLast?_eq_some_getLast hne)
  rw [List.getLast_eq_getElem] at this
  unfold gd
  rw [List.getElem?_eq_getElem (by omega)]
  exact this
theorem divL_law {p q : List UInt8} (ht : Trimmed q) (h0 : 0 < q.length) : Trimmed (divL p q).1 ∧ Trimmed (divL p q).2 ∧ (divL p q).2.length < q.length ∧ ∀ x, gmul (pv (divL p q).1 x) (pv q x) ^^^ pv (divL p q).2 x = pv p x := by
  obtain ⟨h1, h2⟩ := divGo_law h0 (last_ne ht h0) (p.length + 1 - q.length) p [] fun m hm => gd_far (by omega)
  have hs := gd_short h1
  refine ⟨trim_tr _, trim_tr _, by unfold divL; simp only; omega, fun x => ?_⟩
  have := h2 x
  unfold divL
  simp only [pv_trim]
  rw [UInt8.xor_comm, this, pv_zr]
  simp [pv, gmul_zero, zero_gmul]
open Go.RowKit
theorem pv_two (x z : UInt8) : pv [x, 1] z = z ^^^ x := by
  show x ^^^ gmul z (1 ^^^ gmul z 0) = _
  rw [gmul_zero, UInt8.xor_zero, gmul_one, UInt8.xor_comm]
theorem two_tr (x : UInt8) : Trimmed [x, 1] := fun c hc => by
  simp at hc; subst hc; decide
theorem one_v {r : List UInt8} (h : r.length < 2) (x z : UInt8) : pv r x = pv r z := by
  match r, h with
  | [], _ => rfl
  | [c], _ => simp [pv, gmul_zero]
  | _ :: _ :: _, h => simp at h; omega
theorem one_nil {r : List UInt8} (h : r.length < 2) (ht : Trimmed r) {x : UInt8} (h0 : pv r x = 0) : r = [] := by
  match r, h with
  | [], _ => rfl
  | [c], _ => exact absurd (by simpa [pv, gmul_zero] using h0) (ht c rfl)
  | _ :: _ :: _, h => simp at h; omega
open Go.RowKit
theorem dvdP_ok {p q : List UInt8} (h : (dvdP p q).2.2 = 0) : p.length ≤ 64 ∧ q.length ≤ 64 ∧ 0 < (trimP q).length ∧ (dvdP p q).1 = (divL (trimP p) (trimP q)).1 ∧ (dvdP p q).2.1 = (divL (trimP p) (trimP q)).2 := by
  unfold dvdP at h ⊢
  by_cases hh : 64 < p.length ∨ 64 < q.length
  · rw [if_pos hh] at h; simp at h
  · rw [if_neg hh] at h ⊢
    by_cases h2 : (trimP q).length = 0
    · rw [if_pos h2] at h; simp at h
    · rw [if_neg h2]; exact ⟨by omega, by omega, by omega, rfl, rfl⟩
open Go.RowKit
theorem root_div {t : List UInt8} {x : UInt8} (ht : Trimmed t) (hl : t.length ≤ 64) (h0 : pv t x = 0) : (dvdP t [x, 1]).2.2 = 0 ∧ (dvdP t [x, 1]).2.1.length = 0 := by
  have e1 : trimP [x, 1] = [x, 1] := trimP_id (two_tr x)
  have e2 : (dvdP t [x, 1]).2.2 = 0 := by unfold dvdP; rw [if_neg (by simp; omega), e1, if_neg (by simp)]
  obtain ⟨_, _, _, _, d5⟩ := dvdP_ok e2
  refine ⟨e2, ?_⟩
  rw [d5, e1]
  obtain ⟨a1, a2, a3, a4⟩ := divL_law (p := trimP t) (two_tr x) (by simp)
  have e := a4 x
  rw [pv_two, UInt8.xor_self, gmul_zero, UInt8.zero_xor, pv_trim, h0] at e
  rw [one_nil a3 a2 e]; rfl
structure RtI (t : List UInt8) (x n : Int) : Prop where
  lo : 0 ≤ x ∧ x ≤ 256 ∧ 0 ≤ n ∧ n ≤ x
  ex : ∃ L : List UInt8, L.Nodup ∧ (L.length : Int) = n ∧ ∀ y, y ∈ L → pv t y = 0 ∧ (y.toNat : Int) < x
theorem RtI.start {t : List UInt8} : RtI t 0 0 := ⟨by omega, [], by simp, rfl, fun y hy => by simp at hy⟩
theorem RtI.no {t : List UInt8} {x n : Int} (h : RtI t x n) (hx : x < 256) : RtI t (x + 1) n := by
  obtain ⟨L, h1, h2, h3⟩ := h.ex
  exact ⟨by have := h.lo; omega, L, h1, h2, fun y hy => ⟨(h3 y hy).1, by have := (h3 y hy).2; omega⟩⟩
theorem RtI.yes {t : List UInt8} {x n : Int} (h : RtI t x n) (hx : x < 256) (h0 : pv t (UInt8.ofNat x.toNat) = 0) : RtI t (x + 1) (n + 1) := by
  obtain ⟨L, h1, h2, h3⟩ := h.ex
  have hl := h.lo
  have hb : ((UInt8.ofNat x.toNat).toNat : Int) = x := by rw [UInt8.toNat_ofNat']; omega
  refine ⟨by omega, UInt8.ofNat x.toNat :: L, List.nodup_cons.2 ⟨fun hm => ?_, h1⟩, by simp; omega, fun y hy => ?_⟩
  · have := (h3 _ hm).2; omega
  · rcases List.mem_cons.1 hy with e | e
    · subst e; exact ⟨h0, by omega⟩
    · exact ⟨(h3 y e).1, by have := (h3 y e).2; omega⟩
theorem RtI.few {t : List UInt8} {x n : Int} (h : RtI t x n) : (0 ≤ x ∧ x ≤ 256) ∧ 0 ≤ n ∧ n ≤ 256 := by
  have := h.lo; omega
theorem RtI.fin {t : List UInt8} {x n : Int} (h : RtI t x n) (ht : Trimmed t) (h0 : ¬ (t.length : Int) = 0) : n < t.length := by
  obtain ⟨L, h1, h2, h3⟩ := h.ex
  have := few_roots ht (fun e => h0 (by rw [e]; rfl)) h1 fun y hy => (h3 y hy).1
  omega
def i_7_0 (p : (List UInt8)) (x : Int) (n : Int) : Prop := RtI (trimP p) x n
def k_7 : Con Tc Tc.dn := ⟨7, [.ty .lU8], fun x => (fun (p : (List UInt8)) => p.length ≤ 140737488351232) x.1, [.cBool], fun x => (fun (p : (List UInt8)) => true) x.1⟩
theorem k_7_v (p : (List UInt8)) (hp : p.length ≤ 140737488351232) : True ∧ (true = !true → false = true) ∧ (true = !false → p.length ≤ (140737488355328 : Nat) ∧ (¬(↑(trimP p).length : Int) = (0 : Int) → ¬(↑(trimP p).length : Int) = (0 : Int)) ∧ (¬(↑(trimP p).length : Int) = (0 : Int) → ¬(↑(trimP p).length : Int) = (0 : Int)) ∧ (¬(↑(trimP p).length : Int) = (0 : Int) → ¬(↑(trimP p).length : Int) = (0 : Int)) ∧ ((↑(trimP p).length : Int) = (0 : Int) ∨ (64 : Int) < (↑(trimP p).length : Int) → true = true) ∧ (¬(↑(trimP p).length : Int) = (0 : Int) ∧ (↑(trimP p).length : Int) ≤ (64 : Int) → i_7_0 p (0 : Int) (0 : Int) ∧ ∀ (x x_1 : Int), i_7_0 p x x_1 → (x < (256 : Int) → (0 : Int) ≤ x ∧ (trimP p).length ≤ (140737488355328 : Nat) ∧ (¬pv (trimP p) (UInt8.ofNat x.toNat) = UInt8.ofNat (Int.toNat (0 : Int)) → I64 (x + (1 : Int)) ∧ i_7_0 p (x + (1 : Int)) x_1 ∧ ((256 : Int) - (x + (1 : Int))).toNat < ((256 : Int) - x).toNat) ∧ (pv (trimP p) (UInt8.ofNat x.toNat) = UInt8.ofNat (Int.toNat (0 : Int)) → I64 (x_1 + (1 : Int)) ∧ (0 : Int) ≤ x ∧ ((trimP p).length ≤ (140737488355328 : Nat) ∧ (2 : Nat) ≤ (140737488355328 : Nat)) ∧ ((dvdP (trimP p) [UInt8.ofNat x.toNat, UInt8.ofNat (Int.toNat (1 : Int))]).snd.snd = (0 : Int) → (dvdP (trimP p) [UInt8.ofNat x.toNat, UInt8.ofNat (Int.toNat (1 : Int))]).snd.snd = (0 : Int)) ∧ ((dvdP (trimP p) [UInt8.ofNat x.toNat, UInt8.ofNat (Int.toNat (1 : Int))]).snd.snd = (0 : Int) → (dvdP (trimP p) [UInt8.ofNat x.toNat, UInt8.ofNat (Int.toNat (1 : Int))]).snd.snd = (0 : Int)) ∧ ((dvdP (trimP p) [UInt8.ofNat x.toNat, UInt8.ofNat (Int.toNat (1 : Int))]).snd.snd = (0 : Int) → (dvdP (trimP p) [UInt8.ofNat x.toNat, UInt8.ofNat (Int.toNat (1 : Int))]).snd.snd = (0 : Int)) ∧ (¬(dvdP (trimP p) [UInt8.ofNat x.toNat, UInt8.ofNat (Int.toNat (1 : Int))]).snd.snd = (0 : Int) ∨ ¬(↑(dvdP (trimP p) [UInt8.ofNat x.toNat, UInt8.ofNat (Int.toNat (1 : Int))]).snd.fst.length : Int) = (0 : Int) → false = true) ∧ ((dvdP (trimP p) [UInt8.ofNat x.toNat, UInt8.ofNat (Int.toNat (1 : Int))]).snd.snd = (0 : Int) ∧ (↑(dvdP (trimP p) [UInt8.ofNat x.toNat, UInt8.ofNat (Int.toNat (1 : Int))]).snd.fst.length : Int) = (0 : Int) → I64 (x + (1 : Int)) ∧ i_7_0 p (x + (1 : Int)) (x_1 + (1 : Int)) ∧ ((256 : Int) - (x + (1 : Int))).toNat < ((256 : Int) - x).toNat))) ∧ ((256 : Int) ≤ x → decide (x_1 < (↑(trimP p).length : Int)) = true))) := by
  have u1 : UInt8.ofNat (Int.toNat 1) = 1 := rfl
  have u0 : UInt8.ofNat (Int.toNat 0) = 0 := rfl
  simp only [u1, u0]
  have ht := trim_tr p
  have h1 := @RtI.start (trimP p)
  have h2 := @RtI.no (trimP p)
  have h3 := @RtI.yes (trimP p)
  have h4 := @RtI.few (trimP p)
  have h5 : ∀ x n, RtI (trimP p) x n → ¬ ((trimP p).length : Int) = 0 → n < (trimP p).length := fun x n h => h.fin ht
  have h6 : ∀ x, (trimP p).length ≤ 64 → pv (trimP p) x = 0 → (dvdP (trimP p) [x, 1]).2.2 = 0 ∧ (dvdP (trimP p) [x, 1]).2.1.length = 0 := fun x a b => root_div ht a b
  simp only [i_7_0]
  generalize trimP p = T at *
  (repeat' (first | apply And.intro | intro _)) <;> first | assumption | trivial | omega | (grind [I64]) | trace_state
theorem k_7_ok : k_7.Ok Try.prog tD := con_ok tD_ok (Δ := [k_9, k_14, k_16, k_13]) ⟨k_9_ok, k_14_ok, k_16_ok, k_13_ok, trivial⟩ (Ω := []) trivial k_7 F7_ok F7_call (fun _ => []) (fun _ => trivial) 0 (fun x => (fun (p : (List UInt8)) => (fun k => bif Nat.beq k 0 then some (.inv [.sl 5 .cInt, .sl 4 .cInt] (fun zo zv => (fun (x : Int) (n : Int) => i_7_0 p x n) zv.1 zv.2.1) (fun zo zv => (fun (x : Int) (n : Int) => (256 - x).toNat) zv.1 zv.2.1)) else none)) x.1) fun x hp => Eq.mp (by kernel_rfl) (k_7_v x.1 hp)
theorem PolyRoots_walk {w : World} (p : (List UInt8)) (Ap : Option Addr) (np cp : Nat) (rp : GoT.rep w w.heap.size [.slice Ap np cp] p) (zp : np * 1 ≤ 140737488351232) : Calls Try.prog 7 #[.slice Ap np cp] w fun e w' => e = .returned (.bool true) ∧ Below w.heap.size w w' := by
  have lp := rep_len rp
  have hf : Fn Try.prog 7 [(tD.en .lU8 p).av tD.toTE N0] (.v (.bool true)) := k_7_ok.2 (p, ()) N0 (by show p.length ≤ _; omega)
  exact fn_law (vs := [.slice Ap np cp]) hf trivial (.cons (arg_one tD_ok (t := .lU8) rfl ((LG.list LG.u8).av rp)) .nil)
end Go.Proofs.Ytemkmgnmibpamaa
