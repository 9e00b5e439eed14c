/- What functions answer (contracts). No condition. -/
import Derived.Test.YtpagdlhlfmenmaaDoorPSxY
import Derived.Test.YtpagdlhlfmenmaaDoorPQuorM
import Derived.Test.YtpagdlhlfmenmaaDoorTie
import Derived.Test.YtpagdlhlfmenmaaDoorCards
import Derived.Lib.LaidTab
import Derived.LaidMore
import Derived.Stop.Joined
set_option linter.unusedSimpArgs false
set_option linter.unusedVariables false
set_option maxHeartbeats 4000000
set_option maxRecDepth 100000
namespace Go.Proofs.YtpagdlhlfmenmaaDoor
open Go.RowKit
def ED (P : Program) (n k0 : Nat) (ac : AC) (s : S3) (e : Ex) (s' : S3) : Prop := EW P n k0 ac s fun x t => x = e ∧ t = s'
def Ex.blk (i : Nat) : Ex → Ex
  | .exit j => if j = i then .normal else .exit j
  | e => e
section
variable {P : Program} {n k0 : Nat} {s s' t : S3} {a b : AC} {e : Ex}
theorem ED.skip : ED P n k0 .skip s .normal s := EW.skip ⟨rfl, rfl⟩
theorem ED.ret : ED P n k0 .ret s .ret s := EW.ret ⟨rfl, rfl⟩
theorem ED.exit {i : Nat} : ED P n k0 (.exit i) s (.exit i) s := EW.exit ⟨rfl, rfl⟩
theorem ED.seq (h : ED P n k0 a s .normal t) (k : ED P n k0 b t e s') : ED P n k0 (.seq a b) s e s' :=
  EW.seq (EW.conseq h fun x u hu => by obtain ⟨rfl, rfl⟩ := hu; exact k)
theorem ED.seqX (h : ED P n k0 a s e t) (he : e ≠ .normal) : ED P n k0 (.seq a b) s e t :=
  EW.seq (EW.conseq h fun x u hu => by
    obtain ⟨rfl, rfl⟩ := hu
    cases x with
    | normal => exact absurd rfl he
    | exit i => exact ⟨rfl, rfl⟩
    | ret => exact ⟨rfl, rfl⟩)
theorem ED.cond {c : Arg} {p : Bool} (hc : argσ s.σ c = .v (.bool p)) (h : ED P n k0 (if p = true then a else b) s e t) : ED P n k0 (.cond c a b) s e t := EW.cond hc h
theorem ED.block {i : Nat} (h : ED P n k0 a s e t) : ED P n k0 (.block i a) s (e.blk i) t :=
  EW.block (EW.conseq h fun x u hu => by
    obtain ⟨rfl, rfl⟩ := hu
    cases x with
    | normal => exact ⟨rfl, rfl⟩
    | exit j =>
      simp only [Ex.inBlock, Ex.blk]
      split
      all_goals (first | trivial | exact ⟨rfl, rfl⟩ | simp_all)
    | ret => exact ⟨rfl, rfl⟩)
theorem ED.weak (h : s.Le k0 n t) (k : ED P n k0 a t e s') : ED P n k0 a s e s' := EW.weak h k
inductive Ch (P : Program) (n k0 : Nat) (a : AC) (e : Ex) (s' : S3) : Nat → S3 → Prop
  | last {s : S3} (h : ED P n k0 a s e s') (he : e ≠ .normal) : Ch P n k0 a e s' 0 s
  | step {m : Nat} {s t u : S3} (h : ED P n k0 a s .normal t) (hw : t.Le k0 n u) (c : Ch P n k0 a e s' m u) : Ch P n k0 a e s' (m + 1) s
theorem ED.post {u : S3} (h : ED P n k0 a s e t) (hw : t.Le k0 n u) : ED P n k0 a s e u := by
  intro rd c E0 J base w0 ac w hrd hc hk hr
  refine wpIn_mono (h rd c E0 J base w0 ac w hrd hc hk hr) fun e' a' w' ⟨x, s1, ⟨h1, h2⟩, h3, h4⟩ => ⟨x, u, ⟨h1, rfl⟩, h3, ?_⟩
  subst h2
  exact hw E0 J base w0 a' w' hk h4
theorem ED.loop {m : Nat} (h : Ch P n k0 a e s' m s) : ED P n k0 (.loop a) s e s' := by
  refine EW.loop (fun m t => Ch P n k0 a e s' m t) h fun m t hc => ?_
  cases hc with
  | last h he =>
    refine EW.conseq h fun x u hu => ?_
    obtain ⟨rfl, rfl⟩ := hu
    cases x with
    | normal => exact absurd rfl he
    | exit i => exact ⟨rfl, rfl⟩
    | ret => exact ⟨rfl, rfl⟩
  | @step m _ t u h hw c =>
    refine EW.conseq (ED.post h hw) fun x v hv => ?_
    obtain ⟨rfl, rfl⟩ := hv
    exact ⟨m, Nat.lt_succ_self m, c⟩
theorem ED.reg {os : List AOper} (h : OpsRun P n k0 os s.σ s.g s.k s'.σ s'.g s'.k) : ED P n k0 (.reg os none) s .normal s' := EW.reg h ⟨rfl, rfl⟩
theorem ED.draw {os : List AOper} {dep : List (List Nat)} (h : DrawF P n dep os s.σ s.g s.k [] [] s'.σ s'.g s'.k) : ED P n k0 (.reg os (some dep)) s .normal s' := EW.drawF h ⟨rfl, rfl⟩
theorem S3.le_ale {σ' : Nat → AV} (h : ∀ i, Ale (s.σ i) (σ' i)) : s.Le k0 n ⟨σ', s.g, s.k⟩ := by
  intro E0 J base w0 a w _ hr
  obtain ⟨E, h1, h2, h3, h4, h5, h6⟩ := hr.ex
  exact ⟨⟨E, h1, h2, fun t => h t E _ (h3 t), h4, h5, h6⟩, hr.size, hr.below, hr.gl⟩
theorem S3.Le.trans' {u : S3} (h : s.Le k0 n t) (k : t.Le k0 n u) : s.Le k0 n u := fun E0 J base w0 a w hk hr => k E0 J base w0 a w hk (h E0 J base w0 a w hk hr)
theorem S3.Le.refl' : s.Le k0 n s := fun _ _ _ _ _ _ _ hr => hr
theorem S3.le_adopt {i sz : Nat} (hσ : s.σ i = .emp) (hz : sz ≠ 0) : s.Le k0 n ⟨fun j => if j = i then .own s.k sz 0 0 else s.σ j, gput s.g [(s.k, some ⟨sz, []⟩)], s.k + 1⟩ := by
  intro E0 J base w0 a w hk hr
  obtain ⟨E, rfl, hle, hs, hm, hkn, hmk⟩ := hr.ex
  obtain ⟨E', hw, hE, hM, k1, k2, k3, k4, k5⟩ := hm.phantom (fresh := s.k) (fun hh => Nat.lt_irrefl _ (hkn _ hh)) sz
  refine ⟨⟨E', hw, hle.trans hE, fun j => ?_, hM, fun id hid => ?_, hmk.step hE⟩, hr.size, hr.below, hr.gl⟩
  · show Rep E' _ (if j = i then _ else _)
    by_cases hj : j = i
    · rw [if_pos hj]
      have := hs j
      rw [hj, hσ] at this
      obtain ⟨A, hA⟩ := emp_inv this
      rw [hj, hA]
      exact .own0 k1 k2 k3 k5 hz
    · rw [if_neg hj]; exact (hs j).step hE
  · show id < s.k + 1
    rcases k4 id hid with h | h
    · have := hkn id h; omega
    · omega
end
section
variable {τ : Type} {dn : τ → Type}
def Nms.same (p : Nat → Bool) (N N' : Nms) : Prop := (∀ a, p a = true → N'.ι a = N.ι a ∧ N'.ln a = N.ln a) ∧ N'.ρ = N.ρ
mutual
theorem fr_av {E : TE τ dn} {p : Nat → Bool} {N N' : Nms} (hN : N.same p N') : ∀ (v : SV τ dn), v.fr p = true → v.av E N' = v.av E N
  | .own nm sz, h => by simp only [SV.fr] at h; simp only [SV.av, hN.1 nm h]
  | .part nm sz o l, h => by simp only [SV.fr] at h; simp only [SV.av, hN.1 nm h]
  | .ref nm sz i o, h => by simp only [SV.fr] at h; simp only [SV.av, hN.1 nm h]
  | .mp nm, h => by simp only [SV.fr] at h; simp only [SV.av, hN.1 nm h]
  | .agg cs, h | .tup cs, h | .fn _ cs, h | .bf _ cs, h | .pim cs _, h => by simp only [SV.fr] at h; simp only [SV.av, frL_av hN cs h]
  | .vc _ els, h => by simp only [SV.fr] at h; simp only [SV.av, frM_av hN els h]
  | .vg p c v, h => by simp only [SV.fr] at h; simp only [SV.av, fr_av hN v h]
  | .vl t xs, h => by simp only [SV.av, hN.2]
  | .vi _, _ | .vn _, _ | .vy _, _ | .vu _, _ | .vw _ _, _ | .vb _, _ | .vt _, _ | .vz _, _ | .vo _, _ | .emp, _ | .dead, _ => by simp only [SV.av]
theorem frL_av {E : TE τ dn} {p : Nat → Bool} {N N' : Nms} (hN : N.same p N') : ∀ (cs : List (SV τ dn)), SV.frL p cs = true → SV.avL E N' cs = SV.avL E N cs
  | [], _ => rfl
  | v :: r, h => by
    simp only [SV.frL, Bool.and_eq_true] at h
    simp only [SV.avL, fr_av hN v h.1, frL_av hN r h.2]
theorem frM_av {E : TE τ dn} {p : Nat → Bool} {N N' : Nms} (hN : N.same p N') : ∀ (els : List (List (SV τ dn))), SV.frM p els = true → SV.avM E N' els = SV.avM E N els
  | [], _ => rfl
  | v :: r, h => by
    simp only [SV.frM, Bool.and_eq_true] at h
    simp only [SV.avM, frL_av hN v h.1, frM_av hN r h.2]
end
def SB.fr (p : Nat → Bool) : SB τ dn → Bool
  | .bl _ _ => true
  | .bc _ els => SV.frM p els
  | .mc els => SV.frM p els
theorem frB_av {E : TE τ dn} {p : Nat → Bool} {N N' : Nms} (hN : N.same p N') (B : SB τ dn) (h : B.fr p = true) : B.av E N' = B.av E N := by
  cases B with
  | bl t xs => simp only [SB.av, hN.2]
  | bc sz els => simp only [SB.fr] at h; simp only [SB.av, frM_av hN els h]
  | mc els => simp only [SB.fr] at h; simp only [SB.av, frM_av hN els h]
def hasN (l : List Nat) (a : Nat) : Bool := l.any (Nat.beq a)
theorem hasN_iff {l : List Nat} {a : Nat} : hasN l a = true ↔ a ∈ l := by
  unfold hasN
  rw [List.any_eq_true]
  constructor
  · rintro ⟨b, h1, h2⟩; rw [Nat.eq_of_beq_eq_true h2]; exact h1
  · intro h; exact ⟨a, h, Nat.beq_refl a⟩
def cleanT (p : Nat → Bool) : List Nat → List (Nat × SV τ dn) → List (Nat × SV τ dn)
  | _, [] => []
  | seen, (i, v) :: r => bif hasN seen i then cleanT p seen r else bif v.fr p then (i, v) :: cleanT p (i :: seen) r else cleanT p (i :: seen) r
theorem cleanT_ok {p : Nat → Bool} : ∀ {t : List (Nat × SV τ dn)} {seen : List Nat} {i : Nat} {v : SV τ dn}, getS (cleanT p seen t) i = some v → getS t i = some v ∧ v.fr p = true ∧ ¬ i ∈ seen
  | [], seen, i, v, h => by simp [cleanT, getS] at h
  | (j, w) :: r, seen, i, v, h => by
    simp only [cleanT] at h
    cases hs : hasN seen j with
    | true =>
      rw [hs, cond_true] at h
      obtain ⟨h1, h2, h3⟩ := cleanT_ok h
      refine ⟨?_, h2, h3⟩
      rw [getS_cons, if_neg]; exact h1
      intro e; subst e; exact h3 (hasN_iff.1 hs)
    | false =>
      rw [hs, cond_false] at h
      have hj : ¬ j ∈ seen := fun hh => by rw [hasN_iff.2 hh] at hs; simp at hs
      have next : getS (cleanT p (j :: seen) r) i = some v → getS ((j, w) :: r) i = some v ∧ v.fr p = true ∧ ¬ i ∈ seen := fun h => by
        obtain ⟨h1, h2, h3⟩ := cleanT_ok h
        simp only [List.mem_cons, not_or] at h3
        exact ⟨by rw [getS_cons, if_neg h3.1]; exact h1, h2, h3.2⟩
      cases hf : w.fr p with
      | true =>
        rw [hf, cond_true, getS_cons] at h
        by_cases hi : i = j
        · rw [if_pos hi, Option.some.injEq] at h
          subst h; subst hi
          exact ⟨by rw [getS_cons, if_pos rfl], hf, hj⟩
        · rw [if_neg hi] at h; exact next h
      | false => rw [hf, cond_false] at h; exact next h
def cleanM (p : Nat → Bool) : List Nat → List (Nat × Option (SB τ dn)) → List (Nat × Option (SB τ dn))
  | _, [] => []
  | seen, (i, v) :: r => bif hasN seen i then cleanM p seen r else match v with
    | some B => bif B.fr p && p i then (i, some B) :: cleanM p (i :: seen) r else cleanM p (i :: seen) r
    | none => cleanM p (i :: seen) r
theorem cleanM_ok {p : Nat → Bool} : ∀ {t : List (Nat × Option (SB τ dn))} {seen : List Nat} {i : Nat} {v : Option (SB τ dn)}, getS (cleanM p seen t) i = some v → getS t i = some v ∧ (∃ B, v = some B ∧ B.fr p = true) ∧ p i = true ∧ ¬ i ∈ seen
  | [], seen, i, v, h => by simp [cleanM, getS] at h
  | (j, w) :: r, seen, i, v, h => by
    simp only [cleanM] at h
    cases hs : hasN seen j with
    | true =>
      rw [hs, cond_true] at h
      obtain ⟨h1, h2, h4, h3⟩ := cleanM_ok h
      refine ⟨?_, h2, h4, h3⟩
      rw [getS_cons, if_neg]; exact h1
      intro e; subst e; exact h3 (hasN_iff.1 hs)
    | false =>
      rw [hs, cond_false] at h
      have hj : ¬ j ∈ seen := fun hh => by rw [hasN_iff.2 hh] at hs; simp at hs
      have next : getS (cleanM p (j :: seen) r) i = some v → getS ((j, w) :: r) i = some v ∧ (∃ B, v = some B ∧ B.fr p = true) ∧ p i = true ∧ ¬ i ∈ seen := fun h => by
        obtain ⟨h1, h2, h4, h3⟩ := cleanM_ok h
        simp only [List.mem_cons, not_or] at h3
        exact ⟨by rw [getS_cons, if_neg h3.1]; exact h1, h2, h4, h3.2⟩
      cases w with
      | none => exact next h
      | some B =>
        simp only at h
        cases hf : (B.fr p && p j) with
        | true =>
          rw [hf, cond_true, getS_cons] at h
          rw [Bool.and_eq_true] at hf
          by_cases hi : i = j
          · rw [if_pos hi, Option.some.injEq] at h
            subst h; subst hi
            exact ⟨by rw [getS_cons, if_pos rfl], ⟨B, rfl, hf.1⟩, hf.2, hj⟩
          · rw [if_neg hi] at h; exact next h
        | false => rw [hf, cond_false] at h; exact next h
theorem getS_app {α : Type} {a b : List (Nat × α)} {i : Nat} : getS (a ++ b) i = (getS a i).or (getS b i) := by
  induction a with
  | nil => simp [getS]
  | cons q r ih =>
    obtain ⟨j, v⟩ := q
    rw [List.cons_append, getS_cons, getS_cons, ih]
    split <;> simp
theorem getS_mem {α : Type} {l : List (Nat × α)} {i : Nat} {v : α} (h : getS l i = some v) : (i, v) ∈ l := by
  induction l with
  | nil => simp [getS] at h
  | cons q r ih =>
    obtain ⟨j, w⟩ := q
    rw [getS_cons] at h
    by_cases hi : i = j
    · rw [if_pos hi, Option.some.injEq] at h; subst h; subst hi; exact List.mem_cons_self ..
    · rw [if_neg hi] at h; exact List.mem_cons_of_mem _ (ih h)
inductive VK (τ : Type) where
  | sl (i : Nat) (t : τ)
  | ow (i : Nat) (t : τ)
  | bl (nm : Nat) (t : τ)
  | ce (nm : Nat) (t : τ)
abbrev VK.T (dn : τ → Type) : VK τ → Type
  | .sl _ t => dn t
  | .ow _ t => List (dn t)
  | .bl _ t => List (dn t)
  | .ce _ t => dn t
abbrev VT (dn : τ → Type) : List (VK τ) → Type
  | [] => Unit
  | v :: r => v.T dn × VT dn r
def allV : (vs : List (VK τ)) → (VT dn vs → Prop) → Prop
  | [], F => F ()
  | _ :: r, F => ∀ x, allV r fun y => F (x, y)
theorem allV_iff : ∀ {vs : List (VK τ)} {F : VT dn vs → Prop}, allV vs F ↔ ∀ x, F x
  | [], F => ⟨fun h _ => h, fun h => h ()⟩
  | _ :: r, F => ⟨fun h x => allV_iff.1 (h x.1) x.2, fun h x => allV_iff.2 fun y => h (x, y)⟩
variable [DecidableEq τ]
def blkL (D : TD τ dn) (st : SS τ dn) (nm : Nat) (t : τ) : Option (List (dn t)) := match st.gm nm with
  | some (.bl t' xs) => if h : t' = t then some (h ▸ xs) else none
  | some (.bc q els) => if q = D.sz t then decL D t els else none
  | _ => none
def getV (D : TD τ dn) (st : SS τ dn) : (v : VK τ) → Option (v.T dn)
  | .sl i t => match st.gt i with
    | some v => deV D t v
    | none => none
  | .ow i t => match st.gt i with
    | some (.own nm sz) => if sz = D.sz t then blkL D st nm t else none
    | _ => none
  | .bl nm t => blkL D st nm t
  | .ce nm t => match st.gm nm with
    | some (.bc q [cs]) => if q = D.sz t ∧ cs.all SV.ne = true then D.ds t cs else none
    | _ => none
def getVs (D : TD τ dn) (st : SS τ dn) : (vs : List (VK τ)) → Option (VT dn vs)
  | [] => some ()
  | v :: r => match getV D st v, getVs D st r with
    | some x, some y => some (x, y)
    | _, _ => none
def nmV (st : SS τ dn) : VK τ → Nat
  | .sl _ _ => 0
  | .ow i _ => match st.gt i with
    | some (.own nm _) => nm
    | _ => 0
  | .bl nm _ | .ce nm _ => nm
def isOw : VK τ → Bool
  | .ow _ _ => true
  | _ => false
def isSl : VK τ → Bool
  | .sl _ _ => true
  | _ => false
def slotsV : List (VK τ) → List Nat
  | [] => []
  | .sl i _ :: r | .ow i _ :: r => i :: slotsV r
  | _ :: r => slotsV r
def namesV : List (VK τ) → List Nat → List Nat
  | .sl _ _ :: r, _ :: l => namesV r l
  | _ :: r, n :: l => n :: namesV r l
  | _, _ => []
def movesV : List (VK τ) → List Nat → List Nat
  | .ow _ _ :: r, n :: l => n :: movesV r l
  | _ :: r, _ :: l => movesV r l
  | _, _ => []
def putT (D : TD τ dn) : (vs : List (VK τ)) → List Nat → VT dn vs → List (Nat × SV τ dn)
  | .sl i t :: r, _ :: l, x => (i, D.en t x.1) :: putT D r l x.2
  | .ow i t :: r, n :: l, x => (i, .own n (D.sz t)) :: putT D r l x.2
  | .bl _ _ :: r, _ :: l, x => putT D r l x.2
  | .ce _ _ :: r, _ :: l, x => putT D r l x.2
  | _, _, _ => []
def putM (D : TD τ dn) : (vs : List (VK τ)) → List Nat → VT dn vs → List (Nat × Option (SB τ dn))
  | .sl _ _ :: r, _ :: l, x => putM D r l x.2
  | .ow _ t :: r, n :: l, x => (n, some (.bl t x.1)) :: putM D r l x.2
  | .bl _ t :: r, n :: l, x => (n, some (.bl t x.1)) :: putM D r l x.2
  | .ce _ t :: r, n :: l, x => (n, some (.bc (D.sz t) [D.es t x.1])) :: putM D r l x.2
  | _, _, _ => []
def mvN : List (VK τ) → List Nat → List Nat → Nat → Nat
  | .ow _ _ :: r, n :: l, m :: l', a => bif Nat.beq a n then m else mvN r l l' a
  | _ :: r, _ :: l, _ :: l', a => mvN r l l' a
  | _, _, _, a => a
def nodupB : List Nat → Bool
  | [] => true
  | a :: r => !hasN r a && nodupB r
end
section
variable {τ : Type} {dn : τ → Type} {D : TD τ dn} {N : Nms} {st : SS τ dn} {σ : Nat → AV} {g : Nat → Option Bk}
theorem blkL_ok [DecidableEq τ] (ok : TDok D) (R : RelAt D N st σ g) {nm : Nat} {t : τ} {xs : List (dn t)} (h : blkL D st nm t = some xs) : g (N.ι nm) = some ⟨D.sz t, xs.map (D.ea N.ρ t)⟩ ∧ N.ln nm = xs.length := by
  unfold blkL at h
  split at h
  · rename_i t' ys hB
    split at h
    · rename_i he
      subst he
      simp only [Option.some.injEq] at h; subst h
      exact R.gm hB
    · simp at h
  · rename_i q els hB
    split at h
    · rename_i hq
      obtain ⟨g1, g2⟩ := R.gm hB
      have e1 := decL_ok (N := N) ok h
      have e2 := decL_len h
      refine ⟨?_, by rw [g2]; exact e2⟩
      rw [g1]; simp only [SB.av, hq, e1]
    · simp at h
  · simp at h
def VarAt (D : TD τ dn) (N : Nms) (σ : Nat → AV) (g : Nat → Option Bk) : (v : VK τ) → Nat → v.T dn → Prop
  | .sl i t, _, x => Ale (σ i) ((D.en t x).av D.toTE N)
  | .ow i t, n, x => σ i = .own (N.ι n) (D.sz t) 0 (N.ln n) ∧ g (N.ι n) = some ⟨D.sz t, x.map (D.ea N.ρ t)⟩ ∧ N.ln n = x.length
  | .bl nm t, n, x => n = nm ∧ g (N.ι n) = some ⟨D.sz t, x.map (D.ea N.ρ t)⟩ ∧ N.ln n = x.length
  | .ce nm t, n, x => n = nm ∧ g (N.ι n) = some ⟨D.sz t, [D.ea N.ρ t x]⟩ ∧ N.ln n = 1
theorem getV_ok [DecidableEq τ] (ok : TDok D) (R : RelAt D N st σ g) {v : VK τ} {x : v.T dn} (h : getV D st v = some x) : VarAt D N σ g v (nmV st v) x := by
  cases v with
  | sl i t =>
    simp only [getV] at h
    split at h
    · rename_i w hw
      show Ale (σ i) _
      rw [R.gt hw]; exact deV_le ok h
    · simp at h
  | ow i t =>
    simp only [getV] at h
    split at h
    · rename_i nm sz hw
      split at h
      · rename_i hs
        have hn : nmV st (.ow i t) = nm := by simp only [nmV, hw]
        rw [hn]
        refine ⟨?_, blkL_ok ok R h⟩
        rw [R.gt hw, hs]; rfl
      · simp at h
    · simp at h
  | bl nm t => exact ⟨rfl, blkL_ok ok R h⟩
  | ce nm t =>
    simp only [getV] at h
    split at h
    · rename_i q cs hB
      split at h
      · rename_i hq
        obtain ⟨g1, g2⟩ := R.gm hB
        refine ⟨rfl, ?_, g2⟩
        show g (N.ι nm) = _
        rw [g1]; simp only [SB.av, SV.avM, SV.avL_map, hq.1, ok.ds_eq N t _ _ h hq.2]
      · simp at h
    · simp at h
inductive VarsAt (D : TD τ dn) (N : Nms) (σ : Nat → AV) (g : Nat → Option Bk) : (vs : List (VK τ)) → List Nat → VT dn vs → Prop
  | nil : VarsAt D N σ g [] [] ()
  | cons {v : VK τ} {vs : List (VK τ)} {n : Nat} {l : List Nat} {x : v.T dn} {y : VT dn vs} (h : VarAt D N σ g v n x) (t : VarsAt D N σ g vs l y) : VarsAt D N σ g (v :: vs) (n :: l) (x, y)
theorem getVs_ok [DecidableEq τ] (ok : TDok D) (R : RelAt D N st σ g) : ∀ {vs : List (VK τ)} {x : VT dn vs}, getVs D st vs = some x → VarsAt D N σ g vs (vs.map (nmV st)) x
  | [], x, h => .nil
  | v :: r, x, h => by
    simp only [getVs] at h
    split at h
    · rename_i a b h1 h2
      simp only [Option.some.injEq] at h; subst h
      exact .cons (getV_ok ok R h1) (getVs_ok ok R h2)
    · simp at h
theorem mvN_not {vs : List (VK τ)} {T A : List Nat} {a : Nat} (h : ¬ a ∈ movesV vs T) : mvN vs T A a = a := by
  induction vs generalizing T A with
  | nil => simp [mvN]
  | cons v r ih =>
    cases T with
    | nil => cases v <;> simp [mvN]
    | cons n l =>
      cases A with
      | nil => cases v <;> simp [mvN]
      | cons m l' =>
        cases v with
        | ow i t =>
          simp only [movesV, List.mem_cons, not_or] at h
          simp only [mvN]
          have : Nat.beq a n = false := by
            cases hb : Nat.beq a n with
            | false => rfl
            | true => exact absurd (Nat.eq_of_beq_eq_true hb) h.1
          rw [this, cond_false]; exact ih h.2
        | _ =>
          simp only [movesV] at h
          simp only [mvN]; exact ih h
theorem vars_move (D : TD τ dn) {N N' : Nms} {σ : Nat → AV} {g : Nat → Option Bk} (hρ : N'.ρ = N.ρ) (ok : TDok D) : ∀ {vs : List (VK τ)} {A T : List Nat} {x : VT dn vs}, VarsAt D N σ g vs A x → T.length = A.length →
    (∀ (j : Nat) v (n m : Nat), vs[j]? = some v → T[j]? = some n → A[j]? = some m → isSl v = true ∨ (N'.ι n = N.ι m ∧ N'.ln n = N.ln m ∧ (isOw v = true ∨ n = m))) → VarsAt D N' σ g vs T x
  | [], [], [], x, h, hl, hN => .nil
  | [], [], _ :: _, x, h, hl, hN => by simp at hl
  | v :: r, a :: A, [], x, h, hl, hN => by simp at hl
  | v :: r, a :: A, n :: T, x, h, hl, hN => by
    cases h with
    | cons h t =>
      refine .cons ?_ (vars_move D hρ ok t (by simpa using hl) (fun j v n m h0 h1 h2 => hN (j + 1) v n m (by simpa using h0) (by simpa using h1) (by simpa using h2)))
      have hm0 := hN 0 v n a rfl rfl rfl
      cases v with
      | sl i t => show Ale (σ i) _; rw [← en_ρ ok hρ]; exact h
      | ow i t =>
        obtain ⟨e1, e2, _⟩ := hm0.resolve_left (by simp [isSl])
        obtain ⟨h1, h2, h3⟩ := h; exact ⟨by rw [e1, e2]; exact h1, by rw [e1, hρ]; exact h2, by rw [e2]; exact h3⟩
      | bl nm t =>
        obtain ⟨e1, e2, e3⟩ := hm0.resolve_left (by simp [isSl])
        obtain ⟨h1, h2, h3⟩ := h
        have : n = a := by simpa [isOw] using e3
        exact ⟨this.trans h1, by rw [e1, hρ]; exact h2, by rw [e2]; exact h3⟩
      | ce nm t =>
        obtain ⟨e1, e2, e3⟩ := hm0.resolve_left (by simp [isSl])
        obtain ⟨h1, h2, h3⟩ := h
        have : n = a := by simpa [isOw] using e3
        exact ⟨this.trans h1, by rw [e1, hρ]; exact h2, by rw [e2]; exact h3⟩
theorem vars_slots : ∀ {vs : List (VK τ)} {T : List Nat} {x : VT dn vs}, VarsAt D N σ g vs T x → ∀ i v, (i, v) ∈ putT D vs T x → Ale (σ i) (v.av D.toTE N)
  | [], [], x, h, i, v, hm => by simp [putT] at hm
  | [], _ :: _, x, h, i, v, hm => by simp [putT] at hm
  | w :: r, [], x, h, i, v, hm => by cases h
  | w :: r, n :: T, x, h, i, v, hm => by
    cases h with
    | cons h t =>
      cases w with
      | sl j ty =>
        simp only [putT, List.mem_cons, Prod.mk.injEq] at hm
        rcases hm with ⟨rfl, rfl⟩ | hm
        · exact h
        · exact vars_slots t i v hm
      | ow j ty =>
        simp only [putT, List.mem_cons, Prod.mk.injEq] at hm
        rcases hm with ⟨rfl, rfl⟩ | hm
        · exact Ale.of_eq h.1
        · exact vars_slots t i v hm
      | bl nm ty => simp only [putT] at hm; exact vars_slots t i v hm
      | ce nm ty => simp only [putT] at hm; exact vars_slots t i v hm
theorem vars_blocks (ok : TDok D) : ∀ {vs : List (VK τ)} {T : List Nat} {x : VT dn vs}, VarsAt D N σ g vs T x → ∀ nm B, (nm, B) ∈ putM D vs T x → ∃ B', B = some B' ∧ g (N.ι nm) = some (B'.av D.toTE N) ∧ N.ln nm = B'.len
  | [], [], x, h, nm, B, hm => by simp [putM] at hm
  | [], _ :: _, x, h, nm, B, hm => by simp [putM] at hm
  | w :: r, [], x, h, nm, B, hm => by cases h
  | w :: r, n :: T, x, h, nm, B, hm => by
    cases h with
    | cons h t =>
      cases w with
      | sl j ty => simp only [putM] at hm; exact vars_blocks ok t nm B hm
      | ow j ty =>
        simp only [putM, List.mem_cons, Prod.mk.injEq] at hm
        rcases hm with ⟨rfl, rfl⟩ | hm
        · exact ⟨_, rfl, h.2⟩
        · exact vars_blocks ok t nm B hm
      | bl nm' ty =>
        simp only [putM, List.mem_cons, Prod.mk.injEq] at hm
        rcases hm with ⟨rfl, rfl⟩ | hm
        · exact ⟨_, rfl, h.2⟩
        · exact vars_blocks ok t nm B hm
      | ce nm' ty =>
        simp only [putM, List.mem_cons, Prod.mk.injEq] at hm
        rcases hm with ⟨rfl, rfl⟩ | hm
        · obtain ⟨h1, h2, h3⟩ := h
          refine ⟨_, rfl, ?_, h3⟩
          rw [h2]; simp only [SB.av, SV.avM, SV.avL_map, ok.es_av]
        · exact vars_blocks ok t nm B hm
def okT (p : Nat → Bool) : List (VK τ) → List Nat → Bool
  | .sl _ _ :: r, _ :: l => okT p r l
  | _ :: r, n :: l => p n && okT p r l
  | _, _ => true
theorem okT_get {p : Nat → Bool} : ∀ {vs : List (VK τ)} {T : List Nat}, okT p vs T = true → ∀ (j : Nat) v n, vs[j]? = some v → T[j]? = some n → isSl v = true ∨ p n = true
  | [], T, h, j, v, n, h1, h2 => by simp at h1
  | w :: r, [], h, j, v, n, h1, h2 => by simp at h2
  | w :: r, m :: l, h, j, v, n, h1, h2 => by
    cases j with
    | zero =>
      simp only [List.getElem?_cons_zero, Option.some.injEq] at h1 h2
      subst h1; subst h2
      cases w <;> simp only [okT, Bool.and_eq_true] at h <;> first
        | exact .inl rfl
        | exact .inr h.1
    | succ j =>
      have hr : okT p r l = true := by
        cases w <;> simp only [okT, Bool.and_eq_true] at h <;> first
          | exact h
          | exact h.2
      exact okT_get hr j v n (by simpa using h1) (by simpa using h2)
theorem en_fr (ok : TDok D) {p : Nat → Bool} (t : τ) (x : dn t) : (D.en t x).fr p = true := by
  have h := ok.nf p t x
  unfold TD.en
  cases ha : D.ag t with
  | true => rw [cond_true]; simp only [SV.fr]; exact h
  | false =>
    rw [cond_false]
    cases hs : D.es t x with
    | nil => rfl
    | cons v r => rw [hs] at h; simp only [SV.frL, Bool.and_eq_true] at h; exact h.1
theorem putT_names (ok : TDok D) {p : Nat → Bool} : ∀ {vs : List (VK τ)} {T : List Nat} {x : VT dn vs}, okT p vs T = true → ∀ i v, (i, v) ∈ putT D vs T x → v.fr p = true ∧ i ∈ slotsV vs
  | [], [], x, hp, i, v, hm => by simp [putT] at hm
  | [], _ :: _, x, hp, i, v, hm => by simp [putT] at hm
  | w :: r, [], x, hp, i, v, hm => by cases w <;> simp [putT] at hm
  | w :: r, n :: T, x, hp, i, v, hm => by
    cases w with
    | sl j ty =>
      simp only [okT] at hp
      simp only [putT, List.mem_cons, Prod.mk.injEq] at hm
      simp only [slotsV, List.mem_cons]
      rcases hm with ⟨rfl, rfl⟩ | hm
      · exact ⟨en_fr ok _ _, .inl rfl⟩
      · have ih := putT_names ok hp i v hm; exact ⟨ih.1, .inr ih.2⟩
    | ow j ty =>
      simp only [okT, Bool.and_eq_true] at hp
      simp only [putT, List.mem_cons, Prod.mk.injEq] at hm
      simp only [slotsV, List.mem_cons]
      rcases hm with ⟨rfl, rfl⟩ | hm
      · exact ⟨by simp only [SV.fr]; exact hp.1, .inl rfl⟩
      · have ih := putT_names ok hp.2 i v hm; exact ⟨ih.1, .inr ih.2⟩
    | bl nm ty =>
      simp only [okT, Bool.and_eq_true] at hp
      simp only [putT] at hm; simp only [slotsV]; exact putT_names ok hp.2 i v hm
    | ce nm ty =>
      simp only [okT, Bool.and_eq_true] at hp
      simp only [putT] at hm; simp only [slotsV]; exact putT_names ok hp.2 i v hm
theorem putM_names {p : Nat → Bool} : ∀ {vs : List (VK τ)} {T : List Nat} {x : VT dn vs}, okT p vs T = true → ∀ nm B, (nm, B) ∈ putM D vs T x → p nm = true
  | [], [], x, hp, nm, B, hm => by simp [putM] at hm
  | [], _ :: _, x, hp, nm, B, hm => by simp [putM] at hm
  | w :: r, [], x, hp, nm, B, hm => by cases w <;> simp [putM] at hm
  | w :: r, n :: T, x, hp, nm, B, hm => by
    cases w with
    | sl j ty => simp only [okT] at hp; simp only [putM] at hm; exact putM_names hp nm B hm
    | _ =>
      simp only [okT, Bool.and_eq_true] at hp
      simp only [putM, List.mem_cons, Prod.mk.injEq] at hm
      rcases hm with ⟨rfl, _⟩ | hm
      · exact hp.1
      · exact putM_names hp.2 nm B hm
def lessB (nx : Nat) (a : Nat) : Bool := Nat.blt a nx
theorem lessB_lt {nx a : Nat} (h : lessB nx a = true) : a < nx := Nat.le_of_ble_eq_true h
theorem agree_same {nx : Nat} {N N' : Nms} (h : N.agree nx N') : N.same (lessB nx) N' := ⟨fun a ha => h.1 a (lessB_lt ha), h.2⟩
theorem tmpl_rel (ok : TDok D) {n k0 : Nat} {s : S3} {vs : List (VK τ)} {T : List Nat} {x : VT dn vs} {rt : List (Nat × SV τ dn)} {rm : List (Nat × Option (SB τ dn))} {nx : Nat} (hV : VarsAt D N s.σ s.g vs T x) (hT : okT (lessB nx) vs T = true) (hl : T.length = vs.length)
    (hrt : ∀ i v, getS rt i = some v → s.σ i = v.av D.toTE N ∧ v.fr (lessB nx) = true ∧ ¬ i ∈ slotsV vs) (hrm : ∀ nm B, getS rm nm = some B → nm < nx ∧ ∀ B', B = some B' → s.g (N.ι nm) = some (B'.av D.toTE N) ∧ N.ln nm = B'.len ∧ B'.fr (lessB nx) = true)
    (inj : ∀ a b, a < nx → b < nx → N.ι a = N.ι b → a = b) (lt : ∀ a, a < nx → N.ι a < s.k) :
    ∃ s', s.Le k0 n s' ∧ Rel D N ⟨rt, rm, putT D vs T x, putM D vs T x, nx⟩ s' := by
  let σ' : Nat → AV := fun i => match getS (putT D vs T x) i with
    | some v => v.av D.toTE N
    | none => s.σ i
  refine ⟨⟨σ', s.g, s.k⟩, S3.le_ale fun i => ?_, fun N' hN => ?_, inj, lt, fun nm B h => lessB_lt (putM_names hT nm B (getS_mem h)), fun nm B h => (hrm nm B h).1⟩
  · show Ale (s.σ i) (match getS (putT D vs T x) i with | some v => v.av D.toTE N | none => s.σ i)
    split
    · rename_i v hv; exact vars_slots hV i v (getS_mem hv)
    · exact Ale.refl
  · have hs := agree_same hN
    have hV' : VarsAt D N' s.σ s.g vs T x := by
      refine vars_move D hN.2 ok hV rfl fun j v n m h0 h1 h2 => ?_
      rw [h1] at h2; simp only [Option.some.injEq] at h2; subst h2
      rcases okT_get hT j v n h0 h1 with h | h
      · exact .inl h
      · exact .inr ⟨(hs.1 n h).1, (hs.1 n h).2, .inr rfl⟩
    refine ⟨fun i v h => ?_, fun i v h => ?_, fun nm B h => ?_, fun nm B h => ?_⟩
    · show (match getS (putT D vs T x) i with | some v => v.av D.toTE N | none => s.σ i) = _
      have h' : getS (putT D vs T x) i = some v := h
      rw [h']
      exact (fr_av hs v (putT_names ok hT i v (getS_mem h')).1).symm
    · show (match getS (putT D vs T x) i with | some v => v.av D.toTE N | none => s.σ i) = _
      obtain ⟨h1, h2, h3⟩ := hrt i v h
      split
      · rename_i w hw; exact absurd (putT_names ok hT i w (getS_mem hw)).2 h3
      · rw [h1]; exact (fr_av hs v h2).symm
    · obtain ⟨B', e, h1, h2⟩ := vars_blocks ok hV' nm (some B) (getS_mem h)
      simp only [Option.some.injEq] at e; subst e
      exact ⟨h1, h2⟩
    · obtain ⟨h0, h1⟩ := hrm nm (some B) h
      obtain ⟨q1, q2, q3⟩ := h1 B rfl
      exact ⟨by rw [(hN.1 nm h0).1, q1, frB_av hs B q3], by rw [(hN.1 nm h0).2]; exact q2⟩
end
open Go.RowKit
section
variable {τ : Type} {dn : τ → Type}
def mrgT (c : Cn) (b : Bool) (st st' : SS τ dn) : List Nat → Option (List (Nat × SV τ dn))
  | [] => some []
  | d :: r => match st.gt d with
    | none => mrgT c b st st' r
    | some x => match st'.gt d with
      | none => none
      | some y => match iteS c (bif b then x else y) (bif b then y else x), mrgT c b st st' r with
        | some v, some l => some ((d, v) :: l)
        | _, _ => none
theorem mrgT_ok {c : Cn} {b : Bool} {st st' : SS τ dn} : ∀ {ds : List Nat} {l : List (Nat × SV τ dn)}, mrgT c b st st' ds = some l → ∀ {i v}, getS l i = some v → ∃ x y, st.gt i = some x ∧ st'.gt i = some y ∧ iteS c (bif b then x else y) (bif b then y else x) = some v
  | [], l, h, i, v, hv => by simp only [mrgT, Option.some.injEq] at h; subst h; simp [getS] at hv
  | d :: r, l, h, i, v, hv => by
    simp only [mrgT] at h
    split at h
    · exact mrgT_ok h hv
    · rename_i x hx
      split at h
      · simp at h
      · rename_i y hy
        split at h
        · rename_i w l' hw hl
          simp only [Option.some.injEq] at h; subst h
          rw [getS_cons] at hv
          by_cases hi : i = d
          · subst hi
            rw [if_pos rfl, Option.some.injEq] at hv; subst hv
            exact ⟨x, y, hx, hy, hw⟩
          · rw [if_neg hi] at hv; exact mrgT_ok hl hv
        · simp at h
def keyOut (ds : List Nat) : List (Nat × SV τ dn) → List (Nat × SV τ dn)
  | [] => []
  | q :: r => bif hasN ds q.1 then keyOut ds r else q :: keyOut ds r
theorem keyOut_ok {ds : List Nat} : ∀ {l : List (Nat × SV τ dn)} {i : Nat} {v : SV τ dn}, getS (keyOut ds l) i = some v → hasN ds i = false ∧ getS l i = some v
  | [], i, v, h => by simp [keyOut, getS] at h
  | q :: r, i, v, h => by
    simp only [keyOut] at h
    cases hq : hasN ds q.1 with
    | true =>
      rw [hq, cond_true] at h
      obtain ⟨h1, h2⟩ := keyOut_ok h
      refine ⟨h1, ?_⟩
      obtain ⟨j, w⟩ := q
      rw [getS_cons, if_neg (fun e => by subst e; rw [h1] at hq; simp at hq)]; exact h2
    | false =>
      rw [hq, cond_false] at h
      obtain ⟨j, w⟩ := q
      rw [getS_cons] at h ⊢
      by_cases hi : i = j
      · subst hi; rw [if_pos rfl] at h ⊢; exact ⟨hq, h⟩
      · rw [if_neg hi] at h ⊢; exact keyOut_ok h
theorem set_get {st : SS τ dn} {d : Option Nat} {v : SV τ dn} {i : Nat} (h : d ≠ some i) : getS (st.set d v).t i = getS st.t i := by
  cases d with
  | none => rfl
  | some j =>
    show getS ((j, v) :: st.t) i = _
    rw [getS_cons, if_neg (fun e => h (by rw [e]))]
variable [DecidableEq τ]
def pureOps (C : Cfg τ dn) (n : Nat) : List AOper → SS τ dn → Option (List Prop × SS τ dn)
  | [], st => some ([], st)
  | o :: os, st => bif dstS n st.rt o.dst then (match st.gd o.guard with
    | .yes => match opR C st o.ao with
      | some (.val O v, _) => (pureOps C n os (st.set o.dst v)).map fun q => (O ++ q.1, q.2)
      | _ => none
    | .no => pureOps C n os (st.set o.dst (.vo undef))
    | .cnd e => match opR C (st.unw o.ao.uns) o.ao with
      | some (.val O v, _) => (pureOps C n os (st.set o.dst (.vg true e v))).map fun q => ((unwO st e o.ao.uns ++ O.map fun p => e.tf true → p) ++ q.1, q.2)
      | _ => none
    | .bad => none) else none
theorem pureOps_ok {C : Cfg τ dn} {n : Nat} : ∀ {os : List AOper} {st st' : SS τ dn} {O : List Prop}, pureOps C n os st = some (O, st') → (st'.rt = st.rt ∧ st'.rm = st.rm ∧ st'.m = st.m ∧ st'.nx = st.nx) ∧ (∀ i, hasN (os.filterMap fun o => o.dst) i = false → getS st'.t i = getS st.t i) ∧ ((∀ p, p ∈ O → p) → ∀ xs, wpOps C n none os xs st fun x => x = st')
  | [], st, st', O, h => by
    simp only [pureOps, Option.some.injEq, Prod.mk.injEq] at h
    obtain ⟨rfl, rfl⟩ := h
    exact ⟨⟨rfl, rfl, rfl, rfl⟩, fun _ _ => rfl, fun _ _ => rfl⟩
  | o :: os, st, st', O, h => by
    simp only [pureOps] at h
    cases hd : dstS n st.rt o.dst with
    | false => rw [hd] at h; simp at h
    | true =>
      rw [hd, cond_true] at h
      have hds : ∀ i, hasN ((o :: os).filterMap fun o => o.dst) i = false → o.dst ≠ some i ∧ hasN (os.filterMap fun o => o.dst) i = false := fun i hi => by
        have hn : ¬ i ∈ (o :: os).filterMap fun o => o.dst := fun hh => by rw [hasN_iff.2 hh] at hi; simp at hi
        refine ⟨fun e => hn (List.mem_filterMap.2 ⟨o, List.mem_cons_self .., e⟩), ?_⟩
        cases hb : hasN (os.filterMap fun o => o.dst) i with
        | false => rfl
        | true =>
          obtain ⟨q, q1, q2⟩ := List.mem_filterMap.1 (hasN_iff.1 hb)
          exact absurd (List.mem_filterMap.2 ⟨q, List.mem_cons_of_mem _ q1, q2⟩) hn
      split at h
      · rename_i hg
        split at h
        · rename_i O1 v ns hr
          rw [Option.map_eq_some_iff] at h
          obtain ⟨⟨O2, st2⟩, h1, h2⟩ := h
          simp only [Prod.mk.injEq] at h2
          obtain ⟨rfl, rfl⟩ := h2
          obtain ⟨p1, p2, p3⟩ := pureOps_ok h1
          refine ⟨p1, fun i hi => (p2 i (hds i hi).2).trans (set_get (hds i hi).1), fun hO xs => ?_⟩
          simp only [wpOps, hd, cond_true, hg, hr]
          rw [obl_iff]
          exact ⟨fun p hp => hO p (List.mem_append_left _ hp), p3 (fun p hp => hO p (List.mem_append_right _ hp)) _⟩
        · simp at h
      · rename_i hg
        obtain ⟨p1, p2, p3⟩ := pureOps_ok h
        refine ⟨p1, fun i hi => (p2 i (hds i hi).2).trans (set_get (hds i hi).1), fun hO xs => ?_⟩
        simp only [wpOps, hd, cond_true, hg]
        exact p3 hO _
      · rename_i e hg
        split at h
        · rename_i O1 v ns hr
          rw [Option.map_eq_some_iff] at h
          obtain ⟨⟨O2, st2⟩, h1, h2⟩ := h
          simp only [Prod.mk.injEq] at h2
          obtain ⟨rfl, rfl⟩ := h2
          obtain ⟨p1, p2, p3⟩ := pureOps_ok h1
          refine ⟨p1, fun i hi => (p2 i (hds i hi).2).trans (set_get (hds i hi).1), fun hO xs => ?_⟩
          simp only [wpOps, hd, cond_true, hg, hr]
          rw [obl_iff]
          exact ⟨fun p hp => hO p (List.mem_append_left _ hp), p3 (fun p hp => hO p (List.mem_append_right _ hp)) _⟩
        · simp at h
      · simp at h
def mrgS (C : Cfg τ dn) (n : Nat) (c : Cn) (b : Bool) (os : List AOper) (st : SS τ dn) : Option (List Prop × SS τ dn) :=
  match pureOps C n os st with
  | some (O, st') => (mrgT c b st st' (os.filterMap fun o => o.dst)).map fun l => (O.map fun p => c.tf (!b) → p, ⟨st.rt, st.rm, l ++ keyOut (os.filterMap fun o => o.dst) st.t, st.m, st.nx⟩)
  | none => none
theorem mrgS_ok {C : Cfg τ dn} (hC : C.Ok) {n k0 : Nat} {c : Cn} {b : Bool} {os : List AOper} {st st2 : SS τ dn} {O : List Prop} (h : mrgS C n c b os st = some (O, st2)) (hO : ∀ p, p ∈ O → p) {N : Nms} {s : S3} (R : Rel C.D N st s) :
    (st2.rt = st.rt ∧ st2.rm = st.rm ∧ st2.nx = st.nx) ∧ (c.den = b → Rel C.D N st2 s) ∧ (c.den = !b → ∃ s' N', OpsRun C.P n k0 os s.σ s.g s.k s'.σ s'.g s'.k ∧ Rel C.D N' st2 s' ∧ N.agree st.nx N') := by
  unfold mrgS at h
  split at h
  case h_2 => simp at h
  rename_i O1 st' hp
  rw [Option.map_eq_some_iff] at h
  obtain ⟨l, hl, he⟩ := h
  simp only [Prod.mk.injEq] at he
  obtain ⟨rfl, rfl⟩ := he
  obtain ⟨⟨e1, e2, e3, e4⟩, p2, p3⟩ := pureOps_ok hp
  refine ⟨⟨rfl, rfl, rfl⟩, fun hc => ?_, fun hc => ?_⟩
  · refine ⟨fun N' hN => ?_, R.inj, R.lt, R.ml, R.rl⟩
    have A := R.at_ N' hN
    refine ⟨fun i v hv => ?_, A.rs, A.bl, A.rb⟩
    have hv' : getS (l ++ keyOut (os.filterMap fun o => o.dst) st.t) i = some v := hv
    rw [getS_app] at hv'
    cases hq : getS l i with
    | some w =>
      rw [hq] at hv'; simp only [Option.some_or, Option.some.injEq] at hv'; subst hv'
      obtain ⟨x, y, q1, q2, q3⟩ := mrgT_ok hl hq
      rw [iteS_ok q3, hc, A.gt q1]
      cases b <;> simp
    | none => rw [hq] at hv'; simp only [Option.none_or] at hv'; exact A.sl i v (keyOut_ok hv').2
  · have hO1 : ∀ p, p ∈ O1 → p := fun p hp => hO _ (List.mem_map.2 ⟨p, hp, rfl⟩) ((Cn.tf_iff c (!b)).2 hc)
    obtain ⟨s', N', st1, r1, r2, r3, r4, r5, r6⟩ := wpOps_seq hC (k0 := k0) R (p3 hO1 [])
    subst r6
    refine ⟨s', N', r1, ⟨fun N'' hN => ?_, ?_, ?_, ?_, ?_⟩, r4⟩
    · have A := r2.at_ N'' (by rw [e4]; exact hN)
      refine ⟨fun i v hv => ?_, fun i v hv => A.rs i v (by rw [e1]; exact hv), fun nm B hB => A.bl nm B (by rw [e3]; exact hB), fun nm B hB => A.rb nm B (by rw [e2]; exact hB)⟩
      have hv' : getS (l ++ keyOut (os.filterMap fun o => o.dst) st.t) i = some v := hv
      rw [getS_app] at hv'
      cases hq : getS l i with
      | some w =>
        rw [hq] at hv'; simp only [Option.some_or, Option.some.injEq] at hv'; subst hv'
        obtain ⟨x, y, q1, q2, q3⟩ := mrgT_ok hl hq
        rw [iteS_ok q3, hc, A.gt q2]
        cases b <;> simp
      | none =>
        rw [hq] at hv'; simp only [Option.none_or] at hv'
        obtain ⟨k1, k2⟩ := keyOut_ok hv'
        exact A.sl i v (by rw [p2 i k1]; exact k2)
    · have := r2.inj; rw [e4] at this; exact this
    · have := r2.lt; rw [e4] at this; exact this
    · have := r2.ml; rw [e3, e4] at this; exact this
    · have := r2.rl; rw [e2, e4] at this; exact this
end
open Go.RowKit
section
variable {τ : Type} {dn : τ → Type} [DecidableEq τ]
inductive LA (τ : Type) (dn : τ → Type) where
  | inv (vs : List (VK τ)) (I : VT dn vs → Prop) (m : VT dn vs → Nat)
  | unr (m : Nat)
def AC.nl : AC → Nat
  | .seq a b => a.nl + b.nl
  | .cond _ a b => a.nl + b.nl
  | .block _ a => a.nl
  | .loop a => a.nl + 1
  | _ => 0
def AC.asg : AC → List Nat
  | .seq a b => a.asg ++ b.asg
  | .cond _ a b => a.asg ++ b.asg
  | .block _ a => a.asg
  | .loop a => a.asg
  | .reg os _ => os.filterMap AOper.dst
  | _ => []
def adopt1 (D : TD τ dn) (st : SS τ dn) : VK τ → SS τ dn
  | .ow i t => match st.gt i with
    | some .emp => bif Nat.blt 0 (D.sz t) && (getS st.rt i).isNone then ⟨st.rt, st.rm, (i, .own st.nx (D.sz t)) :: st.t, (st.nx, some (.bl t [])) :: st.m, st.nx + 1⟩ else st
    | _ => st
  | _ => st
def adopt (D : TD τ dn) : SS τ dn → List (VK τ) → SS τ dn
  | st, [] => st
  | st, v :: r => adopt D (adopt1 D st v) r
def unrW (B : SS τ dn → (Ex → SS τ dn → Prop) → Prop) : Nat → SS τ dn → (Ex → SS τ dn → Prop) → Prop
  | 0, _, _ => False
  | m + 1, st, K => B st fun e st' => match e with
    | .normal => unrW B m st' K
    | e => K e st'
def okB (vs : List (VK τ)) (T : List Nat) (st : SS τ dn) (p : Nat → Bool) (ft : List (Nat × SV τ dn)) (fm : List (Nat × Option (SB τ dn))) : Bool :=
  (st.rt.all fun q => q.2.fr p && !hasN (slotsV vs) q.1 && (getS ft q.1).isNone) && (st.rm.all fun q => p q.1 && (match q.2 with | some B => B.fr p | none => true) && (getS fm q.1).isNone) &&
  okT (lessB st.nx) vs T && okT (fun a => !hasN (movesV vs T) a) (vs.filter fun v => !isOw v) ((vs.zip T).filterMap fun q => bif isOw q.1 then none else some q.2) && nodupB (movesV vs T)
def nextB (vs : List (VK τ)) (T A : List Nat) (nx nx' : Nat) : Bool :=
  nodupB ((List.range nx).map (mvN vs T A)) && ((List.range nx).all fun a => lessB nx' (mvN vs T A a)) && (vs.zip (T.zip A)).all fun q => isSl q.1 || (Nat.beq (mvN vs T A q.2.1) q.2.2 && (isOw q.1 || Nat.beq q.2.1 q.2.2))
def keepP (vs : List (VK τ)) (T : List Nat) (nx : Nat) (a : Nat) : Bool := lessB nx a && !hasN (movesV vs T) a
def loopW1 (D : TD τ dn) (fl : Nat) (vs : List (VK τ)) (I : VT dn vs → Prop) (ms : VT dn vs → Nat) (B : SS τ dn → (Ex → SS τ dn → Prop) → Prop) (st : SS τ dn) (K : Ex → SS τ dn → Prop) (T : List Nat) (x0 : VT dn vs) (ft : List (Nat × SV τ dn)) (fm : List (Nat × Option (SB τ dn))) : Prop :=
  bif okB vs T st (keepP vs T st.nx) ft fm && (movesV vs T).all (Nat.ble fl) then I x0 ∧ allV vs fun x => I x → B ⟨ft ++ st.rt, fm ++ st.rm, putT D vs T x, putM D vs T x, st.nx⟩ fun e st' => match e with
    | .normal => match getVs D st' vs with
      | some x' => bif nextB vs T (vs.map (nmV st')) st.nx st'.nx then I x' ∧ ms x' < ms x else False
      | none => False
    | e => K e ⟨st.rt, st.rm, st'.t ++ ft, st'.m ++ fm, st'.nx⟩
  else False
def loopW (D : TD τ dn) (fl : Nat) (vs : List (VK τ)) (I : VT dn vs → Prop) (ms : VT dn vs → Nat) (asg : List Nat) (B : SS τ dn → (Ex → SS τ dn → Prop) → Prop) (st : SS τ dn) (K : Ex → SS τ dn → Prop) : Prop :=
  match getVs D st vs with
  | none => False
  | some x0 => loopW1 D fl vs I ms B st K (vs.map (nmV st)) x0 (cleanT (keepP vs (vs.map (nmV st)) st.nx) (slotsV vs ++ asg) st.t) (cleanM (keepP vs (vs.map (nmV st)) st.nx) (namesV vs (vs.map (nmV st))) st.m)
def mrgC (C : Cfg τ dn) (n : Nat) (c : Cn) (a b : AC) (st : SS τ dn) : Option (List Prop × SS τ dn) :=
  match a, b with
  | .skip, .reg os none => mrgS C n c true os st
  | .reg os none, .skip => mrgS C n c false os st
  | _, _ => none
def wpC (C : Cfg τ dn) (n : Nat) (an : Nat → Option (LA τ dn)) : AC → Nat → SS τ dn → (Ex → SS τ dn → Prop) → Prop
  | .skip, _, st, K => K .normal st
  | .ret, _, st, K => K .ret st
  | .exit i, _, st, K => K (.exit i) st
  | .seq a b, k, st, K => wpC C n an a k st fun e st' => match e with
    | .normal => wpC C n an b (k + a.nl) st' K
    | e => K e st'
  | .cond c a b, k, st, K => match st.ev c with
    | some (.vt true) => wpC C n an a k st K
    | some (.vt false) => wpC C n an b (k + a.nl) st K
    | some (.vb c) => match mrgC C n c a b st with
      | some (O, st') => obl O (K .normal st')
      | none => (c.tf true → wpC C n an a k st K) ∧ (c.tf false → wpC C n an b (k + a.nl) st K)
    | _ => False
  | .block i a, k, st, K => wpC C n an a k st fun e st' => K (e.blk i) st'
  | .loop a, k, st, K => match an k with
    | some (.unr m) => unrW (wpC C n an a (k + 1)) m st K
    | some (.inv vs I ms) => loopW C.D C.fl vs I ms a.asg (wpC C n an a (k + 1)) (adopt C.D st vs) K
    | none => False
  | .reg os dep, _, st, K => wpOps C n dep os [] st (K .normal)
  | .rng _ _ _ _, _, _, _ => False
def Ends (C : Cfg τ dn) (n k0 : Nat) (ac : AC) (N : Nms) (st : SS τ dn) (s : S3) (K : Ex → SS τ dn → Prop) : Prop :=
  ∃ e s' N' st', ED C.P n k0 ac s e s' ∧ Rel C.D N' st' s' ∧ st'.rt = st.rt ∧ st'.rm = st.rm ∧ (N.agree C.fl N' ∧ C.fl ≤ st'.nx) ∧ K e st'
theorem agree_le {n m : Nat} {N N' : Nms} (h : N.agree m N') (hn : n ≤ m) : N.agree n N' := ⟨fun a ha => h.1 a (Nat.lt_of_lt_of_le ha hn), h.2⟩
end
section
variable {τ : Type} {dn : τ → Type}
theorem adopt_rel {D : TD τ dn} {n k0 : Nat} : ∀ {vs : List (VK τ)} {N : Nms} {st : SS τ dn} {s : S3}, Rel D N st s → ∃ s' N', s.Le k0 n s' ∧ Rel D N' (adopt D st vs) s' ∧ (adopt D st vs).rt = st.rt ∧ (adopt D st vs).rm = st.rm ∧ N.agree st.nx N' ∧ st.nx ≤ (adopt D st vs).nx
  | [], N, st, s, R => ⟨s, N, S3.Le.refl', R, rfl, rfl, N.agree_refl _, Nat.le_refl _⟩
  | v :: r, N, st, s, R => by
    have one : ∃ s' N', s.Le k0 n s' ∧ Rel D N' (adopt1 D st v) s' ∧ (adopt1 D st v).rt = st.rt ∧ (adopt1 D st v).rm = st.rm ∧ N.agree st.nx N' ∧ st.nx ≤ (adopt1 D st v).nx := by
      have no : ∃ s' N', s.Le k0 n s' ∧ Rel D N' st s' ∧ st.rt = st.rt ∧ st.rm = st.rm ∧ N.agree st.nx N' ∧ st.nx ≤ st.nx := ⟨s, N, S3.Le.refl', R, rfl, rfl, N.agree_refl _, Nat.le_refl _⟩
      cases v with
      | ow i t =>
        simp only [adopt1]
        split
        · rename_i hg
          cases hb : (Nat.blt 0 (D.sz t) && (getS st.rt i).isNone) with
          | false => rw [cond_false]; exact no
          | true =>
            rw [cond_true]
            rw [Bool.and_eq_true] at hb
            have hz : D.sz t ≠ 0 := Nat.ne_of_gt (Nat.le_of_ble_eq_true hb.1)
            have hσ : s.σ i = .emp := R.here.gt hg
            refine ⟨_, N.upd st.nx s.k 0, S3.le_adopt hσ hz, ?_, rfl, rfl, N.upd_agree _ _ _, Nat.le_succ _⟩
            have := R.go (n := i + 1) (d := some i) (r := .new [] (.own st.nx (D.sz t)) (.bl t [])) (by simp only [dstS, Bool.and_eq_true]; exact ⟨Nat.ble_eq_true_of_le (Nat.le_refl _), hb.2⟩) trivial (val := .own s.k (D.sz t) 0 0) (ups := [(s.k, some ⟨D.sz t, []⟩)]) (fun N' hN => by
              simp only [SR.v, SV.av]
              have h1 := hN.1 st.nx (Nat.lt_succ_self _)
              simp only [SR.up, Nms.upd, if_true] at h1
              rw [h1.1, h1.2]; rfl) (fun N' hN => rfl)
            refine cast ?_ this
            congr 2
            funext j
            simp only [putσ, Option.some.injEq]
            by_cases hj : j = i
            · subst hj; rw [if_pos ⟨rfl, Nat.lt_succ_self _⟩, if_pos rfl]
            · rw [if_neg (fun hh => hj hh.1.symm), if_neg hj]
        · exact no
      | _ => exact no
    obtain ⟨s1, N1, h1, h2, h3, h4, h5, h6⟩ := one
    obtain ⟨s2, N2, q1, q2, q3, q4, q5, q6⟩ := adopt_rel (vs := r) h2
    exact ⟨s2, N2, h1.trans' q1, q2, q3.trans h3, q4.trans h4, Nms.agree_trans h5 q5 h6, Nat.le_trans h6 q6⟩
mutual
theorem SV.fr_mono {p q : Nat → Bool} (h : ∀ a, p a = true → q a = true) : ∀ (v : SV τ dn), v.fr p = true → v.fr q = true
  | .own nm sz, hv | .part nm sz _ _, hv | .ref nm sz _ _, hv | .mp nm, hv => by simp only [SV.fr] at hv ⊢; exact h nm hv
  | .agg cs, hv | .tup cs, hv | .fn _ cs, hv | .bf _ cs, hv | .pim cs _, hv => by simp only [SV.fr] at hv ⊢; exact SV.frL_mono h cs hv
  | .vc _ els, hv => by simp only [SV.fr] at hv ⊢; exact SV.frM_mono h els hv
  | .vg p c v, hv => by simp only [SV.fr] at hv ⊢; exact SV.fr_mono h v hv
  | .vl _ _, _ | .vi _, _ | .vn _, _ | .vy _, _ | .vu _, _ | .vw _ _, _ | .vb _, _ | .vt _, _ | .vz _, _ | .vo _, _ | .emp, _ | .dead, _ => by simp only [SV.fr]
theorem SV.frL_mono {p q : Nat → Bool} (h : ∀ a, p a = true → q a = true) : ∀ (cs : List (SV τ dn)), SV.frL p cs = true → SV.frL q cs = true
  | [], _ => rfl
  | v :: r, hv => by simp only [SV.frL, Bool.and_eq_true] at hv ⊢; exact ⟨SV.fr_mono h v hv.1, SV.frL_mono h r hv.2⟩
theorem SV.frM_mono {p q : Nat → Bool} (h : ∀ a, p a = true → q a = true) : ∀ (els : List (List (SV τ dn))), SV.frM p els = true → SV.frM q els = true
  | [], _ => rfl
  | v :: r, hv => by simp only [SV.frM, Bool.and_eq_true] at hv ⊢; exact ⟨SV.frL_mono h v hv.1, SV.frM_mono h r hv.2⟩
end
theorem SB.fr_mono {p q : Nat → Bool} (h : ∀ a, p a = true → q a = true) (B : SB τ dn) (hB : B.fr p = true) : B.fr q = true := by
  cases B with
  | bl t xs => rfl
  | bc sz els => simp only [SB.fr] at hB ⊢; exact SV.frM_mono h els hB
  | mc els => simp only [SB.fr] at hB ⊢; exact SV.frM_mono h els hB
def resS (D : TD τ dn) (st : SS τ dn) : List ARes → Option (List Prop × List (SV τ dn))
  | [] => some ([], [])
  | .tmp i :: r => match st.gt i, resS D st r with
    | some v, some (O, l) => some (O, v :: l)
    | _, _ => none
  | .cell i m :: r => match st.gt i, resS D st r with
    | some a, some (O, l) => match oLoad D st m a with
      | some (.val O' v) => some (O' ++ O, v :: l)
      | _ => none
    | _, _ => none
def startS (vs : List (SV τ dn)) (i : Nat) : List (Nat × SV τ dn) := match vs with
  | [] => []
  | v :: r => (i, v) :: startS r (i + 1)
theorem startS_get {i : Nat} : ∀ {vs : List (SV τ dn)} {k : Nat} {v : SV τ dn}, getS (startS vs k) i = some v → k ≤ i ∧ vs[i - k]? = some v
  | [], k, v, h => by simp [startS, getS] at h
  | w :: r, k, v, h => by
    simp only [startS, getS_cons] at h
    by_cases hi : i = k
    · rw [if_pos hi, Option.some.injEq] at h
      subst h; subst hi; exact ⟨Nat.le_refl _, by simp⟩
    · rw [if_neg hi] at h
      obtain ⟨h1, h2⟩ := startS_get h
      refine ⟨by omega, ?_⟩
      rw [show i - k = (i - (k + 1)) + 1 by omega, List.getElem?_cons_succ]; exact h2
theorem loadA_ok {D : TD τ dn} {N : Nms} {st : SS τ dn} {σ : Nat → AV} {g : Nat → Option Bk} (ok : TDok D) (R : RelAt D N st σ g) {m : Option Nat} {i : Nat} {a : SV τ dn} (hx : st.gt i = some a) {O : List Prop} {v : SV τ dn} (h : oLoad D st m a = some (.val O v)) (hO : ∀ p, p ∈ O → p) : (loadA m (σ i)).run g = some (v.av D.toTE N) := by
  have e := oLoad_ok ok R (x := .s i) hx h 0 hO trivial
  have hs : argσ σ (.s i) = σ i := rfl
  simp only [AO.sem, hs] at e
  unfold loadA
  cases hσ : σ i <;> rw [hσ] at e <;> simp only at e ⊢
  case pim cs o =>
    cases hg : getCells cs o m with
    | none => rw [hg] at e; simp [RM.opt, RM.run] at e
    | some w => rw [hg] at e; simp only [Option.map_some, RM.opt, RM.run, Option.some.injEq, Out.done.injEq] at e; simp only [RM.opt, RM.run, e.1]; rfl
  case ref id sz j o =>
    simp only [RM.run] at e ⊢
    cases hg : g id with
    | none => rw [hg] at e; simp at e
    | some B =>
      rw [hg] at e
      simp only at e ⊢
      split at e
      · rename_i hz
        rw [if_pos hz]
        cases hq : (B.els[j]?.bind fun cs => getCells cs o m) with
        | none => rw [hq] at e; simp [RM.opt, RM.run] at e
        | some w => rw [hq] at e; simp only [Option.map_some, RM.opt, RM.run, Option.some.injEq, Out.done.injEq] at e; simp only [RM.opt, RM.run, e.1]; rfl
      · simp [RM.run] at e
  all_goals simp [RM.run] at e
theorem resS_ok {D : TD τ dn} {N : Nms} {st : SS τ dn} {σ : Nat → AV} {g : Nat → Option Bk} (ok : TDok D) (R : RelAt D N st σ g) : ∀ {res : List ARes} {O : List Prop} {l : List (SV τ dn)}, resS D st res = some (O, l) → (∀ p, p ∈ O → p) → (resL σ res).run g = some (l.map (SV.av D.toTE N))
  | [], O, l, h, hO => by simp only [resS, Option.some.injEq, Prod.mk.injEq] at h; obtain ⟨_, rfl⟩ := h; rfl
  | .tmp i :: r, O, l, h, hO => by
    simp only [resS] at h
    split at h
    · rename_i v O' l' h1 h2
      simp only [Option.some.injEq, Prod.mk.injEq] at h; obtain ⟨rfl, rfl⟩ := h
      simp only [resL]
      rw [run_bindS (resS_ok ok R h2 hO)]
      simp only [RM.run, List.map_cons, R.gt h1]
    · simp at h
  | .cell i m :: r, O, l, h, hO => by
    simp only [resS] at h
    split at h
    · rename_i a O' l' h1 h2
      split at h
      · rename_i O2 v h3
        simp only [Option.some.injEq, Prod.mk.injEq] at h; obtain ⟨rfl, rfl⟩ := h
        simp only [resL]
        rw [run_bindS (loadA_ok ok R h1 h3 fun p hp => hO p (List.mem_append_left _ hp)), run_bindS (resS_ok ok R h2 fun p hp => hO p (List.mem_append_right _ hp))]
        rfl
      · simp at h
    · simp at h
theorem snapMS_len {D : TD τ dn} {st : SS τ dn} : ∀ {l l' : List (SV τ dn)}, snapMS D st l = some l' → l.length = l'.length
  | [], l', h => by simp only [snapMS, Option.some.injEq] at h; subst h; rfl
  | v :: r, l', h => by
    simp only [snapMS] at h
    split at h
    · rename_i x l2 h1 h2
      simp only [Option.some.injEq] at h; subst h; simp [snapMS_len h2]
    · simp at h
theorem snapR_one {a a' : AV} {g : Nat → Option Bk} (h : (snapA a).run g = some a') : (snapR a).run g = some a' := by
  cases a <;> first
    | exact h
    | (simp [snapA, snap1, AV.pu1, RM.run] at h)
theorem en_pu {D : TD τ dn} (ok : TDok D) {N N' : Nms} (t : τ) (x : dn t) (h : D.pu t = true) : (D.en t x).av D.toTE N = (D.en t x).av D.toTE N' := by
  have e : (D.es t x).map (SV.av D.toTE N) = (D.es t x).map (SV.av D.toTE N') := by rw [ok.es_av, ok.es_av, ok.pρ _ N'.ρ t x h]
  cases ha : D.ag t with
  | true => rw [en_ag ha, SV.av, SV.av, SV.avL_map, SV.avL_map, e]
  | false =>
    unfold TD.en
    rw [ha, cond_false]
    cases hs : D.es t x with
    | nil => rfl
    | cons v r => rw [hs] at e; simp only [List.map_cons, List.cons.injEq] at e; exact e.1
theorem enR_pu {D : TD τ dn} (ok : TDok D) {N N' : Nms} : ∀ (rs : List τ) (x : RD dn rs), rs.all D.pu = true → (enR D rs x).map (SV.av D.toTE N) = (enR D rs x).map (SV.av D.toTE N')
  | [], _, _ => rfl
  | [t], x, h => by simp only [List.all_cons, List.all_nil, Bool.and_true] at h; simp only [enR, List.map_cons, List.map_nil]; rw [en_pu ok (N := N) (N' := N') t x h]
  | t :: s :: r, x, h => by
    rw [List.all_cons, Bool.and_eq_true] at h
    simp only [enR, List.map_cons]; rw [en_pu ok (N := N) (N' := N') t x.1 h.1, enR_pu ok (N := N) (N' := N') (s :: r) x.2 h.2]
theorem nodupB_inj {f : Nat → Nat} : ∀ {n m : Nat}, nodupB ((List.range' m n).map f) = true → ∀ a b, m ≤ a → a < m + n → m ≤ b → b < m + n → f a = f b → a = b
  | 0, m, h, a, b, h1, h2, h3, h4, he => by omega
  | n + 1, m, h, a, b, h1, h2, h3, h4, he => by
    rw [List.range'_succ, List.map_cons] at h
    simp only [nodupB, Bool.and_eq_true, Bool.not_eq_true'] at h
    have hno : ∀ c, m + 1 ≤ c → c < m + 1 + n → f m ≠ f c := fun c k1 k2 e => by
      have : hasN ((List.range' (m + 1) n).map f) (f m) = true := hasN_iff.2 (List.mem_map.2 ⟨c, List.mem_range'_1.2 ⟨k1, k2⟩, e.symm⟩)
      rw [this] at h; simp at h
    by_cases ha : a = m <;> by_cases hb : b = m
    · omega
    · subst ha; exact absurd he (hno b (by omega) (by omega))
    · subst hb; exact absurd he.symm (hno a (by omega) (by omega))
    · exact nodupB_inj h.2 a b (by omega) (by omega) (by omega) (by omega) he
theorem unr_ok {C : Cfg τ dn} {n k0 : Nat} {a : AC} {B : SS τ dn → (Ex → SS τ dn → Prop) → Prop} (hB : ∀ {st : SS τ dn} {K : Ex → SS τ dn → Prop} {N : Nms} {s : S3}, Rel C.D N st s → C.fl ≤ st.nx → B st K → Ends C n k0 a N st s K) :
    ∀ (m : Nat) {st : SS τ dn} {K : Ex → SS τ dn → Prop} {N : Nms} {s : S3}, Rel C.D N st s → C.fl ≤ st.nx → unrW B m st K → ∃ e s' j N2 st', Ch C.P n k0 a e s' j s ∧ Rel C.D N2 st' s' ∧ st'.rt = st.rt ∧ st'.rm = st.rm ∧ (N.agree C.fl N2 ∧ C.fl ≤ st'.nx) ∧ K e st'
  | 0, st, K, N, s, R, hl, h => h.elim
  | m + 1, st, K, N, s, R, hl, h => by
    obtain ⟨e, s1, N1, st1, e1, R1, r1, r2, r3, hk⟩ := hB R hl h
    cases e with
    | normal =>
      obtain ⟨e, s2, j, N2, st2, c1, c2, c3, c4, c5, c6⟩ := unr_ok hB m R1 r3.2 hk
      exact ⟨e, s2, j + 1, N2, st2, .step e1 S3.Le.refl' c1, c2, c3.trans r1, c4.trans r2, ⟨Nms.agree_trans r3.1 c5.1 (Nat.le_refl _), c5.2⟩, c6⟩
    | exit i => exact ⟨_, s1, 0, N1, st1, .last e1 (by simp), R1, r1, r2, r3, hk⟩
    | ret => exact ⟨_, s1, 0, N1, st1, .last e1 (by simp), R1, r1, r2, r3, hk⟩
variable [DecidableEq τ]
theorem loop_round {C : Cfg τ dn} (hC : C.Ok) {n k0 : Nat} {a : AC} {B : SS τ dn → (Ex → SS τ dn → Prop) → Prop} (hB : ∀ {st : SS τ dn} {K : Ex → SS τ dn → Prop} {N : Nms} {s : S3}, Rel C.D N st s → C.fl ≤ st.nx → B st K → Ends C n k0 a N st s K) {vs : List (VK τ)} {I : VT dn vs → Prop} {ms : VT dn vs → Nat}
    {st : SS τ dn} {K : Ex → SS τ dn → Prop} {T : List Nat} {ft : List (Nat × SV τ dn)} {fm : List (Nat × Option (SB τ dn))} (hT : vs.map (nmV st) = T) (hTl : T.length = vs.length) (kp : ∀ {a}, keepP vs T st.nx a = true → a < st.nx ∧ ¬ a ∈ movesV vs T) (hle : ∀ a, keepP vs T st.nx a = true → lessB st.nx a = true)
    (aT : ∀ {i v}, getS (ft ++ st.rt) i = some v → (getS ft i = some v ∨ getS st.rt i = some v) ∧ v.fr (keepP vs T st.nx) = true ∧ ¬ i ∈ slotsV vs) (aM : ∀ {i v}, getS (fm ++ st.rm) i = some v → (getS fm i = some v ∨ getS st.rm i = some v) ∧ (∀ B, v = some B → B.fr (keepP vs T st.nx) = true) ∧ keepP vs T st.nx i = true)
    (fT : ∀ {i v}, getS ft i = some v → getS st.t i = some v ∧ v.fr (keepP vs T st.nx) = true ∧ ¬ i ∈ slotsV vs) (fM : ∀ {i v}, getS fm i = some v → getS st.m i = some v ∧ (∃ B, v = some B ∧ B.fr (keepP vs T st.nx) = true) ∧ keepP vs T st.nx i = true)
    (rT : ∀ {i v}, getS st.rt i = some v → v.fr (keepP vs T st.nx) = true ∧ ¬ i ∈ slotsV vs ∧ getS ft i = none) (rM : ∀ {i v}, getS st.rm i = some v → keepP vs T st.nx i = true ∧ (∀ B, v = some B → B.fr (keepP vs T st.nx) = true) ∧ getS fm i = none) (o3 : okT (lessB st.nx) vs T = true) (hfl : C.fl ≤ st.nx) (hmv : (movesV vs T).all (Nat.ble C.fl) = true)
    {x : VT dn vs} {N : Nms} {s : S3} (h : B ⟨ft ++ st.rt, fm ++ st.rm, putT C.D vs T x, putM C.D vs T x, st.nx⟩ fun e st' => match e with
      | .normal => match getVs C.D st' vs with
        | some x' => bif nextB vs T (vs.map (nmV st')) st.nx st'.nx then I x' ∧ ms x' < ms x else False
        | none => False
      | e => K e ⟨st.rt, st.rm, st'.t ++ ft, st'.m ++ fm, st'.nx⟩) (R : Rel C.D N ⟨ft ++ st.rt, fm ++ st.rm, putT C.D vs T x, putM C.D vs T x, st.nx⟩ s)
    (next : ∀ x', ms x' < ms x → I x' → ∀ N2 s2, Rel C.D N2 ⟨ft ++ st.rt, fm ++ st.rm, putT C.D vs T x', putM C.D vs T x', st.nx⟩ s2 → ∃ e s' j N3 st', Ch C.P n k0 a e s' j s2 ∧ Rel C.D N3 st' s' ∧ st'.rt = st.rt ∧ st'.rm = st.rm ∧ (N2.agree C.fl N3 ∧ C.fl ≤ st'.nx) ∧ K e st') :
    ∃ e s' j N2 st', Ch C.P n k0 a e s' j s ∧ Rel C.D N2 st' s' ∧ st'.rt = st.rt ∧ st'.rm = st.rm ∧ (N.agree C.fl N2 ∧ C.fl ≤ st'.nx) ∧ K e st' := by
  obtain ⟨e, s1, N1, st1, e1, R1, hr1, hr2, hr3, hk⟩ := hB R hfl h
  have leave : e ≠ .normal → K e ⟨st.rt, st.rm, st1.t ++ ft, st1.m ++ fm, st1.nx⟩ → ∃ e s' j N2 st', Ch C.P n k0 a e s' j s ∧ Rel C.D N2 st' s' ∧ st'.rt = st.rt ∧ st'.rm = st.rm ∧ (N.agree C.fl N2 ∧ C.fl ≤ st'.nx) ∧ K e st' := fun hne hk => by
    refine ⟨e, s1, 0, N1, ⟨st.rt, st.rm, st1.t ++ ft, st1.m ++ fm, st1.nx⟩, .last e1 hne, ⟨fun N' hN => ?_, R1.inj, R1.lt, fun nm B h => ?_, fun nm B h => ?_⟩, rfl, rfl, hr3, hk⟩
    · have A := R1.at_ N' hN
      have ft2 : ∀ i v, getS ft i = some v → getS st1.rt i = some v := fun i v h => by rw [hr1]; show getS (ft ++ st.rt) i = _; rw [getS_app, h]; rfl
      have rt2 : ∀ i v, getS st.rt i = some v → getS st1.rt i = some v := fun i v h => by rw [hr1]; show getS (ft ++ st.rt) i = _; rw [getS_app, (rT h).2.2]; exact h
      have fm2 : ∀ i v, getS fm i = some v → getS st1.rm i = some v := fun i v h => by rw [hr2]; show getS (fm ++ st.rm) i = _; rw [getS_app, h]; rfl
      have rm2 : ∀ i v, getS st.rm i = some v → getS st1.rm i = some v := fun i v h => by rw [hr2]; show getS (fm ++ st.rm) i = _; rw [getS_app, (rM h).2.2]; exact h
      refine ⟨fun i v h => ?_, fun i v h => A.rs i v (rt2 i v h), fun nm B h => ?_, fun nm B h => A.rb nm B (rm2 nm _ h)⟩
      · have h' : getS (st1.t ++ ft) i = some v := h
        rw [getS_app] at h'
        cases hq : getS st1.t i with
        | some w => rw [hq] at h'; simp only [Option.some_or, Option.some.injEq] at h'; subst h'; exact A.sl i _ hq
        | none => rw [hq] at h'; simp only [Option.none_or] at h'; exact A.rs i v (ft2 i v h')
      · have h' : getS (st1.m ++ fm) nm = some (some B) := h
        rw [getS_app] at h'
        cases hq : getS st1.m nm with
        | some w => rw [hq] at h'; simp only [Option.some_or, Option.some.injEq] at h'; subst h'; exact A.bl nm _ hq
        | none => rw [hq] at h'; simp only [Option.none_or] at h'; exact A.rb nm B (fm2 nm _ h')
    · have h' : getS (st1.m ++ fm) nm = some B := h
      rw [getS_app] at h'
      cases hq : getS st1.m nm with
      | some w => exact R1.ml nm w hq
      | none => rw [hq] at h'; simp only [Option.none_or] at h'; exact R1.rl nm B (by rw [hr2]; show getS (fm ++ st.rm) nm = _; rw [getS_app, h']; rfl)
    · exact R1.rl nm B (by rw [hr2]; show getS (fm ++ st.rm) nm = _; rw [getS_app, (rM h).2.2]; exact h)
  cases e with
  | exit i => exact leave (by simp) hk
  | ret => exact leave (by simp) hk
  | normal =>
    simp only at hk
    split at hk
    case h_2 => exact hk.elim
    rename_i x' hx'
    generalize hA : vs.map (nmV st1) = A at hk
    cases hn : nextB vs T A st.nx st1.nx with
    | false => rw [hn] at hk; exact hk.elim
    | true =>
      rw [hn, cond_true] at hk
      unfold nextB at hn
      simp only [Bool.and_eq_true] at hn
      obtain ⟨⟨n1, n2⟩, n3⟩ := hn
      have hV := getVs_ok hC.ok R1.here hx'
      rw [hA] at hV
      have hAl : A.length = vs.length := by rw [← hA, List.length_map]
      have hfl' : ∀ c, c < st.nx → mvN vs T A c < st1.nx := fun c hc => lessB_lt ((List.all_eq_true.1 n2) c (List.mem_range.2 hc))
      have hinj : ∀ c d, c < st.nx → d < st.nx → mvN vs T A c = mvN vs T A d → c = d := fun c d hc hd he => by
        rw [List.range_eq_range'] at n1
        exact nodupB_inj n1 c d (Nat.zero_le _) (by omega) (Nat.zero_le _) (by omega) he
      obtain ⟨N2, hN2⟩ : ∃ N2 : Nms, N2 = ⟨fun c => N1.ι (mvN vs T A c), fun c => N1.ln (mvN vs T A c), N1.ρ⟩ := ⟨_, rfl⟩
      have hsame : N1.same (keepP vs T st.nx) N2 := by
        refine ⟨fun c hc => ?_, by rw [hN2]⟩
        rw [hN2]; simp only [mvN_not (kp hc).2, and_self]
      have hV2 : VarsAt C.D N2 s1.σ s1.g vs T x' := by
        refine vars_move C.D (by rw [hN2]) hC.ok hV (by rw [hTl, hAl]) fun j v c m h0 h1 h2 => ?_
        have hz : (v, c, m) ∈ vs.zip (T.zip A) := by
          refine List.mem_of_getElem? (i := j) ?_
          rw [List.getElem?_zip_eq_some, List.getElem?_zip_eq_some]
          exact ⟨h0, h1, h2⟩
        have := (List.all_eq_true.1 n3) _ hz
        simp only [Bool.or_eq_true, Bool.and_eq_true] at this
        rcases this with h | ⟨h, h'⟩
        · exact .inl h
        · have e := Nat.eq_of_beq_eq_true h
          refine .inr ⟨by rw [hN2]; simp only [e], by rw [hN2]; simp only [e], ?_⟩
          rcases h' with h' | h'
          · exact .inl h'
          · exact .inr (Nat.eq_of_beq_eq_true h')
      obtain ⟨s2, w2, R2⟩ := tmpl_rel (n := n) (k0 := k0) hC.ok (rt := ft ++ st.rt) (rm := fm ++ st.rm) (nx := st.nx) hV2 o3 hTl (fun i v h => by
          obtain ⟨_, h2, h3⟩ := aT h
          refine ⟨?_, SV.fr_mono hle v h2, h3⟩
          rw [fr_av hsame v h2]
          exact R1.here.rs i v (by rw [hr1]; exact h)) (fun nm B h => by
          obtain ⟨_, h2, h3⟩ := aM h
          refine ⟨(kp h3).1, fun B' hB' => ?_⟩
          subst hB'
          obtain ⟨q1, q2⟩ := R1.here.rb nm B' (by rw [hr2]; exact h)
          obtain ⟨p1, p2⟩ := hsame.1 nm h3
          exact ⟨by rw [p1, frB_av hsame B' (h2 B' rfl)]; exact q1, by rw [p2]; exact q2, SB.fr_mono hle B' (h2 B' rfl)⟩)
        (fun c d hc hd he => hinj c d hc hd (R1.inj _ _ (hfl' c hc) (hfl' d hd) (by rw [hN2] at he; exact he))) (fun c hc => by rw [hN2]; exact R1.lt _ (hfl' c hc))
      obtain ⟨e, s', j, N3, st', c1, c2, c3, c4, c5, c6⟩ := next x' hk.2 hk.1 N2 s2 R2
      have hag : N1.agree C.fl N2 := ⟨fun c hc => by
        have hno : ¬ c ∈ movesV vs T := fun hm => absurd (Nat.le_of_ble_eq_true (List.all_eq_true.1 hmv c hm)) (by omega)
        rw [hN2]; simp only [mvN_not hno, and_self], by rw [hN2]⟩
      exact ⟨e, s', j + 1, N3, st', .step e1 w2 c1, c2, c3, c4, ⟨Nms.agree_trans (Nms.agree_trans hr3.1 hag (Nat.le_refl _)) c5.1 (Nat.le_refl _), c5.2⟩, c6⟩
theorem loop_ok {C : Cfg τ dn} (hC : C.Ok) {n k0 : Nat} {a : AC} {B : SS τ dn → (Ex → SS τ dn → Prop) → Prop} (hB : ∀ {st : SS τ dn} {K : Ex → SS τ dn → Prop} {N : Nms} {s : S3}, Rel C.D N st s → C.fl ≤ st.nx → B st K → Ends C n k0 a N st s K) {vs : List (VK τ)} {I : VT dn vs → Prop} {ms : VT dn vs → Nat} {asg : List Nat}
    {st : SS τ dn} {K : Ex → SS τ dn → Prop} {N : Nms} {s : S3} (R : Rel C.D N st s) (hfl : C.fl ≤ st.nx) (h : loopW C.D C.fl vs I ms asg B st K) : Ends C n k0 (.loop a) N st s K := by
  unfold loopW at h
  split at h
  case h_1 => exact h.elim
  rename_i x0 hx0
  generalize hT : vs.map (nmV st) = T at h
  generalize hft : cleanT (keepP vs T st.nx) (slotsV vs ++ asg) st.t = ft at h
  generalize hfm : cleanM (keepP vs T st.nx) (namesV vs T) st.m = fm at h
  unfold loopW1 at h
  cases hok : okB vs T st (keepP vs T st.nx) ft fm && (movesV vs T).all (Nat.ble C.fl) with
  | false => rw [hok] at h; exact h.elim
  | true =>
  rw [hok, cond_true] at h
  rw [Bool.and_eq_true] at hok
  obtain ⟨hok, hmv⟩ := hok
  obtain ⟨hI0, hall⟩ := h
  rw [allV_iff] at hall
  unfold okB at hok
  simp only [Bool.and_eq_true] at hok
  obtain ⟨⟨⟨⟨o1, o2⟩, o3⟩, o4⟩, o5⟩ := hok
  have hTl : T.length = vs.length := by rw [← hT, List.length_map]
  have kp : ∀ {a}, keepP vs T st.nx a = true → a < st.nx ∧ ¬ a ∈ movesV vs T := fun {a} h => by
    unfold keepP at h
    rw [Bool.and_eq_true] at h
    refine ⟨lessB_lt h.1, fun hm => ?_⟩
    have := h.2
    rw [hasN_iff.2 hm] at this; simp at this
  have hle : ∀ a, keepP vs T st.nx a = true → lessB st.nx a = true := fun a h => by
    unfold keepP at h; rw [Bool.and_eq_true] at h; exact h.1
  have fT : ∀ {i v}, getS ft i = some v → getS st.t i = some v ∧ v.fr (keepP vs T st.nx) = true ∧ ¬ i ∈ slotsV vs := fun {i v} h => by
    rw [← hft] at h
    obtain ⟨h1, h2, h3⟩ := cleanT_ok h
    exact ⟨h1, h2, fun hh => h3 (List.mem_append_left _ hh)⟩
  have fM : ∀ {i v}, getS fm i = some v → getS st.m i = some v ∧ (∃ B, v = some B ∧ B.fr (keepP vs T st.nx) = true) ∧ keepP vs T st.nx i = true := fun {i v} h => by
    rw [← hfm] at h
    obtain ⟨h1, h2, h3, _⟩ := cleanM_ok h
    exact ⟨h1, h2, h3⟩
  have rT : ∀ {i v}, getS st.rt i = some v → v.fr (keepP vs T st.nx) = true ∧ ¬ i ∈ slotsV vs ∧ getS ft i = none := fun {i v} h => by
    have := (List.all_eq_true.1 o1) _ (getS_mem h)
    simp only [Bool.and_eq_true, Bool.not_eq_true', Option.isNone_iff_eq_none] at this
    exact ⟨this.1.1, fun hh => by rw [hasN_iff.2 hh] at this; simp at this, this.2⟩
  have rM : ∀ {i v}, getS st.rm i = some v → keepP vs T st.nx i = true ∧ (∀ B, v = some B → B.fr (keepP vs T st.nx) = true) ∧ getS fm i = none := fun {i v} h => by
    have := (List.all_eq_true.1 o2) _ (getS_mem h)
    simp only [Bool.and_eq_true, Option.isNone_iff_eq_none] at this
    exact ⟨this.1.1, fun B hB => by subst hB; exact this.1.2, this.2⟩
  have aT : ∀ {i v}, getS (ft ++ st.rt) i = some v → (getS ft i = some v ∨ getS st.rt i = some v) ∧ v.fr (keepP vs T st.nx) = true ∧ ¬ i ∈ slotsV vs := fun {i v} h => by
    rw [getS_app] at h
    cases hf : getS ft i with
    | some w => rw [hf] at h; simp only [Option.some_or, Option.some.injEq] at h; subst h; exact ⟨.inl rfl, (fT hf).2⟩
    | none => rw [hf] at h; simp only [Option.none_or] at h; exact ⟨.inr h, (rT h).1, (rT h).2.1⟩
  have aM : ∀ {i v}, getS (fm ++ st.rm) i = some v → (getS fm i = some v ∨ getS st.rm i = some v) ∧ (∀ B, v = some B → B.fr (keepP vs T st.nx) = true) ∧ keepP vs T st.nx i = true := fun {i v} h => by
    rw [getS_app] at h
    cases hf : getS fm i with
    | some w =>
      rw [hf] at h; simp only [Option.some_or, Option.some.injEq] at h; subst h
      obtain ⟨h1, ⟨B, h2, h3⟩, h4⟩ := fM hf
      exact ⟨.inl rfl, fun B' hB' => by rw [h2, Option.some.injEq] at hB'; subst hB'; exact h3, h4⟩
    | none => rw [hf] at h; simp only [Option.none_or] at h; exact ⟨.inr h, (rM h).2.1, (rM h).1⟩
  -- the rounds
  have rounds : ∀ (m : Nat) (x : VT dn vs) (N' : Nms) (s0 : S3), ms x ≤ m → I x → Rel C.D N' ⟨ft ++ st.rt, fm ++ st.rm, putT C.D vs T x, putM C.D vs T x, st.nx⟩ s0 →
      ∃ e s' j N2 st', Ch C.P n k0 a e s' j s0 ∧ Rel C.D N2 st' s' ∧ st'.rt = st.rt ∧ st'.rm = st.rm ∧ (N'.agree C.fl N2 ∧ C.fl ≤ st'.nx) ∧ K e st' := by
    intro m
    induction m with
    | zero =>
      intro x N' s0 hm hI R0
      exact loop_round hC hB hT hTl kp hle aT aM fT fM rT rM o3 hfl hmv (hall x hI) R0 fun x' hlt => absurd hlt (by omega)
    | succ m ih =>
      intro x N' s0 hm hI R0
      exact loop_round hC hB hT hTl kp hle aT aM fT fM rT rM o3 hfl hmv (hall x hI) R0 fun x' hlt hI' N2 s2 R2 => ih x' N2 s2 (by omega) hI' R2
  have hV := getVs_ok hC.ok R.here hx0
  rw [hT] at hV
  obtain ⟨s1, w1, R1⟩ := tmpl_rel (n := n) (k0 := k0) hC.ok (rt := ft ++ st.rt) (rm := fm ++ st.rm) hV o3 hTl (fun i v h => by
      obtain ⟨h1, h2, h3⟩ := aT h
      refine ⟨?_, SV.fr_mono hle v h2, h3⟩
      rcases h1 with h1 | h1
      · exact R.here.sl i v (fT h1).1
      · exact R.here.rs i v h1) (fun nm B h => by
      obtain ⟨h1, h2, h3⟩ := aM h
      refine ⟨(kp h3).1, fun B' hB' => ?_⟩
      subst hB'
      have : s.g (N.ι nm) = some (B'.av C.D.toTE N) ∧ N.ln nm = B'.len := by
        rcases h1 with h1 | h1
        · exact R.here.bl nm B' (fM h1).1
        · exact R.here.rb nm B' h1
      exact ⟨this.1, this.2, SB.fr_mono hle B' (h2 B' rfl)⟩) R.inj R.lt
  obtain ⟨e, s', j, N2, st', c1, c2, c3, c4, c5, c6⟩ := rounds (ms x0) x0 N s1 (Nat.le_refl _) hI0 R1
  exact ⟨e, s', N2, st', ED.weak w1 (ED.loop c1), c2, c3, c4, c5, c6⟩
theorem wpC_ok {C : Cfg τ dn} (hC : C.Ok) {n k0 : Nat} {an : Nat → Option (LA τ dn)} : ∀ (ac : AC) (k : Nat) {st : SS τ dn} {K : Ex → SS τ dn → Prop} {N : Nms} {s : S3}, Rel C.D N st s → C.fl ≤ st.nx → wpC C n an ac k st K → Ends C n k0 ac N st s K
  | .skip, k, st, K, N, s, R, hl, h => ⟨_, s, N, st, ED.skip, R, rfl, rfl, ⟨N.agree_refl _, hl⟩, h⟩
  | .ret, k, st, K, N, s, R, hl, h => ⟨_, s, N, st, ED.ret, R, rfl, rfl, ⟨N.agree_refl _, hl⟩, h⟩
  | .exit i, k, st, K, N, s, R, hl, h => ⟨_, s, N, st, ED.exit, R, rfl, rfl, ⟨N.agree_refl _, hl⟩, h⟩
  | .seq a b, k, st, K, N, s, R, hl, h => by
    simp only [wpC] at h
    obtain ⟨e, s1, N1, st1, e1, R1, r1, r2, r3, hk⟩ := wpC_ok hC a k R hl h
    cases e with
    | normal =>
      obtain ⟨e, s2, N2, st2, e2, R2, q1, q2, q3, hk2⟩ := wpC_ok hC b _ R1 r3.2 hk
      exact ⟨e, s2, N2, st2, ED.seq e1 e2, R2, q1.trans r1, q2.trans r2, ⟨Nms.agree_trans r3.1 q3.1 (Nat.le_refl _), q3.2⟩, hk2⟩
    | exit i => exact ⟨_, s1, N1, st1, ED.seqX e1 (by simp), R1, r1, r2, r3, hk⟩
    | ret => exact ⟨_, s1, N1, st1, ED.seqX e1 (by simp), R1, r1, r2, r3, hk⟩
  | .cond c a b, k, st, K, N, s, R, hl, h => by
    simp only [wpC] at h
    have go : ∀ p : Bool, argσ s.σ c = .v (.bool p) → (p = true → Ends C n k0 a N st s K) → (p = false → Ends C n k0 b N st s K) → Ends C n k0 (.cond c a b) N st s K := fun p hp h1 h2 => by
      cases p with
      | true =>
        obtain ⟨e, s1, N1, st1, e1, R1, r1, r2, r3, hk⟩ := h1 rfl
        exact ⟨e, s1, N1, st1, ED.cond hp (by rw [if_pos rfl]; exact e1), R1, r1, r2, r3, hk⟩
      | false =>
        obtain ⟨e, s1, N1, st1, e1, R1, r1, r2, r3, hk⟩ := h2 rfl
        exact ⟨e, s1, N1, st1, ED.cond hp (by rw [if_neg (by simp)]; exact e1), R1, r1, r2, r3, hk⟩
    split at h
    · rename_i hc
      exact go true (R.here.ev hc) (fun _ => wpC_ok hC a k R hl h) (fun hh => by simp at hh)
    · rename_i hc
      exact go false (R.here.ev hc) (fun hh => by simp at hh) (fun _ => wpC_ok hC b _ R hl h)
    · rename_i c' hc
      split at h
      · rename_i O st' hm
        rw [obl_iff] at h
        obtain ⟨hO, hk⟩ := h
        have idl : ∀ {x : AC}, x = .skip → Rel C.D N st' s → st'.rt = st.rt ∧ st'.rm = st.rm ∧ st'.nx = st.nx → Ends C n k0 x N st s K := fun {x} hx hR hs => by
          subst hx
          exact ⟨_, s, N, st', ED.skip, hR, hs.1, hs.2.1, ⟨N.agree_refl _, by rw [hs.2.2]; exact hl⟩, hk⟩
        have run : ∀ {x : AC} {os : List AOper}, x = .reg os none → (∃ s' N', OpsRun C.P n k0 os s.σ s.g s.k s'.σ s'.g s'.k ∧ Rel C.D N' st' s' ∧ N.agree st.nx N') → st'.rt = st.rt ∧ st'.rm = st.rm ∧ st'.nx = st.nx → Ends C n k0 x N st s K := fun {x os} hx hR hs => by
          subst hx
          obtain ⟨s', N', q1, q2, q3⟩ := hR
          exact ⟨_, s', N', st', ED.reg q1, q2, hs.1, hs.2.1, ⟨agree_le q3 hl, by rw [hs.2.2]; exact hl⟩, hk⟩
        unfold mrgC at hm
        split at hm
        · obtain ⟨q1, q2, q3⟩ := mrgS_ok (k0 := k0) hC hm hO R
          exact go c'.den (R.here.ev hc) (fun hh => idl rfl (q2 hh) q1) (fun hh => run rfl (q3 hh) q1)
        · obtain ⟨q1, q2, q3⟩ := mrgS_ok (k0 := k0) hC hm hO R
          exact go c'.den (R.here.ev hc) (fun hh => run rfl (q3 hh) q1) (fun hh => idl rfl (q2 hh) q1)
        · simp at hm
      exact go c'.den (R.here.ev hc) (fun hh => wpC_ok hC a k R hl (h.1 ((Cn.tf_iff c' true).2 hh))) (fun hh => wpC_ok hC b _ R hl (h.2 ((Cn.tf_iff c' false).2 hh)))
    · exact h.elim
  | .block i a, k, st, K, N, s, R, hl, h => by
    simp only [wpC] at h
    obtain ⟨e, s1, N1, st1, e1, R1, r1, r2, r3, hk⟩ := wpC_ok hC a k R hl h
    exact ⟨_, s1, N1, st1, ED.block e1, R1, r1, r2, r3, hk⟩
  | .loop a, k, st, K, N, s, R, hl, h => by
    simp only [wpC] at h
    split at h
    · rename_i m hm
      obtain ⟨e, s2, j, N2, st2, c1, c2, c3, c4, c5, c6⟩ := unr_ok (fun R hl h => wpC_ok hC a (k + 1) R hl h) m R hl h
      exact ⟨e, s2, N2, st2, ED.loop c1, c2, c3, c4, c5, c6⟩
    · rename_i vs I ms hm
      obtain ⟨s1, N1, w1, R1, r1, r2, r3, r4⟩ := adopt_rel (n := n) (k0 := k0) (vs := vs) R
      obtain ⟨e, s2, N2, st2, e2, R2, q1, q2, q3, hk⟩ := loop_ok hC (fun R hl h => wpC_ok hC a (k + 1) R hl h) R1 (Nat.le_trans hl r4) h
      exact ⟨e, s2, N2, st2, ED.weak w1 e2, R2, q1.trans r1, q2.trans r2, ⟨Nms.agree_trans (agree_le r3 hl) q3.1 (Nat.le_refl _), q3.2⟩, hk⟩
    · exact h.elim
  | .reg os none, k, st, K, N, s, R, hl, h => by
    simp only [wpC] at h
    obtain ⟨s', N', st', e1, R1, r1, r2, r3, hk⟩ := wpOps_seq hC (k0 := k0) R h
    exact ⟨_, s', N', st', ED.reg e1, R1, r1.1, r1.2, ⟨agree_le r2 hl, Nat.le_trans hl r3⟩, hk⟩
  | .reg os (some dep), k, st, K, N, s, R, hl, h => by
    simp only [wpC] at h
    obtain ⟨s', N', st', e1, R1, r1, r2, r3, hk⟩ := wpOps_draw hC R .nil h
    exact ⟨_, s', N', st', ED.draw e1, R1, r1.1, r1.2, ⟨agree_le r2 hl, Nat.le_trans hl r3⟩, hk⟩
  | .rng _ _ _ _, k, st, K, N, s, R, hl, h => by simp only [wpC] at h
def wpF (C : Cfg τ dn) (F : AFn) (an : Nat → Option (LA τ dn)) (vs : List (SV τ dn)) (rs : List τ) (r : RD dn rs) : Prop :=
  bif Nat.ble vs.length F.n && rs.all C.D.pu && Nat.beq C.fl 0 then wpC C F.n an F.code 0 ⟨[], [], startS vs 0, [], 0⟩ fun e st => match e with
    | .exit _ => False
    | _ => match resS C.D st F.res with
      | some (O, l) => match snapMS C.D st l with
        | some l' => match deR C.D rs l' with
          | some y => obl O (y = r)
          | none => False
        | none => False
      | none => False
  else False
theorem wpF_ok {C : Cfg τ dn} (hC : C.Ok) {f : FuncId} {F : AFn} (hF : cFunc C.P f = some F) {an : Nat → Option (LA τ dn)} {vs : List (SV τ dn)} {rs : List τ} {r : RD dn rs} (N : Nms) (hfr : SV.frL (fun _ => false) vs = true) (h : wpF C F an vs rs r) : Fn C.P f (vs.map (SV.av C.D.toTE N)) ((oneS (enR C.D rs r)).av C.D.toTE N) := by
  unfold wpF at h
  cases hb : (Nat.ble vs.length F.n && rs.all C.D.pu && Nat.beq C.fl 0) with
  | false => rw [hb] at h; exact h.elim
  | true =>
  rw [hb, cond_true] at h
  rw [Bool.and_eq_true, Bool.and_eq_true] at hb
  obtain ⟨hb, hz⟩ := hb
  have hz := Nat.eq_of_beq_eq_true hz
  have hl : vs.length ≤ F.n := Nat.le_of_ble_eq_true hb.1
  have R0 : Rel C.D N (⟨[], [], startS vs 0, [], 0⟩ : SS τ dn) ⟨σ0 (vs.map (SV.av C.D.toTE N)), fun _ => none, 0⟩ := by
    refine ⟨fun N' hN => ⟨fun i v hv => ?_, fun i v hv => by simp [getS] at hv, fun nm B hB => by simp [getS] at hB, fun nm B hB => by simp [getS] at hB⟩, fun a b ha => absurd ha (Nat.not_lt_zero _), fun a ha => absurd ha (Nat.not_lt_zero _), fun nm B hB => by simp [getS] at hB, fun nm B hB => by simp [getS] at hB⟩
    obtain ⟨_, h2⟩ := startS_get hv
    rw [Nat.sub_zero] at h2
    have hs : N.same (fun _ => false) N' := ⟨fun a ha => by simp at ha, hN.2⟩
    have hm : ∀ (l : List (SV τ dn)) (j : Nat) w, SV.frL (fun _ => false) l = true → l[j]? = some w → w.fr (fun _ => false) = true := by
      intro l
      induction l with
      | nil => intro j w _ hw; simp at hw
      | cons a l ih =>
        intro j w hl hw
        simp only [SV.frL, Bool.and_eq_true] at hl
        cases j with
        | zero => simp only [List.getElem?_cons_zero, Option.some.injEq] at hw; subst hw; exact hl.1
        | succ j => exact ih j w hl.2 (by simpa using hw)
    show σ0 _ i = _
    unfold σ0
    rw [List.getElem?_map, h2]
    exact (fr_av hs v (hm vs i v hfr h2)).symm
  refine fn_ofW hF (by rw [List.length_map]; exact hl) ?_
  obtain ⟨e, s', N', st', e1, R1, _, _, _, hk⟩ := wpC_ok hC (n := F.n) (k0 := 0) F.code 0 R0 (by rw [hz]; exact Nat.le_refl _) h
  refine EW.conseq e1 fun x t ht => ?_
  obtain ⟨rfl, rfl⟩ := ht
  have fin : (match resS C.D st' F.res with
      | some (O, l) => match snapMS C.D st' l with
        | some l' => match deR C.D rs l' with
          | some y => obl O (y = r)
          | none => False
        | none => False
      | none => False) → ∃ r', ((resR t.σ F.res).bind snapR).run t.g = some r' ∧ Ale r' ((oneS (enR C.D rs r)).av C.D.toTE N) := fun hk => by
    split at hk
    case h_2 => exact hk.elim
    rename_i O l hr
    split at hk
    case h_2 => exact hk.elim
    rename_i l' hs
    split at hk
    case h_2 => exact hk.elim
    rename_i y hy
    rw [obl_iff] at hk
    obtain ⟨hO, rfl⟩ := hk
    have q1 := resS_ok hC.ok R1.here hr hO
    have q2 := snapMS_ok hC.ok R1.here hs
    have q3 : (resR t.σ F.res).run t.g = some (one1 (l.map (SV.av C.D.toTE N'))) := by
      unfold resR
      rw [run_bindS q1]; rfl
    have q4 : (snapR (one1 (l.map (SV.av C.D.toTE N')))).run t.g = some (one1 (l'.map (SV.av C.D.toTE N'))) := by
      have hlen := snapMS_len hs
      match l, l', q2, hlen with
      | [], [], q2, _ => exact run_bindS q2
      | [v], [v'], q2, _ =>
        have : (snapA (v.av C.D.toTE N')).run t.g = some (v'.av C.D.toTE N') := by
          simp only [snapMS] at hs
          split at hs
          · rename_i x l2 h1 h2
            simp only [Option.some.injEq] at h2; subst h2
            simp only [Option.some.injEq, List.cons.injEq, and_true] at hs; subst hs
            exact snapAS_ok hC.ok R1.here h1
          · simp at hs
        exact snapR_one this
      | v :: w :: l2, v' :: w' :: l2', q2, _ =>
        show ((snapAs ((v :: w :: l2).map (SV.av C.D.toTE N'))).bind fun l => RM.ret (AV.tup l)).run t.g = _
        rw [run_bindS q2]; rfl
    refine ⟨_, (run_bindS q3).trans q4, ?_⟩
    refine Ale.trans (one1_le (deR_le (N := N') hC.ok hy)) (Ale.of_eq ?_)
    rw [oneS_av, enR_pu hC.ok rs y hb.2]
  cases x with
  | normal => exact ⟨.inl rfl, fin hk⟩
  | ret => exact ⟨.inr rfl, fin hk⟩
  | exit i => exact hk.elim
end
open Go.RowKit
section
variable {τ : Type} {dn : τ → Type} {D : TD τ dn}
theorem encC_fr (ok : TDok D) {p : Nat → Bool} : ∀ (cs : List (Bool × τ)) (x : CD dn cs), SV.frL p (encC D cs x) = true
  | [], _ => rfl
  | (false, t) :: r, x => by simp only [encC, SV.frL, en_fr ok, encC_fr ok r x.2, Bool.and_self]
  | (true, t) :: r, x => by simp only [encC, SV.frL, SV.fr, ok.nf, encC_fr ok r x.2, Bool.and_self]
theorem encP_fr (ok : TDok D) {p : Nat → Bool} : ∀ (ps : List (Pt τ)) (x : PD dn ps), SV.frL p (encP D ps x) = true
  | [], _ => rfl
  | .ty t :: r, x => by simp only [encP, Pt.enc, SV.frL, en_fr ok, encP_fr ok r x.2, Bool.and_self]
  | .ptr t :: r, x => by simp only [encP, Pt.enc, SV.frL, SV.fr, ok.nf, encP_fr ok r x.2, Bool.and_self]
  | .fnc f cs :: r, x => by simp only [encP, Pt.enc, SV.frL, SV.fr, encC_fr ok, encP_fr ok r x.2, Bool.and_self]
inductive IK (τ : Type) (dn : τ → Type) where
  | fn (F : AFn) (an : Nat → Option (LA τ dn))
  | del (t : τ) (by_ : Nat) (zs : List AV)
structure IL (τ : Type) (dn : τ → Type) where
  f : FuncId
  k : IK τ dn
def findI : List (IL τ dn) → FuncId → Option (IL τ dn)
  | [], _ => none
  | i :: r, f => bif Nat.beq i.f f then some i else findI r f
def Cons (P : Program) (D : TD τ dn) : List (Con τ dn) → Prop
  | [] => True
  | c :: r => c.Ok P D ∧ Cons P D r
def ConsO (P : Program) (D : TD τ dn) : List (ConO τ dn) → Prop
  | [] => True
  | c :: r => c.Ok P D ∧ ConsO P D r
def IK.Ok (P : Program) (D : TD τ dn) (f : FuncId) : IK τ dn → Prop
  | .fn F _ => cFunc P f = some F ∧ callable P f = true
  | .del t by_ zs => cFunc P f = some (DelF (D.sz t) by_ zs) ∧ callable P f = true ∧ zs.length = D.sz t
def ILs (P : Program) (D : TD τ dn) : List (IL τ dn) → Prop
  | [] => True
  | i :: r => i.k.Ok P D i.f ∧ ILs P D r
theorem cons_mem {P : Program} : ∀ {Δ : List (Con τ dn)}, Cons P D Δ → ∀ c, c ∈ Δ → c.Ok P D
  | [], _, c, hc => by simp at hc
  | d :: r, h, c, hc => by
    rcases List.mem_cons.1 hc with rfl | hc
    · exact h.1
    · exact cons_mem h.2 c hc
theorem consO_mem {P : Program} : ∀ {Ω : List (ConO τ dn)}, ConsO P D Ω → ∀ c, c ∈ Ω → c.Ok P D
  | [], _, c, hc => by simp at hc
  | d :: r, h, c, hc => by
    rcases List.mem_cons.1 hc with rfl | hc
    · exact h.1
    · exact consO_mem h.2 c hc
theorem findI_ok {P : Program} : ∀ {il : List (IL τ dn)}, ILs P D il → ∀ {f i}, findI il f = some i → i.k.Ok P D f
  | [], _, f, i, h => by simp [findI] at h
  | j :: r, h, f, i, hi => by
    simp only [findI] at hi
    cases hb : Nat.beq j.f f with
    | false => rw [hb, cond_false] at hi; exact findI_ok h.2 hi
    | true =>
      rw [hb, cond_true, Option.some.injEq] at hi
      subst hi
      rw [← Nat.eq_of_beq_eq_true hb]; exact h.1
theorem fi_look {P : Program} {f : FuncId} {as_ : List AV} {g g' : Nat → Option Bk} {k k' : Nat} {r : AV} (h : ∀ m : List (Option Bk), m.length = k → look m = g → Fi P f as_ (look m) m.length r g' k') : Fi P f as_ g k r g' k' := by
  intro E J base vs hG hm hkn hrc
  have hg : look ((List.range k).map g) = g := by
    funext id
    unfold look
    rcases Nat.lt_or_ge id k with h1 | h1
    · simp [h1]
    · rw [List.getElem?_eq_none (by simpa using h1)]
      cases hq : g id with
      | none => rfl
      | some B => exact absurd (hkn id ((hm.live id).2 ⟨B, hq⟩).1) (by omega)
  have := h _ (by simp) hg
  rw [hg, List.length_map, List.length_range] at this
  exact this E J base vs hG hm hkn hrc
variable [DecidableEq τ]
def inlW (C : Cfg τ dn) (F : AFn) (an : Nat → Option (LA τ dn)) (vs : List (SV τ dn)) (st : SS τ dn) (K : SV τ dn → SS τ dn → Prop) : Prop :=
  bif Nat.ble vs.length F.n then wpC C F.n an F.code 0 ⟨[], st.rm, startS vs 0, st.m, st.nx⟩ fun e st' => match e with
    | .exit _ => False
    | _ => match resS C.D st' F.res with
      | some (O, l) => obl O (K (oneS l) st')
      | none => False
  else False
theorem inlW_ok {C : Cfg τ dn} (hC : C.Ok) {f : FuncId} {F : AFn} (hF : cFunc C.P f = some F) (hc : callable C.P f = true) {an : Nat → Option (LA τ dn)} {vs : List (SV τ dn)} {st : SS τ dn} {K : SV τ dn → SS τ dn → Prop} {N : Nms} {s : S3} (R : Rel C.D N st s) (hfl : C.fl = st.nx)
    (ha : ∀ N', N.agree st.nx N' → vs.map (SV.av C.D.toTE N') = vs.map (SV.av C.D.toTE N)) (h : inlW C F an vs st K) : JOut C.P C.D f vs st K N s := by
  unfold inlW at h
  cases hb : Nat.ble vs.length F.n with
  | false => rw [hb] at h; exact h.elim
  | true =>
  rw [hb, cond_true] at h
  have R0 : Rel C.D N ⟨[], st.rm, startS vs 0, st.m, st.nx⟩ ⟨σ0 (vs.map (SV.av C.D.toTE N)), s.g, s.k⟩ := by
    refine ⟨fun N' hN => ⟨fun i v hv => ?_, fun i v hv => by simp [getS] at hv, (R.at_ N' hN).bl, (R.at_ N' hN).rb⟩, R.inj, R.lt, R.ml, R.rl⟩
    obtain ⟨_, h2⟩ := startS_get hv
    rw [Nat.sub_zero] at h2
    show σ0 _ i = _
    unfold σ0
    rw [← ha N' hN, List.getElem?_map, h2]; rfl
  obtain ⟨e, s', N', st', e1, R1, _, r2, r3, hk⟩ := wpC_ok hC (n := F.n) (k0 := s.k) F.code 0 R0 (Nat.le_of_eq hfl) h
  have fin : (match resS C.D st' F.res with
      | some (O, l) => obl O (K (oneS l) st')
      | none => False) → ∃ v, (resR s'.σ F.res).run s'.g = some (v.av C.D.toTE N') ∧ (∀ N'', N'.agree st'.nx N'' → v.av C.D.toTE N'' = v.av C.D.toTE N') ∧ K v st' := fun hk => by
    split at hk
    case h_2 => exact hk.elim
    rename_i O l hr
    rw [obl_iff] at hk
    obtain ⟨hO, hk⟩ := hk
    have q : ∀ N'', N'.agree st'.nx N'' → (resR s'.σ F.res).run s'.g = some ((oneS l).av C.D.toTE N'') := fun N'' hN => by
      rw [oneS_av]
      unfold resR
      rw [run_bindS (resS_ok hC.ok (R1.at_ N'' hN) hr hO)]; rfl
    refine ⟨_, q N' (N'.agree_refl _), fun N'' hN => ?_, hk⟩
    have := (q N'' hN).symm.trans (q N' (N'.agree_refl _))
    simpa using this
  have go : ∀ {x : Ex}, (x = .normal ∨ x = .ret) → e = x → (∃ v, (resR s'.σ F.res).run s'.g = some (v.av C.D.toTE N') ∧ (∀ N'', N'.agree st'.nx N'' → v.av C.D.toTE N'' = v.av C.D.toTE N') ∧ K v st') → JOut C.P C.D f vs st K N s := fun {x} hx he hv => by
    obtain ⟨v, v1, v2, v3⟩ := hv
    refine ⟨hc, s'.g, s'.k, N', v, st', ?_, v2, ?_, ?_, ?_, v3⟩
    · refine fi_ofW hF (by rw [List.length_map]; exact Nat.le_of_ble_eq_true hb) (EW.conseq e1 fun y t ht => ?_)
      obtain ⟨rfl, rfl⟩ := ht
      exact ⟨by rw [he]; exact hx, t, S3.Le.refl', v1, rfl, rfl⟩
    · rw [← hfl]; exact r3.1
    · rw [← hfl]; exact r3.2
    · have r2' : st'.rm = st.rm := r2
      refine ⟨fun N'' hN => ⟨fun i v hv => by simp [getS] at hv, fun i v hv => by simp [getS] at hv, (R1.at_ N'' hN).bl, fun nm B hB => (R1.at_ N'' hN).rb nm B (by rw [r2']; exact hB)⟩, R1.inj, R1.lt, R1.ml, fun nm B hB => R1.rl nm B (by rw [r2']; exact hB)⟩
  cases e with
  | normal => exact go (.inl rfl) rfl (fin hk)
  | ret => exact go (.inr rfl) rfl (fin hk)
  | exit i => exact hk.elim
def delW (D : TD τ dn) (t : τ) (vs : List (SV τ dn)) (st : SS τ dn) (K : SV τ dn → SS τ dn → Prop) : Prop :=
  match vs with
  | [.own nm sz, a, b] => match st.gm nm, a.int, b.int with
    | some (.bl t' xs), some (x, _), some (y, _) => if h : t' = t then (bif st.rw nm && Nat.beq sz (D.sz t) then 0 ≤ x ∧ x < xs.length ∧ y = x + 1 ∧ xs.length ≤ 1000000 ∧ K (.own st.nx sz) ⟨st.rt, st.rm, st.t, (st.nx, some (.bl t ((h ▸ xs : List (dn t)).eraseIdx x.toNat))) :: (nm, none) :: st.m, st.nx + 1⟩ else False) else False
    | _, _, _ => False
  | _ => False
theorem delW_ok {P : Program} {f : FuncId} {t : τ} {by_ : Nat} {zs : List AV} (hk : IK.Ok P D f (.del t by_ zs : IK τ dn)) {vs : List (SV τ dn)} {st : SS τ dn} {K : SV τ dn → SS τ dn → Prop} {N : Nms} {s : S3} (R : Rel D N st s) (h : delW D t vs st K) : JOut P D f vs st K N s := by
  obtain ⟨hF, hc, hz⟩ := hk
  unfold delW at h
  split at h
  case h_2 => exact h.elim
  rename_i nm sz a b
  split at h
  case h_2 => exact h.elim
  rename_i t' xs x bx y by1 h1 h2 h3
  split at h
  case isFalse => exact h.elim
  rename_i ht
  subst ht
  cases hb : st.rw nm && Nat.beq sz (D.sz t') with
  | false => rw [hb] at h; exact h.elim
  | true =>
  rw [hb, cond_true] at h
  rw [Bool.and_eq_true] at hb
  obtain ⟨hrw, hs⟩ := hb
  have hs := Nat.eq_of_beq_eq_true hs
  subst hs
  obtain ⟨q1, q2, q3, q4, hK⟩ := h
  unfold SS.rw at hrw
  rw [Bool.and_eq_true] at hrw
  obtain ⟨w1, w2⟩ := hrw
  have hm : getS st.m nm = some (some (.bl t' xs)) := by
    unfold SS.gm at h1
    cases hg : getS st.m nm with
    | none => rw [hg] at w1; simp at w1
    | some B => rw [hg] at h1; simp only at h1; rw [h1]
  have hb0 := R.here.bl nm _ hm
  have R1 : Rel D N st ⟨s.σ, s.g, s.k + 1⟩ := ⟨R.at_, R.inj, fun a ha => Nat.lt_succ_of_lt (R.lt a ha), R.ml, R.rl⟩
  have hgo := R1.go (n := 0) (d := none) (r := .mov [] (.vo undef) nm (.bl t' (xs.eraseIdx x.toNat))) rfl ⟨⟨_, hm⟩, by simpa using w2⟩ (val := .v undef) (ups := [(N.ι nm, none), (s.k + 1, some ⟨D.sz t', (xs.eraseIdx x.toNat).map (D.ea N.ρ t')⟩)]) (fun _ _ => rfl) (fun N' hN => by
    have e := hN.1 nm (Nat.lt_succ_of_lt (R.ml nm _ hm))
    have e2 := hN.2
    simp only [SR.up, Nms.upd] at e e2
    have hne : ¬ nm = st.nx := fun e => by have := R.ml nm _ hm; omega
    rw [if_neg hne, if_neg hne] at e
    simp only [SR.ups, SB.av, e.1, e2])
  have hid : N.ι nm < s.k := R.lt nm (R.ml nm _ hm)
  refine ⟨hc, gput s.g [(N.ι nm, none), (s.k + 1, some ⟨D.sz t', (xs.eraseIdx x.toNat).map (D.ea N.ρ t')⟩)], s.k + 2, N.upd st.nx (s.k + 1) (xs.eraseIdx x.toNat).length, .own st.nx (D.sz t'), _, ?_, fun N'' hN => ?_, N.upd_agree _ _ _, Nat.le_succ _, ?_, hK⟩
  · refine fi_look fun m hml hmg => ?_
    have hB : look m (N.ι nm) = some ⟨D.sz t', xs.map (D.ea N.ρ t')⟩ := by rw [hmg]; exact hb0.1
    have := delete_map (P := P) (f := f) (m := m) hF hz hB q1 q2 q4
    rw [q3] at h3
    have hln : N.ln nm = xs.length := hb0.2
    have e1 : [SV.own nm (D.sz t'), a, b].map (SV.av D.toTE N) = [.own (N.ι nm) (D.sz t') 0 xs.length, VI x, VI (x + 1)] := by
      simp only [List.map_cons, List.map_nil, SV.av, hln, int_av h2, int_av h3]
    have e2 : (SV.own st.nx (D.sz t') : SV τ dn).av D.toTE (N.upd st.nx (s.k + 1) (xs.eraseIdx x.toNat).length) = .own (m.length + 1) (D.sz t') 0 (xs.eraseIdx x.toNat).length := by
      simp only [SV.av, Nms.upd, if_true, hml]
    rw [e1, e2]
    have e3 : look (delM m (N.ι nm) ⟨D.sz t', (xs.eraseIdx x.toNat).map (D.ea N.ρ t')⟩) = gput s.g [(N.ι nm, none), (s.k + 1, some ⟨D.sz t', (xs.eraseIdx x.toNat).map (D.ea N.ρ t')⟩)] := by
      rw [← hmg, ← hml]
      rw [← hml] at hid
      funext id
      unfold look delM
      simp only [gput]
      rcases Nat.lt_or_ge id m.length with hl | hl
      · rw [List.getElem?_append_left (by simpa using hl)]
        rw [if_neg (by omega)]
        by_cases hi : id = N.ι nm
        · subst hi; simp [hid]
        · rw [if_neg hi, List.getElem?_set_ne (fun e => hi e.symm)]
      · rw [List.getElem?_append_right (by simpa using hl), List.length_set]
        rcases Nat.lt_trichotomy id (m.length + 1) with h5 | h5 | h5
        · have : id = m.length := by omega
          subst this
          rw [if_neg (by omega), if_neg (by omega)]; simp
        · subst h5
          rw [if_pos rfl]; simp
        · rw [if_neg (by omega), if_neg (by omega), List.getElem?_eq_none (by simp; omega), List.getElem?_eq_none (by omega)]
    have e4 : (delM m (N.ι nm) ⟨D.sz t', (xs.eraseIdx x.toNat).map (D.ea N.ρ t')⟩).length = s.k + 2 := by simp [delM, hml]
    rw [e3, e4] at this
    exact this
  · have := hN.1 st.nx (Nat.lt_succ_self _)
    simp only [SV.av, this.1, this.2]
  · exact ⟨fun N'' hN => ⟨fun i v hv => by simp [getS] at hv, fun i v hv => by simp [getS] at hv, (hgo.at_ N'' hN).bl, (hgo.at_ N'' hN).rb⟩, hgo.inj, hgo.lt, hgo.ml, hgo.rl⟩
def mkJ (P : Program) (D : TD τ dn) (Δ : List (Con τ dn)) (Ω : List (ConO τ dn)) (il : List (IL τ dn)) : Nat → JW τ dn
  | 0, _, _, _, _ => False
  | d + 1, f, vs, st, K => match findI il f with
    | some ⟨_, .fn F an⟩ => inlW ⟨P, D, Δ, Ω, st.nx, mkJ P D Δ Ω il d⟩ F an vs st K
    | some ⟨_, .del t _ _⟩ => delW D t vs st K
    | none => False
theorem mkJ_ok {P : Program} (ok : TDok D) {Δ : List (Con τ dn)} (hΔ : Cons P D Δ) {Ω : List (ConO τ dn)} (hΩ : ConsO P D Ω) {il : List (IL τ dn)} (hil : ILs P D il) : ∀ (d fl : Nat), (⟨P, D, Δ, Ω, fl, mkJ P D Δ Ω il d⟩ : Cfg τ dn).Ok
  | 0, fl => ⟨ok, cons_mem hΔ, consO_mem hΩ, fun _ _ h => h.elim⟩
  | d + 1, fl => ⟨ok, cons_mem hΔ, consO_mem hΩ, fun {f vs st K N s} R ha h => by
    simp only [mkJ] at h
    split at h
    · rename_i F an hi
      obtain ⟨h1, h2⟩ := findI_ok hil hi
      exact inlW_ok (mkJ_ok ok hΔ hΩ hil d st.nx) h1 h2 R rfl ha h
    · rename_i hi
      exact delW_ok (findI_ok hil hi) R h
    · exact h.elim⟩
theorem con_ok {P : Program} (ok : TDok D) {Δ : List (Con τ dn)} (hΔ : Cons P D Δ) {Ω : List (ConO τ dn)} (hΩ : ConsO P D Ω) {F : AFn} (c : Con τ dn) (hF : cFunc P c.f = some F) (hc : callable P c.f = true) (il : PD dn c.ps → List (IL τ dn)) (hil : ∀ x, ILs P D (il x)) (d : Nat) (an : PD dn c.ps → Nat → Option (LA τ dn)) (h : ∀ x, c.pre x → wpF ⟨P, D, Δ, Ω, 0, mkJ P D Δ Ω (il x) d⟩ F (an x) (encP D c.ps x) c.rs (c.res x)) : c.Ok P D :=
  ⟨hc, fun x N hp => wpF_ok (mkJ_ok ok hΔ hΩ (hil x) d 0) hF N (encP_fr ok c.ps x) (h x hp)⟩
end
open Go.RowKit
structure LR (α : Type) where
  sz : Nat
  ea : (Nat → AV) → α → List AV
def LR.i64 : LR Int := ⟨1, fun _ x => [.v (.int .i64 x)]⟩
def LR.u8 : LR UInt8 := ⟨1, fun _ x => [.v (.int .u8 x.toNat)]⟩
def LR.u64 : LR U64 := ⟨1, fun _ x => [.v (.int .u64 (x.n : Int))]⟩
def LR.boo : LR Bool := ⟨1, fun _ x => [.v (.bool x)]⟩
def LR.str : LR ByteArray := ⟨1, fun _ x => [.v (.string x)]⟩
def LR.prod {α β : Type} (A : LR α) (B : LR β) : LR (α × β) := ⟨A.sz + B.sz, fun ρ x => A.ea ρ x.1 ++ B.ea ρ x.2⟩
def LR.via {α β : Type} (f : α → β) (B : LR β) : LR α := ⟨B.sz, fun ρ x => B.ea ρ (f x)⟩
def LR.list {α : Type} (A : LR α) : LR (List α) := ⟨1, fun ρ xs => [.lst A.sz (xs.map (A.ea ρ))]⟩
section
variable {τ : Type} {dn : τ → Type}
theorem AleL.app {a b c d : List AV} (h : AleL a b) (k : AleL c d) : AleL (a ++ c) (b ++ d) := by
  induction h with
  | nil => exact k
  | cons h t ih => exact .cons h ih
theorem frL_app {p : Nat → Bool} : ∀ {a b : List (SV τ dn)}, SV.frL p (a ++ b) = (SV.frL p a && SV.frL p b)
  | [], b => by simp [SV.frL]
  | v :: a, b => by simp only [List.cons_append, SV.frL, frL_app, Bool.and_assoc]
structure LY (E : TE τ dn) {α : Type} (R : LR α) where
  es : α → List (SV τ dn)
  ds : List (SV τ dn) → Option α
  df : α
  es_av : ∀ (N : Nms) (x : α), (es x).map (SV.av E N) = R.ea N.ρ x
  ds_le : ∀ (N : Nms) (cs : List (SV τ dn)) (x : α), ds cs = some x → AleL (cs.map (SV.av E N)) (R.ea N.ρ x)
  ds_eq : ∀ (N : Nms) (cs : List (SV τ dn)) (x : α), ds cs = some x → cs.all SV.ne = true → cs.map (SV.av E N) = R.ea N.ρ x
  len : ∀ x, (es x).length = R.sz
  one : ∀ x, (es x).all SV.one = true
  nf : ∀ (p : Nat → Bool) x, SV.frL p (es x) = true
  pρ : ∀ (ρ ρ' : Nat → AV) (x : α), R.ea ρ x = R.ea ρ' x
  pu1 : ∀ (N : Nms) (x : α), (R.ea N.ρ x).all AV.pu1 = true
variable {E : TE τ dn}
def dsI : List (SV τ dn) → Option Int
  | [.vi x] => some x
  | [.vn x] => some x
  | _ => none
def dsY : List (SV τ dn) → Option UInt8
  | [.vy x] => some x
  | _ => none
def dsU : List (SV τ dn) → Option U64
  | [.vu x] => some x
  | _ => none
def dsB : List (SV τ dn) → Option Bool
  | [.vt x] => some x
  | [.vb c] => some c.den
  | _ => none
def dsZ : List (SV τ dn) → Option ByteArray
  | [.vz x] => some x
  | _ => none
theorem dsI_av {N : Nms} {cs : List (SV τ dn)} {x : Int} (h : dsI cs = some x) : cs.map (SV.av E N) = [.v (.int .i64 x)] := by
  unfold dsI at h; split at h <;> simp only [Option.some.injEq, reduceCtorEq] at h <;> subst h <;> rfl
theorem dsY_av {N : Nms} {cs : List (SV τ dn)} {x : UInt8} (h : dsY cs = some x) : cs.map (SV.av E N) = [.v (.int .u8 x.toNat)] := by
  unfold dsY at h; split at h <;> simp only [Option.some.injEq, reduceCtorEq] at h; subst h; rfl
theorem dsU_av {N : Nms} {cs : List (SV τ dn)} {x : U64} (h : dsU cs = some x) : cs.map (SV.av E N) = [.v (.int .u64 (x.n : Int))] := by
  unfold dsU at h; split at h <;> simp only [Option.some.injEq, reduceCtorEq] at h; subst h; rfl
theorem dsB_av {N : Nms} {cs : List (SV τ dn)} {x : Bool} (h : dsB cs = some x) : cs.map (SV.av E N) = [.v (.bool x)] := by
  unfold dsB at h; split at h <;> simp only [Option.some.injEq, reduceCtorEq] at h <;> subst h <;> rfl
theorem dsZ_av {N : Nms} {cs : List (SV τ dn)} {x : ByteArray} (h : dsZ cs = some x) : cs.map (SV.av E N) = [.v (.string x)] := by
  unfold dsZ at h; split at h <;> simp only [Option.some.injEq, reduceCtorEq] at h; subst h; rfl
theorem AleL.of_eq {a b : List AV} (h : a = b) : AleL a b := by
  subst h
  induction a with
  | nil => exact .nil
  | cons x r ih => exact .cons Ale.refl ih
def LY.i64 : LY E LR.i64 where
  es x := [.vi x]
  ds := dsI
  df := 0
  es_av _ _ := rfl
  ds_le _ _ _ h := .of_eq (dsI_av h)
  ds_eq _ _ _ h _ := dsI_av h
  len _ := rfl
  one _ := rfl
  nf _ _ := rfl
  pρ _ _ _ := rfl
  pu1 _ _ := rfl
def LY.u8 : LY E LR.u8 where
  es x := [.vy x]
  ds := dsY
  df := 0
  es_av _ _ := rfl
  ds_le _ _ _ h := .of_eq (dsY_av h)
  ds_eq _ _ _ h _ := dsY_av h
  len _ := rfl
  one _ := rfl
  nf _ _ := rfl
  pρ _ _ _ := rfl
  pu1 _ _ := rfl
def LY.u64 : LY E LR.u64 where
  es x := [.vu x]
  ds := dsU
  df := ⟨0, by decide⟩
  es_av _ _ := rfl
  ds_le _ _ _ h := .of_eq (dsU_av h)
  ds_eq _ _ _ h _ := dsU_av h
  len _ := rfl
  one _ := rfl
  nf _ _ := rfl
  pρ _ _ _ := rfl
  pu1 _ _ := rfl
def LY.boo : LY E LR.boo where
  es x := [.vb (.b x)]
  ds := dsB
  df := false
  es_av _ _ := rfl
  ds_le _ _ _ h := .of_eq (dsB_av h)
  ds_eq _ _ _ h _ := dsB_av h
  len _ := rfl
  one _ := rfl
  nf _ _ := rfl
  pρ _ _ _ := rfl
  pu1 _ _ := rfl
def LY.str : LY E LR.str where
  es x := [.vz x]
  ds := dsZ
  df := ByteArray.empty
  es_av _ _ := rfl
  ds_le _ _ _ h := .of_eq (dsZ_av h)
  ds_eq _ _ _ h _ := dsZ_av h
  len _ := rfl
  one _ := rfl
  nf _ _ := rfl
  pρ _ _ _ := rfl
  pu1 _ _ := rfl
def dsP {α β : Type} (n : Nat) (a : List (SV τ dn) → Option α) (b : List (SV τ dn) → Option β) (cs : List (SV τ dn)) : Option (α × β) :=
  match a (cs.take n), b (cs.drop n) with
  | some x, some y => some (x, y)
  | _, _ => none
theorem dsP_some {α β : Type} {n : Nat} {a : List (SV τ dn) → Option α} {b : List (SV τ dn) → Option β} {cs : List (SV τ dn)} {z : α × β} (h : dsP n a b cs = some z) : a (cs.take n) = some z.1 ∧ b (cs.drop n) = some z.2 := by
  unfold dsP at h
  split at h
  · rename_i x y h1 h2
    simp only [Option.some.injEq] at h; subst h; exact ⟨h1, h2⟩
  · simp at h
def LY.prod {α β : Type} {A : LR α} {B : LR β} (a : LY E A) (b : LY E B) : LY E (A.prod B) where
  es x := a.es x.1 ++ b.es x.2
  ds := dsP A.sz a.ds b.ds
  df := (a.df, b.df)
  es_av N x := by rw [List.map_append, a.es_av, b.es_av]; rfl
  ds_le N cs x h := by
    obtain ⟨h1, h2⟩ := dsP_some h
    have := AleL.app (a.ds_le N _ _ h1) (b.ds_le N _ _ h2)
    rw [← List.map_append, List.take_append_drop] at this
    exact this
  ds_eq N cs x h hn := by
    obtain ⟨h1, h2⟩ := dsP_some h
    have hn1 : (cs.take A.sz).all SV.ne = true := List.all_eq_true.2 fun v hv => List.all_eq_true.1 hn v (List.mem_of_mem_take hv)
    have hn2 : (cs.drop A.sz).all SV.ne = true := List.all_eq_true.2 fun v hv => List.all_eq_true.1 hn v (List.mem_of_mem_drop hv)
    show _ = A.ea N.ρ x.1 ++ B.ea N.ρ x.2
    rw [← a.ds_eq N _ _ h1 hn1, ← b.ds_eq N _ _ h2 hn2, ← List.map_append, List.take_append_drop]
  len x := by rw [List.length_append, a.len, b.len]; rfl
  one x := by rw [List.all_append, a.one, b.one]; rfl
  nf p x := by rw [frL_app, a.nf, b.nf]; rfl
  pρ ρ ρ' x := by show A.ea ρ x.1 ++ B.ea ρ x.2 = _; rw [a.pρ ρ ρ', b.pρ ρ ρ']; rfl
  pu1 N x := by show (A.ea N.ρ x.1 ++ B.ea N.ρ x.2).all _ = true; rw [List.all_append, a.pu1, b.pu1]; rfl
def LY.via {α β : Type} {f : α → β} {B : LR β} (g : β → α) (hfg : ∀ y, f (g y) = y) (b : LY E B) : LY E (LR.via f B) where
  es x := b.es (f x)
  ds cs := match b.ds cs with
    | some y => some (g y)
    | none => none
  df := g b.df
  es_av N x := b.es_av N (f x)
  ds_le N cs x h := by
    split at h
    · rename_i y hy
      simp only [Option.some.injEq] at h; subst h
      show AleL _ (B.ea N.ρ (f (g y)))
      rw [hfg]; exact b.ds_le N _ _ hy
    · simp at h
  ds_eq N cs x h hn := by
    split at h
    · rename_i y hy
      simp only [Option.some.injEq] at h; subst h
      show _ = (B.ea N.ρ (f (g y)))
      rw [hfg]; exact b.ds_eq N _ _ hy hn
    · simp at h
  len x := b.len (f x)
  one x := b.one (f x)
  nf p x := b.nf p (f x)
  pρ ρ ρ' x := b.pρ ρ ρ' (f x)
  pu1 N x := b.pu1 N (f x)
def dsE {α : Type} (ds : List (SV τ dn) → Option α) : List (List (SV τ dn)) → Option (List α)
  | [] => some []
  | cs :: r => if cs.all SV.ne = true then (match ds cs, dsE ds r with
    | some x, some l => some (x :: l)
    | _, _ => none) else none
theorem dsE_av {t : τ} {R : LR (dn t)} (A : LY E R) (N : Nms) : ∀ {els : List (List (SV τ dn))} {xs : List (dn t)}, dsE A.ds els = some xs → SV.avM E N els = xs.map (R.ea N.ρ)
  | [], xs, h => by simp only [dsE, Option.some.injEq] at h; subst h; rfl
  | cs :: r, xs, h => by
    simp only [dsE] at h
    split at h
    · rename_i hn
      split at h
      · rename_i x l h1 h2
        simp only [Option.some.injEq] at h; subst h
        simp only [SV.avM, List.map_cons, SV.avL_map, A.ds_eq N _ _ h1 hn, dsE_av A N h2]
      · simp at h
    · simp at h
section
variable [DecidableEq τ]
def dsL (t : τ) (sz : Nat) (ds : List (SV τ dn) → Option (dn t)) : List (SV τ dn) → Option (List (dn t))
  | [.vl t' xs] => if h : t' = t then some (h ▸ xs) else none
  | [.vc k els] => if k = sz then dsE ds els else none
  | [.emp] => some []
  | _ => none
theorem dsL_le {t : τ} {R : LR (dn t)} (A : LY E R) (hs : E.sz t = R.sz) (he : ∀ ρ, E.ea ρ t = R.ea ρ) (N : Nms) {cs : List (SV τ dn)} {xs : List (dn t)} (h : dsL t R.sz A.ds cs = some xs) : AleL (cs.map (SV.av E N)) ((LR.list R).ea N.ρ xs) ∧ (cs.all SV.ne = true → cs.map (SV.av E N) = (LR.list R).ea N.ρ xs) := by
  unfold dsL at h
  split at h
  · rename_i t' ys
    split at h
    · rename_i ht
      subst ht
      simp only [Option.some.injEq] at h; subst h
      have : [SV.vl t' ys].map (SV.av E N) = (LR.list R).ea N.ρ ys := by
        simp only [List.map_cons, List.map_nil, SV.av, hs, he]; rfl
      exact ⟨.of_eq this, fun _ => this⟩
    · simp at h
  · rename_i k els
    split at h
    · rename_i hk
      subst hk
      have : [SV.vc R.sz els].map (SV.av E N) = (LR.list R).ea N.ρ xs := by
        simp only [List.map_cons, List.map_nil, SV.av, dsE_av A N h]; rfl
      exact ⟨.of_eq this, fun _ => this⟩
    · simp at h
  · simp only [Option.some.injEq] at h; subst h
    exact ⟨.cons Ale.emp .nil, fun hn => by simp [SV.ne] at hn⟩
  · simp at h
def LY.list {t : τ} {R : LR (dn t)} (A : LY E R) (hs : E.sz t = R.sz) (he : ∀ ρ, E.ea ρ t = R.ea ρ) : LY E (LR.list R) where
  es x := [.vl t x]
  ds := dsL t R.sz A.ds
  df := []
  es_av N x := by simp only [List.map_cons, List.map_nil, SV.av, hs, he]; rfl
  ds_le N cs x h := (dsL_le A hs he N h).1
  ds_eq N cs x h hn := (dsL_le A hs he N h).2 hn
  len _ := rfl
  one _ := rfl
  nf _ _ := rfl
  pρ ρ ρ' x := by show [AV.lst R.sz (x.map (R.ea ρ))] = [AV.lst R.sz (x.map (R.ea ρ'))]; rw [funext fun y => A.pρ ρ ρ' y]
  pu1 _ _ := rfl
end
def TE.ofL (lr : (t : τ) → LR (dn t)) : TE τ dn := ⟨fun t => (lr t).sz, fun ρ t => (lr t).ea ρ⟩
def TD.ofL {lr : (t : τ) → LR (dn t)} (ly : (t : τ) → LY (TE.ofL lr) (lr t)) (ag : τ → Bool) (hint : Nat → Nat → Option τ) (neg : Bool) : TD τ dn where
  toTE := TE.ofL lr
  df t := (ly t).df
  es t := (ly t).es
  ds t := (ly t).ds
  ag := ag
  pu _ := true
  hint := hint
  neg := neg
theorem TD.ofL_ok {lr : (t : τ) → LR (dn t)} {ly : (t : τ) → LY (TE.ofL lr) (lr t)} {ag : τ → Bool} {hint : Nat → Nat → Option τ} {neg : Bool} : TDok (TD.ofL ly ag hint neg) where
  es_av N t x := (ly t).es_av N x
  ds_le N t cs x h := (ly t).ds_le N cs x h
  ds_eq N t cs x h hn := (ly t).ds_eq N cs x h hn
  len t x := (ly t).len x
  one t x := (ly t).one x
  nf p t x := (ly t).nf p x
  pρ ρ ρ' t x _ := (ly t).pρ ρ ρ' x
  pu1 N t x _ := (ly t).pu1 N x
end
open Go.RowKit
structure LG {α : Type} [GoT α] (R : LR α) where
  big : α → Prop
  sz : R.sz = GoT.size α
  av : ∀ {w : World} {cs : List Value} {x : α}, GoT.rep w w.heap.size cs x → R2 (Rep (E0 w fun b => b < w.heap.size)) cs (R.ea (fun _ => .dead) x)
  one : ∀ {w : World} {cs : List Value} {x : α}, GoT.rep w w.heap.size cs x → ∀ v, v ∈ cs → v.oneCell' = true
  pu : ∀ (x : α) c, c ∈ R.ea (fun _ => .dead) x → Pu c
  bg : ∀ {w : World} {cs : List Value} {x : α}, GoT.rep w w.heap.size cs x → big x
theorem R2.app {R : Value → AV → Prop} {vs vs' : List Value} {as_ as' : List AV} (h : R2 R vs as_) (k : R2 R vs' as') : R2 R (vs ++ vs') (as_ ++ as') := by
  induction h with
  | nil => exact k
  | cons h t ih => exact .cons h ih
def LG.i64 : LG LR.i64 where
  big := I64
  sz := rfl
  av h := by obtain ⟨rfl, _⟩ := h; exact .cons (.v rfl) .nil
  one h v hv := by obtain ⟨rfl, _⟩ := h; simp at hv; subst hv; rfl
  pu x c hc := by simp [LR.i64] at hc; subst hc; exact .v
  bg h := h.2
def LG.u64 : LG LR.u64 where
  big _ := True
  sz := rfl
  av h := by cases h; exact .cons (.v rfl) .nil
  one h v hv := by cases h; simp at hv; subst hv; rfl
  pu x c hc := by simp [LR.u64] at hc; subst hc; exact .v
  bg _ := trivial
def LG.str : LG LR.str where
  big x := x.size ≤ 9223372036854775807
  sz := rfl
  av h := by obtain ⟨rfl, _⟩ := h; exact .cons (.v rfl) .nil
  one h v hv := by obtain ⟨rfl, _⟩ := h; simp at hv; subst hv; rfl
  pu x c hc := by simp [LR.str] at hc; subst hc; exact .v
  bg h := h.2
def LG.prod {α β : Type} [GoT α] [GoT β] {A : LR α} {B : LR β} (a : LG A) (b : LG B) : LG (A.prod B) where
  big x := a.big x.1 ∧ b.big x.2
  sz := by show A.sz + B.sz = GoT.size α + GoT.size β; rw [a.sz, b.sz]
  av h := by obtain ⟨c0, c1, rfl, h0, h1⟩ := h; exact (a.av h0).app (b.av h1)
  one h v hv := by
    obtain ⟨c0, c1, rfl, h0, h1⟩ := h
    rcases List.mem_append.1 hv with hv | hv
    · exact a.one h0 v hv
    · exact b.one h1 v hv
  pu x c hc := by
    rcases List.mem_append.1 hc with hc | hc
    · exact a.pu _ c hc
    · exact b.pu _ c hc
  bg h := by obtain ⟨c0, c1, rfl, h0, h1⟩ := h; exact ⟨a.bg h0, b.bg h1⟩
def LG.list {α : Type} [GoT α] {A : LR α} (a : LG A) : LG (LR.list A) where
  big xs := xs.length ≤ 9223372036854775807 ∧ ∀ x, x ∈ xs → a.big x
  sz := rfl
  av {w cs xs} h := by
    obtain ⟨A0, n, c, rfl, hn, hle, hc, h⟩ := h
    refine .cons ?_ .nil
    rcases h with rfl | ⟨b, off, rfl, hb, hs⟩
    · simp only [List.length_nil] at hn; subst hn; exact .lst0 hc
    · have get : ∀ (i : Nat) (cs : List AV) (j : Nat) x, (xs.map (A.ea fun _ => .dead))[i]? = some cs → cs[j]? = some x → ∃ u, w.cell? ⟨b, off + i * A.sz + j, none⟩ = some u ∧ u.oneCell' = true ∧ Pu x ∧ Rep (E0 w fun b => b < w.heap.size) u x := by
        intro i cs j x hi hj
        rw [List.getElem?_map, Option.map_eq_some_iff] at hi
        obtain ⟨y, hy, rfl⟩ := hi
        obtain ⟨vs, h1, h2⟩ := hs i y hy
        have r := a.av h1
        have hjl : j < vs.length := by rw [r.len]; exact (List.getElem?_eq_some_iff.1 hj).1
        have hv := List.getElem?_eq_getElem hjl
        refine ⟨vs[j], by rw [a.sz]; exact h2 j _ hv, a.one h1 _ (List.getElem_mem hjl), a.pu y x (List.mem_of_getElem? hj), r.get j _ x hv hj⟩
      refine .lst1 (fun i j => (w.cell? ⟨b, off + i * A.sz + j, none⟩).getD undef) (by simpa using hn) hle hc hb (fun i cs hi => ?_) (fun i cs j x hi hj => ?_) (fun i cs j x hi hj => ?_) (fun i cs j x hi hj => ?_)
      · rw [List.getElem?_map, Option.map_eq_some_iff] at hi
        obtain ⟨y, hy, rfl⟩ := hi
        obtain ⟨vs, h1, _⟩ := hs i y hy
        rw [← (a.av h1).len, GoT.len h1, a.sz]
      all_goals
        obtain ⟨u, k1, k2, k3, k4⟩ := get i cs j x hi hj
      · show w.cell? _ = _; rw [k1]; rfl
      · simp only [k1, Option.getD_some]; exact ⟨k2, k3⟩
      · simp only [k1, Option.getD_some]; exact k4
  one h v hv := by obtain ⟨A0, n, c, rfl, _⟩ := h; simp at hv; subst hv; rfl
  pu xs c hc := by simp [LR.list] at hc; subst hc; exact .lst
  bg {w cs xs} h := by
    obtain ⟨A0, n, c, rfl, hn, hle, hc, h⟩ := h
    refine ⟨by omega, fun x hx => ?_⟩
    rcases h with rfl | ⟨b, off, rfl, hb, hs⟩
    · simp at hx
    · obtain ⟨i, hi⟩ := List.mem_iff_getElem?.1 hx
      obtain ⟨vs, h1, _⟩ := hs i x hi
      exact a.bg h1
def LG.via {α β : Type} [GoT β] {f : α → β} {B : LR β} (b : LG B) : @LG α (GoT.via f) (LR.via f B) :=
  @LG.mk α (GoT.via f) (LR.via f B) (fun x => b.big (f x)) b.sz (fun h => b.av h) (fun h => b.one h) (fun x => b.pu (f x)) fun h => b.bg h
def N0 : Nms := ⟨fun _ => 0, fun _ => 0, fun _ => .dead⟩
section
variable {τ : Type} {dn : τ → Type} {D : TD τ dn}
theorem arg_ag (ok : TDok D) {E : Env} {t : τ} {x : dn t} {cs : List Value} (ha : D.ag t = true) (h : R2 (Rep E) cs (D.ea (fun _ => .dead) t x)) : Rep E (.agg cs.toArray) ((D.en t x).av D.toTE N0) := by
  rw [en_ag ha, SV.av, SV.avL_map, ok.es_av]; exact h.agg
theorem arg_one (ok : TDok D) {E : Env} {t : τ} {x : dn t} {v : Value} (ha : D.ag t = false) (h : R2 (Rep E) [v] (D.ea (fun _ => .dead) t x)) : Rep E v ((D.en t x).av D.toTE N0) := by
  have one : ∀ l : List AV, [v].length = l.length → ∃ b, l = [b] := fun l hl => by
    match l with
    | [b] => exact ⟨b, rfl⟩
    | [] => simp at hl
    | _ :: _ :: _ => simp at hl
  obtain ⟨b, hb⟩ := one _ h.len
  rw [en_one (N := N0) ok ha hb]
  have h2 : R2 (Rep E) [v] [b] := by rw [← hb]; exact h
  cases h2 with | cons h _ => exact h
end
open Go.RowKit
@[ext] structure Vtr where
  weights : (List Int)
  need : Int
instance : GoT Vtr := GoT.via (fun x => (x.weights, x.need))
@[go_sem, simp] theorem Vtr.eta (x : Vtr) : (⟨x.weights, x.need⟩ : Vtr) = x := rfl
@[ext] structure Cluster where
  voters : Vtr
  nodes : (List Copy)
  asks : (List Ask)
  terms : (List Term)
  net : (List Msg)
  clock : Int
instance : GoT Cluster := GoT.via (fun x => (x.voters, x.nodes, x.asks, x.terms, x.net, x.clock))
@[go_sem, simp] theorem Cluster.eta (x : Cluster) : (⟨x.voters, x.nodes, x.asks, x.terms, x.net, x.clock⟩ : Cluster) = x := rfl
inductive Tc where
  | cInt
  | cU8
  | cU64
  | cBool
  | cStr
  | cStamp
  | cCopy
  | cTerm
  | cMsg
  | cAsk
  | cStep
  | cVoters
  | cCluster
  | lInt
  | lU64
  | lStr
  | lCopy
  | lTerm
  | lMsg
  | lAsk
  | lStep
  | lStamp
def Tc.no : Tc → Nat
  | .cInt => 0
  | .cU8 => 1
  | .cU64 => 2
  | .cBool => 3
  | .cStr => 4
  | .cStamp => 5
  | .cCopy => 6
  | .cTerm => 7
  | .cMsg => 8
  | .cAsk => 9
  | .cStep => 10
  | .cVoters => 11
  | .cCluster => 12
  | .lInt => 13
  | .lU64 => 14
  | .lStr => 15
  | .lCopy => 16
  | .lTerm => 17
  | .lMsg => 18
  | .lAsk => 19
  | .lStep => 20
  | .lStamp => 21
def Tc.of : Nat → Tc
  | 0 => .cInt
  | 1 => .cU8
  | 2 => .cU64
  | 3 => .cBool
  | 4 => .cStr
  | 5 => .cStamp
  | 6 => .cCopy
  | 7 => .cTerm
  | 8 => .cMsg
  | 9 => .cAsk
  | 10 => .cStep
  | 11 => .cVoters
  | 12 => .cCluster
  | 13 => .lInt
  | 14 => .lU64
  | 15 => .lStr
  | 16 => .lCopy
  | 17 => .lTerm
  | 18 => .lMsg
  | 19 => .lAsk
  | 20 => .lStep
  | _ => .lStamp
theorem Tc.of_no (a : Tc) : Tc.of a.no = a := by cases a <;> rfl
instance : DecidableEq Tc := fun a b => match Nat.decEq a.no b.no with
  | isTrue h => isTrue (by rw [← Tc.of_no a, h, Tc.of_no])
  | isFalse h => isFalse fun e => h (by rw [e])
abbrev Tc.dn : Tc → Type
  | .cInt => Int
  | .cU8 => UInt8
  | .cU64 => U64
  | .cBool => Bool
  | .cStr => ByteArray
  | .cStamp => Stp
  | .cCopy => Copy
  | .cTerm => Term
  | .cMsg => Msg
  | .cAsk => Ask
  | .cStep => Step
  | .cVoters => Vtr
  | .cCluster => Cluster
  | .lInt => (List Int)
  | .lU64 => (List U64)
  | .lStr => (List ByteArray)
  | .lCopy => (List Copy)
  | .lTerm => (List Term)
  | .lMsg => (List Msg)
  | .lAsk => (List Ask)
  | .lStep => (List Step)
  | .lStamp => (List Stp)
def lrStamp : LR Stp := .via (fun x => (x.time, x.who)) (.prod LR.i64 LR.i64)
def lrCopy : LR Copy := .via (fun x => (x.at_, x.data)) (.prod lrStamp LR.str)
def lrTerm : LR Term := .via (fun x => (x.begin, x.end_)) (.prod LR.i64 LR.i64)
def lrMsg : LR Msg := .via (fun x => (x.kind, x.op, x.node, x.copy)) (.prod LR.i64 (.prod LR.i64 (.prod LR.i64 lrCopy)))
def lrAsk : LR Ask := .via (fun x => (x.op, x.kind, x.phase, x.data, x.best, x.heard)) (.prod LR.i64 (.prod LR.i64 (.prod LR.i64 (.prod LR.str (.prod lrCopy LR.u64)))))
def lrStep : LR Step := .via (fun x => (x.kind, x.n, x.data)) (.prod LR.i64 (.prod LR.i64 LR.str))
def lrVoters : LR Vtr := .via (fun x => (x.weights, x.need)) (.prod (LR.list LR.i64) LR.i64)
def lrCluster : LR Cluster := .via (fun x => (x.voters, x.nodes, x.asks, x.terms, x.net, x.clock)) (.prod lrVoters (.prod (LR.list lrCopy) (.prod (LR.list lrAsk) (.prod (LR.list lrTerm) (.prod (LR.list lrMsg) LR.i64)))))
def Tc.lr : (t : Tc) → LR t.dn
  | .cInt => LR.i64
  | .cU8 => LR.u8
  | .cU64 => LR.u64
  | .cBool => LR.boo
  | .cStr => LR.str
  | .cStamp => lrStamp
  | .cCopy => lrCopy
  | .cTerm => lrTerm
  | .cMsg => lrMsg
  | .cAsk => lrAsk
  | .cStep => lrStep
  | .cVoters => lrVoters
  | .cCluster => lrCluster
  | .lInt => (LR.list LR.i64)
  | .lU64 => (LR.list LR.u64)
  | .lStr => (LR.list LR.str)
  | .lCopy => (LR.list lrCopy)
  | .lTerm => (LR.list lrTerm)
  | .lMsg => (LR.list lrMsg)
  | .lAsk => (LR.list lrAsk)
  | .lStep => (LR.list lrStep)
  | .lStamp => (LR.list lrStamp)
abbrev tE : TE Tc Tc.dn := TE.ofL Tc.lr
def lyStamp : LY tE lrStamp := .via (fun y => ⟨y.1, y.2⟩) (fun _ => rfl) (.prod LY.i64 LY.i64)
def lyCopy : LY tE lrCopy := .via (fun y => ⟨y.1, y.2⟩) (fun _ => rfl) (.prod lyStamp LY.str)
def lyTerm : LY tE lrTerm := .via (fun y => ⟨y.1, y.2⟩) (fun _ => rfl) (.prod LY.i64 LY.i64)
def lyMsg : LY tE lrMsg := .via (fun y => ⟨y.1, y.2.1, y.2.2.1, y.2.2.2⟩) (fun _ => rfl) (.prod LY.i64 (.prod LY.i64 (.prod LY.i64 lyCopy)))
def lyAsk : LY tE lrAsk := .via (fun y => ⟨y.1, y.2.1, y.2.2.1, y.2.2.2.1, y.2.2.2.2.1, y.2.2.2.2.2⟩) (fun _ => rfl) (.prod LY.i64 (.prod LY.i64 (.prod LY.i64 (.prod LY.str (.prod lyCopy LY.u64)))))
def lyStep : LY tE lrStep := .via (fun y => ⟨y.1, y.2.1, y.2.2⟩) (fun _ => rfl) (.prod LY.i64 (.prod LY.i64 LY.str))
def lyVoters : LY tE lrVoters := .via (fun y => ⟨y.1, y.2⟩) (fun _ => rfl) (.prod (LY.list (t := Tc.cInt) LY.i64 rfl fun _ => rfl) LY.i64)
def lyCluster : LY tE lrCluster := .via (fun y => ⟨y.1, y.2.1, y.2.2.1, y.2.2.2.1, y.2.2.2.2.1, y.2.2.2.2.2⟩) (fun _ => rfl) (.prod lyVoters (.prod (LY.list (t := Tc.cCopy) lyCopy rfl fun _ => rfl) (.prod (LY.list (t := Tc.cAsk) lyAsk rfl fun _ => rfl) (.prod (LY.list (t := Tc.cTerm) lyTerm rfl fun _ => rfl) (.prod (LY.list (t := Tc.cMsg) lyMsg rfl fun _ => rfl) LY.i64)))))
def Tc.ly : (t : Tc) → LY tE t.lr
  | .cInt => LY.i64
  | .cU8 => LY.u8
  | .cU64 => LY.u64
  | .cBool => LY.boo
  | .cStr => LY.str
  | .cStamp => lyStamp
  | .cCopy => lyCopy
  | .cTerm => lyTerm
  | .cMsg => lyMsg
  | .cAsk => lyAsk
  | .cStep => lyStep
  | .cVoters => lyVoters
  | .cCluster => lyCluster
  | .lInt => (LY.list (t := Tc.cInt) LY.i64 rfl fun _ => rfl)
  | .lU64 => (LY.list (t := Tc.cU64) LY.u64 rfl fun _ => rfl)
  | .lStr => (LY.list (t := Tc.cStr) LY.str rfl fun _ => rfl)
  | .lCopy => (LY.list (t := Tc.cCopy) lyCopy rfl fun _ => rfl)
  | .lTerm => (LY.list (t := Tc.cTerm) lyTerm rfl fun _ => rfl)
  | .lMsg => (LY.list (t := Tc.cMsg) lyMsg rfl fun _ => rfl)
  | .lAsk => (LY.list (t := Tc.cAsk) lyAsk rfl fun _ => rfl)
  | .lStep => (LY.list (t := Tc.cStep) lyStep rfl fun _ => rfl)
  | .lStamp => (LY.list (t := Tc.cStamp) lyStamp rfl fun _ => rfl)
def Tc.ag : Tc → Bool
  | .cStamp | .cCopy | .cTerm | .cMsg | .cAsk | .cStep | .cVoters | .cCluster => true
  | _ => false
def hintT (sz bytes : Nat) : Option Tc := bif Nat.beq sz 1 && Nat.beq bytes 8 then some .cInt else bif Nat.beq sz 3 && Nat.beq bytes 32 then some .cCopy else none
def tD : TD Tc Tc.dn := TD.ofL Tc.ly Tc.ag hintT false
theorem tD_ok : TDok tD := TD.ofL_ok
def lgVoters : LG lrVoters := LG.via (LG.prod (LG.list LG.i64) LG.i64)
theorem opens_i64 : Opens Tryd.prog 3 Int := GoT_i64 Tryd.underlying3 (by kernel_rfl)
theorem opens_Li64 : Opens Tryd.prog 22 (List Int) := opens_slice Tryd.underlying22 (by kernel_rfl) opens_i64 (by decide)
theorem opens_Voters : Opens Tryd.prog 24 Vtr := Opens.via (opens_struct Tryd.underlying24 rfl (by kernel_rfl) (opens_cons opens_Li64 rfl (opens_last opens_i64 rfl))) _ (fun p => ⟨p.1, p.2⟩) (fun _ => rfl)
theorem gl_gN : Tryd.prog.globalNamed "math/bits.deBruijn64tab" = some 0 := by kernel_rfl
theorem gl_cells {W : World} (h : laidMetH Tryd.prog [("math/bits.deBruijn64tab", Rows.laid_math_bits_deBruijn64tab)] W) : ∀ (i : Nat) v, glT[i]? = some v → W.cell? ⟨0, i, none⟩ = some v := by
  rw [MakeChecks.laidMetH_plain _ _ _ (by kernel_rfl)] at h
  have hT := Lib.tabIs_of_head (k := .u8) (zs := glZ) gl_gN (by kernel_rfl) Tryd.underlying158 Tryd.underlying5 (by kernel_rfl) (by kernel_rfl) h
  intro i v hv
  have hi : i < glZ.length := by
    have := (List.getElem?_eq_some_iff.1 hv).1; simpa [glT] using this
  have := hT.cell gl_gN i hi
  rw [this]
  simp only [glT, List.getElem?_map, Option.map_eq_some_iff] at hv
  obtain ⟨z, hz, rfl⟩ := hv
  simp [List.getD, hz]
theorem glE_of {W : World} (h : laidMetH Tryd.prog [("math/bits.deBruijn64tab", Rows.laid_math_bits_deBruijn64tab)] W) : GlE (E0 W fun b => b < W.heap.size) :=
  ⟨cell_lt (gl_cells h 0 _ rfl), gl_cells h⟩
open Go.RowKit
instance : DecidableEq ByteArray := fun a b => decidable_of_iff (strEq a b = true) sxEq_iff
def Stp.lt (a b : Stp) : Prop := a.time < b.time ∨ a.time = b.time ∧ a.who < b.who
instance (a b : Stp) : Decidable (a.lt b) := by unfold Stp.lt; infer_instance
def Stp.okS (s : Stp) : Prop := 0 ≤ s.time ∧ s.time ≤ 1000000 ∧ 0 ≤ s.who ∧ s.who ≤ 31
instance (s : Stp) : Decidable s.okS := by unfold Stp.okS; infer_instance
def Stp.checkE (s : Stp) : Int := if s.okS then 0 else 3
def Copy.checkE (c : Copy) : Int := if c.at_.okS then (if c.data.size > 64 then 2 else 0) else 3
def cmpP (a b : Int) : Int := if a < b then -1 else if a > b then 1 else 0
def Stp.cmp (a b : Stp) : Int := if a.time < b.time then -1 else if a.time > b.time then 1 else cmpP a.who b.who
def termB (t : Term) (a : Ask) (k : Int) : Bool := decide (1 ≤ t.begin ∧ t.begin ≤ k ∧ if a.phase = 3 then t.begin ≤ t.end_ ∧ t.end_ ≤ k else t.end_ = 0)
def k_68 : Con Tc Tc.dn := ⟨68, [.ty .cTerm, .ty .cAsk, .ty .cInt], fun x => (fun (t : Term) (a : Ask) (k : Int) => True) x.1 x.2.1 x.2.2.1, [.cBool], fun x => (fun (t : Term) (a : Ask) (k : Int) => termB t a k) x.1 x.2.1 x.2.2.1⟩
theorem k_68_v (t : Term) (a : Ask) (k : Int) : ((1 : Int) ≤ t.begin → (1 : Int) ≤ t.begin) ∧ ((1 : Int) ≤ t.begin → (1 : Int) ≤ t.begin) ∧ ((1 : Int) ≤ t.begin → (1 : Int) ≤ t.begin) ∧ ((1 : Int) ≤ t.begin → (1 : Int) ≤ t.begin) ∧ (t.begin < (1 : Int) ∨ k < t.begin → false = termB t a k) ∧ ((1 : Int) ≤ t.begin ∧ t.begin ≤ k → (¬a.phase = (3 : Int) → (t.end_ == (0 : Int)) = termB t a k) ∧ (a.phase = (3 : Int) → (t.begin ≤ t.end_ → t.begin ≤ t.end_) ∧ (t.begin ≤ t.end_ → t.begin ≤ t.end_) ∧ (t.begin ≤ t.end_ → t.begin ≤ t.end_) ∧ (t.begin ≤ t.end_ → t.begin ≤ t.end_) ∧ (decide (t.begin ≤ t.end_) && decide (t.end_ ≤ k)) = termB t a k)) := by
  (repeat' (first | apply And.intro | intro _)) <;> first | assumption | trivial | omega | (grind [termB]) | trace_state
theorem k_68_ok : k_68.Ok Tryd.prog tD := con_ok tD_ok (Δ := []) trivial (Ω := []) trivial k_68 F68_ok F68_call (fun _ => []) (fun _ => trivial) 0 (fun x => (fun (t : Term) (a : Ask) (k : Int) => (fun _ => none)) x.1 x.2.1 x.2.2.1) fun x hp => Eq.mp (by kernel_rfl) (k_68_v x.1 x.2.1 x.2.2.1)
def k_106 : Con Tc Tc.dn := ⟨106, [.ty .cInt], fun x => (fun (a : Int) => True) x.1, [.cBool], fun x => (fun (a : Int) => false) x.1⟩
theorem k_106_v (a : Int) : (!a == a) = false := by
  (repeat' (first | apply And.intro | intro _)) <;> first | assumption | trivial | omega | (grind [cmpP]) | trace_state
theorem k_106_ok : k_106.Ok Tryd.prog tD := con_ok tD_ok (Δ := []) trivial (Ω := []) trivial k_106 F106_ok F106_call (fun _ => []) (fun _ => trivial) 0 (fun x => (fun (a : Int) => (fun _ => none)) x.1) fun x hp => Eq.mp (by kernel_rfl) (k_106_v x.1)
def k_77 : Con Tc Tc.dn := ⟨77, [.ty .cInt, .ty .cInt], fun x => (fun (a : Int) (b : Int) => True) x.1 x.2.1, [.cInt], fun x => (fun (a : Int) (b : Int) => cmpP a b) x.1 x.2.1⟩
theorem k_77_v (a : Int) (b : Int) : True ∧ True ∧ (false = true → (false = true → (0 : Int) = cmpP a b) ∧ (false = false → (-1 : Int) = cmpP a b)) ∧ (false = false → (false = true → (1 : Int) = cmpP a b) ∧ (false = false → (a < b → (-1 : Int) = cmpP a b) ∧ (b ≤ a → (b < a → (1 : Int) = cmpP a b) ∧ (a ≤ b → (0 : Int) = cmpP a b)))) := by
  (repeat' (first | apply And.intro | intro _)) <;> first | assumption | trivial | omega | (grind [cmpP]) | trace_state
theorem k_77_ok : k_77.Ok Tryd.prog tD := con_ok tD_ok (Δ := [k_106]) ⟨k_106_ok, trivial⟩ (Ω := []) trivial k_77 F77_ok F77_call (fun _ => []) (fun _ => trivial) 0 (fun x => (fun (a : Int) (b : Int) => (fun _ => none)) x.1 x.2.1) fun x hp => Eq.mp (by kernel_rfl) (k_77_v x.1 x.2.1)
def k_102 : Con Tc Tc.dn := ⟨102, [.ty .cInt], fun x => (fun (s : Int) => True) x.1, [.cBool], fun x => (fun (s : Int) => decide (0 ≤ s ∧ s ≤ 31)) x.1⟩
theorem k_102_v (s : Int) : ((0 : Int) ≤ s → (0 : Int) ≤ s) ∧ ((0 : Int) ≤ s → (0 : Int) ≤ s) ∧ (decide ((0 : Int) ≤ s) && decide (s ≤ (31 : Int))) = decide ((0 : Int) ≤ s ∧ s ≤ (31 : Int)) := by
  (repeat' (first | apply And.intro | intro _)) <;> first | assumption | trivial | omega | (grind [Stp.checkE]) | trace_state
theorem k_102_ok : k_102.Ok Tryd.prog tD := con_ok tD_ok (Δ := []) trivial (Ω := []) trivial k_102 F102_ok F102_call (fun _ => []) (fun _ => trivial) 0 (fun x => (fun (s : Int) => (fun _ => none)) x.1) fun x hp => Eq.mp (by kernel_rfl) (k_102_v x.1)
def k_66 : Con Tc Tc.dn := ⟨66, [.ty .cStamp], fun x => (fun (s : Stp) => True) x.1, [.cInt], fun x => (fun (s : Stp) => s.checkE) x.1⟩
theorem k_66_v (s : Stp) : ((0 : Int) ≤ s.time → (0 : Int) ≤ s.time) ∧ ((0 : Int) ≤ s.time → (0 : Int) ≤ s.time) ∧ ((0 : Int) ≤ s.time → (0 : Int) ≤ s.time) ∧ ((0 : Int) ≤ s.time ∧ s.time ≤ (1000000 : Int) → (0 : Int) ≤ s.time ∧ s.time ≤ (1000000 : Int)) ∧ ((0 : Int) ≤ s.time ∧ s.time ≤ (1000000 : Int) → (0 : Int) ≤ s.time ∧ s.time ≤ (1000000 : Int)) ∧ ((0 : Int) ≤ s.time ∧ s.time ≤ (1000000 : Int) → True) ∧ ((0 : Int) ≤ s.time ∧ s.time ≤ (1000000 : Int) → (0 : Int) ≤ s.time ∧ s.time ≤ (1000000 : Int)) ∧ ((0 : Int) ≤ s.time ∧ s.time ≤ (1000000 : Int) → (0 : Int) ≤ s.time ∧ s.time ≤ (1000000 : Int)) ∧ ((s.time < (0 : Int) ∨ (1000000 : Int) < s.time) ∨ decide ((0 : Int) ≤ s.who ∧ s.who ≤ (31 : Int)) = !true → (3 : Int) = s.checkE) ∧ (((0 : Int) ≤ s.time ∧ s.time ≤ (1000000 : Int)) ∧ decide ((0 : Int) ≤ s.who ∧ s.who ≤ (31 : Int)) = !false → (0 : Int) = s.checkE) := by
  (repeat' (first | apply And.intro | intro _)) <;> first | assumption | trivial | omega | (grind [Stp.checkE, Stp.okS]) | trace_state
theorem k_66_ok : k_66.Ok Tryd.prog tD := con_ok tD_ok (Δ := [k_102]) ⟨k_102_ok, trivial⟩ (Ω := []) trivial k_66 F66_ok F66_call (fun _ => []) (fun _ => trivial) 0 (fun x => (fun (s : Stp) => (fun _ => none)) x.1) fun x hp => Eq.mp (by kernel_rfl) (k_66_v x.1)
def k_46 : Con Tc Tc.dn := ⟨46, [.ty .cCopy], fun x => (fun (c : Copy) => True) x.1, [.cInt], fun x => (fun (c : Copy) => c.checkE) x.1⟩
theorem k_46_v (c : Copy) : True ∧ (c.at_.checkE = (0 : Int) → c.at_.checkE = (0 : Int)) ∧ (c.at_.checkE = (0 : Int) → c.at_.checkE = (0 : Int)) ∧ (c.at_.checkE = (0 : Int) → c.at_.checkE = (0 : Int)) ∧ (c.at_.checkE = (0 : Int) → c.at_.checkE = (0 : Int)) ∧ (c.at_.checkE = (0 : Int) ∧ (64 : Int) < (↑c.data.size : Int) → (2 : Int) = c.checkE) ∧ (¬c.at_.checkE = (0 : Int) ∨ (↑c.data.size : Int) ≤ (64 : Int) → c.at_.checkE = c.checkE) := by
  (repeat' (first | apply And.intro | intro _)) <;> first | assumption | trivial | omega | (grind [Copy.checkE, Stp.checkE, Stp.okS]) | trace_state
theorem k_46_ok : k_46.Ok Tryd.prog tD := con_ok tD_ok (Δ := [k_66]) ⟨k_66_ok, trivial⟩ (Ω := []) trivial k_46 F46_ok F46_call (fun _ => []) (fun _ => trivial) 0 (fun x => (fun (c : Copy) => (fun _ => none)) x.1) fun x hp => Eq.mp (by kernel_rfl) (k_46_v x.1)
open Go.RowKit
def CloneF (sz by_ : Nat) (zs : List AV) : AFn := ⟨8, [.tmp 2],
  .seq (.reg [⟨some 2, .mov (.c .emp), none⟩] none)
  (.seq (.seq (.reg [⟨some 3, .mov (.s 0), none⟩, ⟨some 4, .isn .sl false (.s 3), none⟩] none)
  (.cond (.s 4)
    (.seq (.reg [⟨some 2, .mov (.c .emp), none⟩] none)
    (.ret))
    (.skip)))
  (.seq (.reg [⟨some 5, .bsl sz 0 zs [], none⟩, ⟨some 6, .mov (.s 0), none⟩, ⟨some 7, .app sz by_ (.s 5) (.s 6), none⟩, ⟨some 2, .mov (.s 7), none⟩] none)
  (.ret)))⟩
theorem clone_fo {P : Program} {f : FuncId} {sz by_ : Nat} {zs : List AV} (hF : cFunc P f = some (CloneF sz by_ zs)) {α : Type} (fe : α → List AV) (hp : ∀ y, (fe y).all AV.pu1 = true) (hz : sz ≠ 0) (hzs : zs.length = sz) (xs : List α) (hx : ((xs.length : Nat) : Int) * by_ ≤ 140737488355328) : Fo P f [.lst sz (xs.map fe)] sz (xs.map fe) := by
  refine fo_of ?_
  rw [List.length_map]
  refine fV (m := []) (m' := [some ⟨sz, (xs.map fe)⟩]) hF (of_decide_eq_true (by kernel_rfl)) ?_
  refine srl 1 [0] ⟨[(0, .lst sz (xs.map fe))], []⟩ ?_
  refine EL.seqG [0] (fun y => (y = ⟨[(0, .lst sz (xs.map fe))], []⟩ ∧ ((List.isEmpty xs = true) ∨ (List.isEmpty xs = false)))) ?_ ?_
  · intro IHJ1 HJ1
    refine srr 1 ⟨[(3, .lst sz (xs.map fe)), (0, .lst sz (xs.map fe))], []⟩ ?_
    cases h2 : (List.isEmpty xs)
    · refine ow2 ⟨[(4, .v (.bool false)), (3, .lst sz (xs.map fe)), (0, .lst sz (xs.map fe))], []⟩ (opE_isn_ne fe xs (.s 3) sz false (by kernel_rfl) (by kernel_rfl) (.inl rfl) h2) ?_
      refine owl 0 [0, 4] ⟨[(4, .v (.bool false)), (0, .lst sz (xs.map fe))], []⟩ ?_
      refine cnF ?_
      refine EL.skip ?_
      exact tN (HJ1.get ⟨by kernel_rfl, (Or.inr h2)⟩)
    · refine ow2 ⟨[(4, .anyb), (3, .lst sz (xs.map fe)), (0, .lst sz (xs.map fe))], []⟩ (opE_isn_any fe xs (.s 3) sz false (by kernel_rfl) (by kernel_rfl) (.inl rfl) h2) ?_
      refine owl 0 [0, 4] ⟨[(4, .anyb), (0, .lst sz (xs.map fe))], []⟩ ?_
      refine EL.condAny (by kernel_rfl) ?_ ?_
      · refine srl 1 [2] ⟨[(2, .emp)], []⟩ ?_
        refine rtr ?_
        refine ⟨.inr rfl, ⟨[(2, .own 0 sz 0 (List.length xs))], [some ⟨sz, (xs.map fe)⟩]⟩, norm_le (live := [2]) (src := [.new sz]) (es := [(2, 0)]) (by rw [List.isEmpty_iff.1 h2]; cases sz with | zero => exact absurd rfl hz | succ n => kernel_rfl) trivial, by kernel_rfl, rfl⟩
      · refine EL.skip ?_
        exact tN (HJ1.get ⟨by kernel_rfl, (Or.inl h2)⟩)
  rintro _ (⟨rfl, hD3⟩)
  refine srr 2 ⟨[(6, .lst sz (xs.map fe)), (5, .own 0 sz 0 0), (0, .lst sz (xs.map fe))], [some ⟨sz, []⟩]⟩ ?_
  refine ow2 ⟨(7, .own 1 sz 0 (List.length xs)) :: [(6, .lst sz (xs.map fe)), (5, .own 0 sz 0 0), (0, .lst sz (xs.map fe))], [none, some ⟨sz, (xs.map fe)⟩]⟩ (oap fe ([] : List α) xs (.s 5) (.s 6) sz by_ 0 (.lst sz (xs.map fe)) .lst (by simp; omega)) ?_
  refine owl 1 [2] ⟨[(2, .own 1 sz 0 (List.length xs))], [none, some ⟨sz, (xs.map fe)⟩]⟩ ?_
  refine EL.ret ?_
  exact fne [2] [ut 1] ⟨[(2, .own 0 sz 0 (List.length xs))], [some ⟨sz, (xs.map fe)⟩]⟩ ⟨pq sz fe xs (by kernel_rfl) hp, trivial⟩
theorem clone_fn {P : Program} {f : FuncId} {sz by_ : Nat} {zs : List AV} (hF : cFunc P f = some (CloneF sz by_ zs)) {α : Type} (fe : α → List AV) (hp : ∀ y, (fe y).all AV.pu1 = true) (hz : sz ≠ 0) (hzs : zs.length = sz) (xs : List α) (hx : ((xs.length : Nat) : Int) * by_ ≤ 140737488355328) : Fn P f [.lst sz (xs.map fe)] (.lst sz (xs.map fe)) := by
  refine fnw hF ?_
  refine srl 1 [0] ⟨[(0, .lst sz (xs.map fe))], []⟩ ?_
  refine EL.seqG [0] (fun y => (y = ⟨[(0, .lst sz (xs.map fe))], []⟩ ∧ ((List.isEmpty xs = true) ∨ (List.isEmpty xs = false)))) ?_ ?_
  · intro IHJ1 HJ1
    refine srr 1 ⟨[(3, .lst sz (xs.map fe)), (0, .lst sz (xs.map fe))], []⟩ ?_
    cases h2 : (List.isEmpty xs)
    · refine ow2 ⟨[(4, .v (.bool false)), (3, .lst sz (xs.map fe)), (0, .lst sz (xs.map fe))], []⟩ (opE_isn_ne fe xs (.s 3) sz false (by kernel_rfl) (by kernel_rfl) (.inl rfl) h2) ?_
      refine owl 0 [0, 4] ⟨[(4, .v (.bool false)), (0, .lst sz (xs.map fe))], []⟩ ?_
      refine cnF ?_
      refine EL.skip ?_
      exact tN (HJ1.get ⟨by kernel_rfl, (Or.inr h2)⟩)
    · refine ow2 ⟨[(4, .anyb), (3, .lst sz (xs.map fe)), (0, .lst sz (xs.map fe))], []⟩ (opE_isn_any fe xs (.s 3) sz false (by kernel_rfl) (by kernel_rfl) (.inl rfl) h2) ?_
      refine owl 0 [0, 4] ⟨[(4, .anyb), (0, .lst sz (xs.map fe))], []⟩ ?_
      refine EL.condAny (by kernel_rfl) ?_ ?_
      · refine srl 1 [2] ⟨[(2, .emp)], []⟩ ?_
        refine rtr ?_
        refine rqa (.emp) (Ale.emp (sz := sz)) ?_
        rw [List.isEmpty_iff.1 h2]; rfl
      · refine EL.skip ?_
        exact tN (HJ1.get ⟨by kernel_rfl, (Or.inl h2)⟩)
  rintro _ (⟨rfl, hD3⟩)
  refine srr 2 ⟨[(6, .lst sz (xs.map fe)), (5, .own 0 sz 0 0), (0, .lst sz (xs.map fe))], [some ⟨sz, []⟩]⟩ ?_
  refine ow2 ⟨(7, .own 1 sz 0 (List.length xs)) :: [(6, .lst sz (xs.map fe)), (5, .own 0 sz 0 0), (0, .lst sz (xs.map fe))], [none, some ⟨sz, (xs.map fe)⟩]⟩ (oap fe ([] : List α) xs (.s 5) (.s 6) sz by_ 0 (.lst sz (xs.map fe)) .lst (by simp; omega)) ?_
  refine owl 1 [2] ⟨[(2, .own 1 sz 0 (List.length xs))], [none, some ⟨sz, (xs.map fe)⟩]⟩ ?_
  refine EL.ret ?_
  exact rqs (.lst sz (xs.map fe)) (.own 1 sz 0 (List.length xs)) (snapA_map fe xs (by kernel_rfl) hp (by simp)) rfl
open Go.RowKit
def o_36 : ConO Tc Tc.dn := ⟨36, [.ty .lInt], fun x => ((x.1.length : Nat) : Int) * 8 ≤ 140737488355328, .cInt, fun x => x.1⟩
theorem o_36_ok : o_36.Ok Tryd.prog tD := ⟨⟨F36_call, fun _ => rfl⟩, fun x N hp => clone_fo (sz := 1) (by_ := 8) F36_ok (tD.ea N.ρ .cInt) (fun y => tD_ok.pu1 N .cInt y rfl) (by decide) rfl x.1 hp⟩
def k_36 : Con Tc Tc.dn := ⟨36, [.ty .lInt], fun x => ((x.1.length : Nat) : Int) * 8 ≤ 140737488355328, [.lInt], fun x => x.1⟩
theorem k_36_ok : k_36.Ok Tryd.prog tD := ⟨F36_call, fun x N hp => clone_fn (sz := 1) (by_ := 8) F36_ok (tD.ea N.ρ .cInt) (fun y => tD_ok.pu1 N .cInt y rfl) (by decide) rfl x.1 hp⟩
def o_72 : ConO Tc Tc.dn := ⟨72, [.ty .lCopy], fun x => ((x.1.length : Nat) : Int) * 32 ≤ 140737488355328, .cCopy, fun x => x.1⟩
theorem o_72_ok : o_72.Ok Tryd.prog tD := ⟨⟨F72_call, fun _ => rfl⟩, fun x N hp => clone_fo (sz := 3) (by_ := 32) F72_ok (tD.ea N.ρ .cCopy) (fun y => tD_ok.pu1 N .cCopy y rfl) (by decide) rfl x.1 hp⟩
def o_73 : ConO Tc Tc.dn := ⟨73, [.ty .lAsk], fun x => ((x.1.length : Nat) : Int) * 80 ≤ 140737488355328, .cAsk, fun x => x.1⟩
theorem o_73_ok : o_73.Ok Tryd.prog tD := ⟨⟨F73_call, fun _ => rfl⟩, fun x N hp => clone_fo (sz := 8) (by_ := 80) F73_ok (tD.ea N.ρ .cAsk) (fun y => tD_ok.pu1 N .cAsk y rfl) (by decide) rfl x.1 hp⟩
def o_74 : ConO Tc Tc.dn := ⟨74, [.ty .lTerm], fun x => ((x.1.length : Nat) : Int) * 16 ≤ 140737488355328, .cTerm, fun x => x.1⟩
theorem o_74_ok : o_74.Ok Tryd.prog tD := ⟨⟨F74_call, fun _ => rfl⟩, fun x N hp => clone_fo (sz := 2) (by_ := 16) F74_ok (tD.ea N.ρ .cTerm) (fun y => tD_ok.pu1 N .cTerm y rfl) (by decide) rfl x.1 hp⟩
def o_75 : ConO Tc Tc.dn := ⟨75, [.ty .lMsg], fun x => ((x.1.length : Nat) : Int) * 56 ≤ 140737488355328, .cMsg, fun x => x.1⟩
theorem o_75_ok : o_75.Ok Tryd.prog tD := ⟨⟨F75_call, fun _ => rfl⟩, fun x N hp => clone_fo (sz := 6) (by_ := 56) F75_ok (tD.ea N.ρ .cMsg) (fun y => tD_ok.pu1 N .cMsg y rfl) (by decide) rfl x.1 hp⟩
theorem ba_size (d : ByteArray) : d.size = 0 ↔ d = ByteArray.mk #[] := by
  constructor
  · intro h
    cases d with | mk l => have : l = #[] := Array.size_eq_zero_iff.1 h
                           rw [this]
  · intro h; rw [h]; rfl
def Msg.checkE (m : Msg) : Int :=
  if ¬ (1 ≤ m.kind ∧ m.kind ≤ 4) then 7 else if ¬ (0 ≤ m.op ∧ m.op ≤ 30 ∧ 0 ≤ m.node ∧ m.node ≤ 11) then 3 else if m.copy.checkE ≠ 0 then m.copy.checkE else if ¬ (m.kind = 2 ∨ m.kind = 3) ∧ ¬ (m.copy.at_.time = 0 ∧ m.copy.at_.who = 0 ∧ m.copy.data.size = 0) then 1 else 0
def Clu.small (c : Cluster) : Prop := c.voters.weights.length ≤ 100000 ∧ c.nodes.length ≤ 100000 ∧ c.asks.length ≤ 100000 ∧ c.terms.length ≤ 100000 ∧ c.net.length ≤ 100000
def k_104 : Con Tc Tc.dn := ⟨104, [.ty .cInt], fun x => (fun (n : Int) => True) x.1, [.cBool], fun x => (fun (n : Int) => decide (1 ≤ n ∧ n ≤ 4)) x.1⟩
theorem k_104_v (n : Int) : ((1 : Int) ≤ n → (1 : Int) ≤ n) ∧ ((1 : Int) ≤ n → (1 : Int) ≤ n) ∧ (decide ((1 : Int) ≤ n) && decide (n ≤ (4 : Int))) = decide ((1 : Int) ≤ n ∧ n ≤ (4 : Int)) := by
  (repeat' (first | apply And.intro | intro _)) <;> first | assumption | trivial | omega | (grind []) | trace_state
theorem k_104_ok : k_104.Ok Tryd.prog tD := con_ok tD_ok (Δ := []) trivial (Ω := []) trivial k_104 F104_ok F104_call (fun _ => []) (fun _ => trivial) 0 (fun x => (fun (n : Int) => (fun _ => none)) x.1) fun x hp => Eq.mp (by kernel_rfl) (k_104_v x.1)
def k_105 : Con Tc Tc.dn := ⟨105, [.ty .cInt], fun x => (fun (n : Int) => True) x.1, [.cBool], fun x => (fun (n : Int) => decide (n = 2 ∨ n = 3)) x.1⟩
theorem k_105_v (n : Int) : (¬n = (2 : Int) → ¬n = (2 : Int)) ∧ (¬n = (2 : Int) → ¬n = (2 : Int)) ∧ (n == (2 : Int) || n == (3 : Int)) = decide (n = (2 : Int) ∨ n = (3 : Int)) := by
  (repeat' (first | apply And.intro | intro _)) <;> first | assumption | trivial | omega | (grind []) | trace_state
theorem k_105_ok : k_105.Ok Tryd.prog tD := con_ok tD_ok (Δ := []) trivial (Ω := []) trivial k_105 F105_ok F105_call (fun _ => []) (fun _ => trivial) 0 (fun x => (fun (n : Int) => (fun _ => none)) x.1) fun x hp => Eq.mp (by kernel_rfl) (k_105_v x.1)
def k_69 : Con Tc Tc.dn := ⟨69, [.ty .cMsg], fun x => (fun (m : Msg) => True) x.1, [.cInt], fun x => (fun (m : Msg) => m.checkE) x.1⟩
theorem k_69_v (m : Msg) : True ∧ (decide ((1 : Int) ≤ m.kind ∧ m.kind ≤ (4 : Int)) = !true → (7 : Int) = m.checkE) ∧ (decide ((1 : Int) ≤ m.kind ∧ m.kind ≤ (4 : Int)) = !false → ((0 : Int) ≤ m.op → (0 : Int) ≤ m.op) ∧ ((0 : Int) ≤ m.op → (0 : Int) ≤ m.op) ∧ ((0 : Int) ≤ m.op → (0 : Int) ≤ m.op) ∧ ((0 : Int) ≤ m.op ∧ m.op < (31 : Int) → (0 : Int) ≤ m.node → (0 : Int) ≤ m.node) ∧ ((0 : Int) ≤ m.op ∧ m.op < (31 : Int) → (0 : Int) ≤ m.node → (0 : Int) ≤ m.node) ∧ ((0 : Int) ≤ m.op ∧ m.op < (31 : Int) → (0 : Int) ≤ m.node → (0 : Int) ≤ m.node) ∧ ((m.op < (0 : Int) ∨ (31 : Int) ≤ m.op) ∧ (m.op < (0 : Int) ∨ (31 : Int) ≤ m.op) ∨ ((0 : Int) ≤ m.op ∧ m.op < (31 : Int)) ∧ (m.node < (0 : Int) ∨ (12 : Int) ≤ m.node) → (3 : Int) = m.checkE) ∧ (((0 : Int) ≤ m.op ∧ m.op < (31 : Int) ∨ (0 : Int) ≤ m.op ∧ m.op < (31 : Int)) ∧ ((m.op < (0 : Int) ∨ (31 : Int) ≤ m.op) ∨ (0 : Int) ≤ m.node ∧ m.node < (12 : Int)) → True ∧ (m.copy.checkE = (0 : Int) → m.copy.checkE = (0 : Int)) ∧ (m.copy.checkE = (0 : Int) → m.copy.checkE = (0 : Int)) ∧ (m.copy.checkE = (0 : Int) → True) ∧ (m.copy.checkE = (0 : Int) → m.copy.checkE = (0 : Int)) ∧ (m.copy.checkE = (0 : Int) → m.copy.checkE = (0 : Int)) ∧ (m.copy.checkE = (0 : Int) ∧ decide (m.kind = (2 : Int) ∨ m.kind = (3 : Int)) = !true → m.copy.checkE = (0 : Int) ∧ decide (m.kind = (2 : Int) ∨ m.kind = (3 : Int)) = !true) ∧ (m.copy.checkE = (0 : Int) ∧ decide (m.kind = (2 : Int) ∨ m.kind = (3 : Int)) = !true → m.copy.checkE = (0 : Int) ∧ decide (m.kind = (2 : Int) ∨ m.kind = (3 : Int)) = !true) ∧ (m.copy.checkE = (0 : Int) ∧ decide (m.kind = (2 : Int) ∨ m.kind = (3 : Int)) = !true → m.copy.checkE = (0 : Int) ∧ decide (m.kind = (2 : Int) ∨ m.kind = (3 : Int)) = !true) ∧ (m.copy.checkE = (0 : Int) ∧ decide (m.kind = (2 : Int) ∨ m.kind = (3 : Int)) = !true → m.copy.checkE = (0 : Int) ∧ decide (m.kind = (2 : Int) ∨ m.kind = (3 : Int)) = !true) ∧ ((m.copy.checkE = (0 : Int) ∧ decide (m.kind = (2 : Int) ∨ m.kind = (3 : Int)) = !true) ∧ (¬m.copy.at_.time = (0 : Int) ∨ ¬m.copy.at_.who = (0 : Int) ∨ ¬m.copy.data = ByteArray.mk #[]) → (1 : Int) = m.checkE) ∧ ((¬m.copy.checkE = (0 : Int) ∨ decide (m.kind = (2 : Int) ∨ m.kind = (3 : Int)) = !false) ∨ m.copy.at_.time = (0 : Int) ∧ m.copy.at_.who = (0 : Int) ∧ m.copy.data = ByteArray.mk #[] → m.copy.checkE = m.checkE))) := by
  (repeat' (first | apply And.intro | intro _)) <;> first | assumption | trivial | omega | (grind [Msg.checkE, ba_size]) | trace_state
theorem k_69_ok : k_69.Ok Tryd.prog tD := con_ok tD_ok (Δ := [k_104, k_105, k_46]) ⟨k_104_ok, k_105_ok, k_46_ok, trivial⟩ (Ω := []) trivial k_69 F69_ok F69_call (fun _ => []) (fun _ => trivial) 0 (fun x => (fun (m : Msg) => (fun _ => none)) x.1) fun x hp => Eq.mp (by kernel_rfl) (k_69_v x.1)
def k_52 : Con Tc Tc.dn := ⟨52, [.ty .cCluster], fun x => (fun (c : Cluster) => Clu.small c) x.1, [.cCluster], fun x => (fun (c : Cluster) => c) x.1⟩
theorem k_52_v (c : Cluster) (hp : Clu.small c) : (↑c.voters.weights.length : Int) * (8 : Int) ≤ (140737488355328 : Int) ∧ (↑c.nodes.length : Int) * (32 : Int) ≤ (140737488355328 : Int) ∧ (↑c.asks.length : Int) * (80 : Int) ≤ (140737488355328 : Int) ∧ (↑c.terms.length : Int) * (16 : Int) ≤ (140737488355328 : Int) ∧ (↑c.net.length : Int) * (56 : Int) ≤ (140737488355328 : Int) ∧ c = c := by
  (unfold Clu.small at hp); (repeat' (first | apply And.intro | intro _)) <;> first | assumption | trivial | omega | rfl | trace_state
theorem k_52_ok : k_52.Ok Tryd.prog tD := con_ok tD_ok (Δ := []) trivial (Ω := [o_36, o_72, o_73, o_74, o_75]) ⟨o_36_ok, o_72_ok, o_73_ok, o_74_ok, o_75_ok, trivial⟩ k_52 F52_ok F52_call (fun _ => []) (fun _ => trivial) 0 (fun x => (fun (c : Cluster) => (fun _ => none)) x.1) fun x hp => Eq.mp (by kernel_rfl) (k_52_v x.1 hp)
open Go.RowKit
theorem drop_gd {α : Type} (d : α) (xs : List α) (i : Int) (h0 : 0 ≤ i) (h : i < xs.length) : xs.drop i.toNat = gd d xs i.toNat :: xs.drop (i + 1).toNat := by
  rw [show (i + 1).toNat = i.toNat + 1 by omega]; exact gd_drop d (by omega)
theorem drop_end {α : Type} (xs : List α) (i : Int) (h : xs.length ≤ i) : xs.drop i.toNat = [] := List.drop_eq_nil_of_le (by omega)
def nodesGo : List Int → Int → Int × Int
  | [], a => (a, 0)
  | w :: r, a => if 0 ≤ w ∧ w ≤ 100 then nodesGo r (a + w) else (0, 3)
def nodesP (ws : List Int) : Int × Int := if ws.length = 0 then (0, 8) else if ws.length > 12 then (0, 2) else nodesGo ws 0
def qcheckP (ws : List Int) (need : Int) : Int := if (nodesP ws).2 ≠ 0 then (nodesP ws).2 else if need < 1 ∨ need > (nodesP ws).1 then 3 else if 2 * need ≤ (nodesP ws).1 then 4 else 0
def i_59_0 (ws : (List Int)) (i : Int) (a : Int) : Prop := 0 ≤ i ∧ i ≤ ws.length ∧ ws.length ≤ 12 ∧ ws.length ≠ 0 ∧ nodesGo (ws.drop i.toNat) a = nodesGo ws 0 ∧ 0 ≤ a ∧ a ≤ 100 * i
def k_59 : Con Tc Tc.dn := ⟨59, [.ty .lInt], fun x => (fun (ws : (List Int)) => True) x.1, [.cInt, .cInt], fun x => (fun (ws : (List Int)) => nodesP ws) x.1⟩
theorem k_59_v (ws : (List Int)) : ((↑ws.length : Int) = (0 : Int) → ((0 : Int), (8 : Int)) = nodesP ws) ∧ (¬(↑ws.length : Int) = (0 : Int) → ((12 : Int) < (↑ws.length : Int) → ((0 : Int), (2 : Int)) = nodesP ws) ∧ ((↑ws.length : Int) ≤ (12 : Int) → i_59_0 ws (0 : Int) (0 : Int) ∧ ∀ (x x_1 : Int), i_59_0 ws x x_1 → (x < (↑ws.length : Int) → ((0 : Int) ≤ x ∧ x < (↑ws.length : Int)) ∧ ((0 : Int) ≤ gd (0 : Int) ws x.toNat → (0 : Int) ≤ gd (0 : Int) ws x.toNat) ∧ ((0 : Int) ≤ gd (0 : Int) ws x.toNat → (0 : Int) ≤ gd (0 : Int) ws x.toNat) ∧ (gd (0 : Int) ws x.toNat < (0 : Int) ∨ (100 : Int) < gd (0 : Int) ws x.toNat → ((0 : Int), (3 : Int)) = nodesP ws) ∧ ((0 : Int) ≤ gd (0 : Int) ws x.toNat ∧ gd (0 : Int) ws x.toNat ≤ (100 : Int) → I64 (x_1 + gd (0 : Int) ws x.toNat) ∧ I64 (x + (1 : Int)) ∧ i_59_0 ws (x + (1 : Int)) (x_1 + gd (0 : Int) ws x.toNat) ∧ ((↑ws.length : Int) - (x + (1 : Int))).toNat < ((↑ws.length : Int) - x).toNat)) ∧ ((↑ws.length : Int) ≤ x → (x_1, (0 : Int)) = nodesP ws))) := by
  (repeat' (first | apply And.intro | intro _)) <;> first | assumption | trivial | omega | (grind [nodesP, nodesGo, drop_gd, drop_end, I64, i_59_0]) | trace_state
theorem k_59_ok : k_59.Ok Tryd.prog tD := con_ok tD_ok (Δ := []) trivial (Ω := []) trivial k_59 F59_ok F59_call (fun _ => []) (fun _ => trivial) 0 (fun x => (fun (ws : (List Int)) => (fun k => bif Nat.beq k 0 then some (.inv [.sl 16 .cInt, .sl 2 .cInt] (fun zv => (fun (i : Int) (a : Int) => i_59_0 ws i a) zv.1 zv.2.1) (fun zv => (fun (i : Int) (a : Int) => ((ws.length : Int) - i).toNat) zv.1 zv.2.1)) else none)) x.1) fun x hp => Eq.mp (by kernel_rfl) (k_59_v x.1)
theorem tz_res {x : Nat} (h0 : x ≠ 0) (h : x < 18446744073709551616) : (0 ≤ (IntKind.u64.wrap ((bits .and .u64 (x : Int) (IntKind.u64.wrap (0 - (x : Int)))) * 285870213051353865)).fdiv (2 ^ (min 58 IntKind.u64.bits)) ∧ (IntKind.u64.wrap ((bits .and .u64 (x : Int) (IntKind.u64.wrap (0 - (x : Int)))) * 285870213051353865)).fdiv (2 ^ (min 58 IntKind.u64.bits)) < 64) ∧ glZ.getD (Int.toNat ((IntKind.u64.wrap ((bits .and .u64 (x : Int) (IntKind.u64.wrap (0 - (x : Int)))) * 285870213051353865)).fdiv (2 ^ (min 58 IntKind.u64.bits)))) 0 = (tz x : Int) := by
  rw [neg_bits h0 h]
  exact gl_at (tz_lt 64 x h0 (by simpa using h))
theorem fdn32 {n : Nat} (_ : (0 : Int) ≤ 0) : ((n : Int)).fdiv (2 ^ (min 32 IntKind.u64.bits)) = ((n / 4294967296 : Nat) : Int) := by
  show ((n : Int)).fdiv 4294967296 = _
  rw [Int.fdiv_eq_ediv_of_nonneg _ (by decide)]; omega
theorem fdn16 {n : Nat} (_ : (0 : Int) ≤ 0) : ((n : Int)).fdiv (2 ^ (min 16 IntKind.u64.bits)) = ((n / 65536 : Nat) : Int) := by
  show ((n : Int)).fdiv 65536 = _
  rw [Int.fdiv_eq_ediv_of_nonneg _ (by decide)]; omega
theorem fdn8 {n : Nat} (_ : (0 : Int) ≤ 0) : ((n : Int)).fdiv (2 ^ (min 8 IntKind.u64.bits)) = ((n / 256 : Nat) : Int) := by
  show ((n : Int)).fdiv 256 = _
  rw [Int.fdiv_eq_ediv_of_nonneg _ (by decide)]; omega
theorem wr8 {a : Int} (h : 0 ≤ a ∧ a ≤ 255) : IntKind.u8.wrap a = a := by
  have : IntKind.u8.wrap a = a % 256 := by simp [IntKind.wrap, IntKind.bits, IntKind.signed]
  omega
theorem len64_b {n : Nat} (h : n < 256) {m : Int} (hm : m = n) {b : UInt8} (hb : l8s[Int.toNat m]? = some b) : b.toNat = len64 n := by
  subst hm; exact l8_get h hb
theorem len64_32 {n : Nat} (h : 4294967296 ≤ n) : len64 n = len64 (n / 4294967296) + 32 := len64_shift (k := 32) h
theorem len64_16 {n : Nat} (h : 65536 ≤ n) : len64 n = len64 (n / 65536) + 16 := len64_shift (k := 16) h
theorem len64_s8 {n : Nat} (h : 256 ≤ n) : len64 n = len64 (n / 256) + 8 := len64_shift (k := 8) h
section
variable (x : U64)
abbrev baq0 : LS := [(6, .v (.int .u64 (x.n : Int))), (5, .v (.int .u64 (x.n : Int))), (4, .v (.bool false)), (0, .v (.int .u64 (x.n : Int)))]
end
theorem tz_fn (x : U64) : Fn Tryd.prog 79 [.v (.int .u64 (x.n : Int))] (VI (tz x.n : Int)) := by
 refine fnw F79_ok ?_
 refine srl 1 [0] ⟨[(0, .v (.int .u64 (x.n : Int)))], []⟩ ?_
 refine EL.seq ?_
 refine srl 2 [0, 4] ⟨[(4, .v (.bool ((x.n : Int) == 0))), (0, .v (.int .u64 (x.n : Int)))], []⟩ ?_
 cases h1 : ((x.n : Int) == 0)
 have g1 := bqF h1
 refine cnF ?_
 refine skn ?_
 refine srr 6 ⟨(10, .v (.int .u64 ((IntKind.u64.wrap ((bits .and .u64 (x.n : Int) (IntKind.u64.wrap (0 - (x.n : Int)))) * 285870213051353865)).fdiv (2 ^ (min 58 IntKind.u64.bits))))) :: (9, .v (.int .u64 (IntKind.u64.wrap ((bits .and .u64 (x.n : Int) (IntKind.u64.wrap (0 - (x.n : Int)))) * 285870213051353865)))) :: (8, .v (.int .u64 (bits .and .u64 (x.n : Int) (IntKind.u64.wrap (0 - (x.n : Int)))))) :: (7, .v (.int .u64 (IntKind.u64.wrap (0 - (x.n : Int))))) :: (baq0 x), []⟩ ?_
 refine ow2 ⟨(11, .pim glC (0 + Int.toNat ((IntKind.u64.wrap ((bits .and .u64 (x.n : Int) (IntKind.u64.wrap (0 - (x.n : Int)))) * 285870213051353865)).fdiv (2 ^ (min 58 IntKind.u64.bits))) * 1)) :: (10, .v (.int .u64 ((IntKind.u64.wrap ((bits .and .u64 (x.n : Int) (IntKind.u64.wrap (0 - (x.n : Int)))) * 285870213051353865)).fdiv (2 ^ (min 58 IntKind.u64.bits))))) :: (9, .v (.int .u64 (IntKind.u64.wrap ((bits .and .u64 (x.n : Int) (IntKind.u64.wrap (0 - (x.n : Int)))) * 285870213051353865)))) :: (8, .v (.int .u64 (bits .and .u64 (x.n : Int) (IntKind.u64.wrap (0 - (x.n : Int)))))) :: (7, .v (.int .u64 (IntKind.u64.wrap (0 - (x.n : Int))))) :: (baq0 x), []⟩ (opE_iapP 1 64 (.c (.pim glC 0)) (.s 10) glC 0 .u64 ((IntKind.u64.wrap ((bits .and .u64 (x.n : Int) (IntKind.u64.wrap (0 - (x.n : Int)))) * 285870213051353865)).fdiv (2 ^ (min 58 IntKind.u64.bits))) (by kernel_rfl) (by kernel_rfl) (by kernel_rfl) (by kernel_rfl) ⟨(tz_res (x := x.n) (by omega) x.lt).1.1, (tz_res (x := x.n) (by omega) x.lt).1.2⟩) ?_
 refine ow2 ⟨(12, .v (.int .u8 (glZ.getD (Int.toNat ((IntKind.u64.wrap ((bits .and .u64 (x.n : Int) (IntKind.u64.wrap (0 - (x.n : Int)))) * 285870213051353865)).fdiv (2 ^ (min 58 IntKind.u64.bits)))) 0))) :: (11, .pim glC (0 + Int.toNat ((IntKind.u64.wrap ((bits .and .u64 (x.n : Int) (IntKind.u64.wrap (0 - (x.n : Int)))) * 285870213051353865)).fdiv (2 ^ (min 58 IntKind.u64.bits))) * 1)) :: (10, .v (.int .u64 ((IntKind.u64.wrap ((bits .and .u64 (x.n : Int) (IntKind.u64.wrap (0 - (x.n : Int)))) * 285870213051353865)).fdiv (2 ^ (min 58 IntKind.u64.bits))))) :: (9, .v (.int .u64 (IntKind.u64.wrap ((bits .and .u64 (x.n : Int) (IntKind.u64.wrap (0 - (x.n : Int)))) * 285870213051353865)))) :: (8, .v (.int .u64 (bits .and .u64 (x.n : Int) (IntKind.u64.wrap (0 - (x.n : Int)))))) :: (7, .v (.int .u64 (IntKind.u64.wrap (0 - (x.n : Int))))) :: (baq0 x), []⟩ (opE_ldP none (.s 11) glC (0 + Int.toNat ((IntKind.u64.wrap ((bits .and .u64 (x.n : Int) (IntKind.u64.wrap (0 - (x.n : Int)))) * 285870213051353865)).fdiv (2 ^ (min 58 IntKind.u64.bits))) * 1) (.v (.int .u8 (glZ.getD (Int.toNat ((IntKind.u64.wrap ((bits .and .u64 (x.n : Int) (IntKind.u64.wrap (0 - (x.n : Int)))) * 285870213051353865)).fdiv (2 ^ (min 58 IntKind.u64.bits)))) 0))) (by kernel_rfl) (by kernel_rfl) (by kernel_rfl) (gl_ld (by have ht := tz_res (x := x.n) (by omega) x.lt; rw [show glZ.length = 64 from rfl]; omega))) ?_
 refine owl 2 [2] ⟨[(2, VI (IntKind.i64.wrap ((glZ.getD (Int.toNat ((IntKind.u64.wrap ((bits .and .u64 (x.n : Int) (IntKind.u64.wrap (0 - (x.n : Int)))) * 285870213051353865)).fdiv (2 ^ (min 58 IntKind.u64.bits)))) 0))))], []⟩ ?_
 refine EL.ret ?_
 refine rqe (VI (IntKind.i64.wrap ((glZ.getD (Int.toNat ((IntKind.u64.wrap ((bits .and .u64 (x.n : Int) (IntKind.u64.wrap (0 - (x.n : Int)))) * 285870213051353865)).fdiv (2 ^ (min 58 IntKind.u64.bits)))) 0)))) ?_
 rotate_left
 have g1 := bqT h1
 refine cnT ?_
 refine srl 1 [2] ⟨[(2, VI 64)], []⟩ ?_
 refine rtr ?_
 refine rqe (VI 64) ?_
 rotate_left
 all_goals ((refine congrArg (fun n => VI n) ?_; first | (have h0 : x.n = 0 := (by omega); rw [h0, tz, if_pos rfl]; rfl) | (have ht := tz_res (x := x.n) (by omega) x.lt; rw [ht.2]; have := tz_lt 64 x.n (by omega) (by simpa using x.lt); exact wr64 (by omega)) | trace_state))
section
variable (b14 : UInt8) (b21 : UInt8) (b26 : UInt8) (b35 : UInt8) (b40 : UInt8) (b47 : UInt8) (b52 : UInt8) (b9 : UInt8) (x : U64)
abbrev baq1 : LS := [(5, .v (.int .u64 (x.n : Int))), (4, .v (.bool true)), (2, VI 0)]
abbrev baq2 : LS := [(9, .v (.int .u64 ((x.n / 4294967296 : Nat) : Int))), (8, .v (.bool true)), (2, VI 32)]
abbrev baq3 : LS := [(2, VI 48), (12, VI 48), (11, VI 32), (0, .v (.int .u64 (((x.n / 4294967296 : Nat) / 65536 : Nat) : Int)))]
abbrev baq4 : LS := [(15, .v (.int .u64 (((x.n / 4294967296 : Nat) / 65536 : Nat) : Int))), (14, .v (.bool true)), (2, VI 48)]
abbrev baq5 : LS := [(2, VI 56), (18, VI 56), (17, VI 48), (0, .v (.int .u64 ((((x.n / 4294967296 : Nat) / 65536 : Nat) / 256 : Nat) : Int)))]
abbrev baq6 : LS := (20, .v (.int .u64 ((((x.n / 4294967296 : Nat) / 65536 : Nat) / 256 : Nat) : Int))) :: (19, VI 56) :: (baq5 x)
abbrev baq7 : LS := (22, .v (.int .u8 (UInt8.toNat b9 : Int))) :: (21, .v (.int .u8 (((((x.n / 4294967296 : Nat) / 65536 : Nat) / 256 : Nat) : Int)))) :: (baq6 x)
abbrev baq8 : LS := [(22, .v (.int .u8 (UInt8.toNat b9 : Int))), (21, .v (.int .u8 (((((x.n / 4294967296 : Nat) / 65536 : Nat) / 256 : Nat) : Int)))), (20, .v (.int .u64 ((((x.n / 4294967296 : Nat) / 65536 : Nat) / 256 : Nat) : Int))), (19, VI 56), (18, VI 56), (17, VI 48), (0, .v (.int .u64 ((((x.n / 4294967296 : Nat) / 65536 : Nat) / 256 : Nat) : Int)))]
abbrev baq9 : LS := [(20, .v (.int .u64 (((x.n / 4294967296 : Nat) / 65536 : Nat) : Int))), (19, VI 48), (14, .v (.bool false)), (2, VI 48), (0, .v (.int .u64 (((x.n / 4294967296 : Nat) / 65536 : Nat) : Int)))]
abbrev baq10 : LS := (22, .v (.int .u8 (UInt8.toNat b14 : Int))) :: (21, .v (.int .u8 ((((x.n / 4294967296 : Nat) / 65536 : Nat) : Int)))) :: (baq9 x)
abbrev baq11 : LS := [(22, .v (.int .u8 (UInt8.toNat b14 : Int))), (21, .v (.int .u8 ((((x.n / 4294967296 : Nat) / 65536 : Nat) : Int)))), (20, .v (.int .u64 (((x.n / 4294967296 : Nat) / 65536 : Nat) : Int))), (19, VI 48), (14, .v (.bool false)), (0, .v (.int .u64 (((x.n / 4294967296 : Nat) / 65536 : Nat) : Int)))]
abbrev baq12 : LS := [(15, .v (.int .u64 ((x.n / 4294967296 : Nat) : Int))), (14, .v (.bool true)), (2, VI 32)]
abbrev baq13 : LS := [(2, VI 40), (18, VI 40), (17, VI 32), (0, .v (.int .u64 (((x.n / 4294967296 : Nat) / 256 : Nat) : Int)))]
abbrev baq14 : LS := (20, .v (.int .u64 (((x.n / 4294967296 : Nat) / 256 : Nat) : Int))) :: (19, VI 40) :: (baq13 x)
abbrev baq15 : LS := (22, .v (.int .u8 (UInt8.toNat b21 : Int))) :: (21, .v (.int .u8 ((((x.n / 4294967296 : Nat) / 256 : Nat) : Int)))) :: (baq14 x)
abbrev baq16 : LS := [(22, .v (.int .u8 (UInt8.toNat b21 : Int))), (21, .v (.int .u8 ((((x.n / 4294967296 : Nat) / 256 : Nat) : Int)))), (20, .v (.int .u64 (((x.n / 4294967296 : Nat) / 256 : Nat) : Int))), (19, VI 40), (18, VI 40), (17, VI 32), (0, .v (.int .u64 (((x.n / 4294967296 : Nat) / 256 : Nat) : Int)))]
abbrev baq17 : LS := [(20, .v (.int .u64 ((x.n / 4294967296 : Nat) : Int))), (19, VI 32), (14, .v (.bool false)), (2, VI 32), (0, .v (.int .u64 ((x.n / 4294967296 : Nat) : Int)))]
abbrev baq18 : LS := (22, .v (.int .u8 (UInt8.toNat b26 : Int))) :: (21, .v (.int .u8 (((x.n / 4294967296 : Nat) : Int)))) :: (baq17 x)
abbrev baq19 : LS := [(22, .v (.int .u8 (UInt8.toNat b26 : Int))), (21, .v (.int .u8 (((x.n / 4294967296 : Nat) : Int)))), (20, .v (.int .u64 ((x.n / 4294967296 : Nat) : Int))), (19, VI 32), (14, .v (.bool false)), (0, .v (.int .u64 ((x.n / 4294967296 : Nat) : Int)))]
abbrev baq20 : LS := [(9, .v (.int .u64 (x.n : Int))), (8, .v (.bool true)), (2, VI 0)]
abbrev baq21 : LS := [(2, VI 16), (12, VI 16), (11, VI 0), (0, .v (.int .u64 ((x.n / 65536 : Nat) : Int)))]
abbrev baq22 : LS := [(15, .v (.int .u64 ((x.n / 65536 : Nat) : Int))), (14, .v (.bool true)), (2, VI 16)]
abbrev baq23 : LS := [(2, VI 24), (18, VI 24), (17, VI 16), (0, .v (.int .u64 (((x.n / 65536 : Nat) / 256 : Nat) : Int)))]
abbrev baq24 : LS := (20, .v (.int .u64 (((x.n / 65536 : Nat) / 256 : Nat) : Int))) :: (19, VI 24) :: (baq23 x)
abbrev baq25 : LS := (22, .v (.int .u8 (UInt8.toNat b35 : Int))) :: (21, .v (.int .u8 ((((x.n / 65536 : Nat) / 256 : Nat) : Int)))) :: (baq24 x)
abbrev baq26 : LS := [(22, .v (.int .u8 (UInt8.toNat b35 : Int))), (21, .v (.int .u8 ((((x.n / 65536 : Nat) / 256 : Nat) : Int)))), (20, .v (.int .u64 (((x.n / 65536 : Nat) / 256 : Nat) : Int))), (19, VI 24), (18, VI 24), (17, VI 16), (0, .v (.int .u64 (((x.n / 65536 : Nat) / 256 : Nat) : Int)))]
abbrev baq27 : LS := [(20, .v (.int .u64 ((x.n / 65536 : Nat) : Int))), (19, VI 16), (14, .v (.bool false)), (2, VI 16), (0, .v (.int .u64 ((x.n / 65536 : Nat) : Int)))]
abbrev baq28 : LS := (22, .v (.int .u8 (UInt8.toNat b40 : Int))) :: (21, .v (.int .u8 (((x.n / 65536 : Nat) : Int)))) :: (baq27 x)
abbrev baq29 : LS := [(22, .v (.int .u8 (UInt8.toNat b40 : Int))), (21, .v (.int .u8 (((x.n / 65536 : Nat) : Int)))), (20, .v (.int .u64 ((x.n / 65536 : Nat) : Int))), (19, VI 16), (14, .v (.bool false)), (0, .v (.int .u64 ((x.n / 65536 : Nat) : Int)))]
abbrev baq30 : LS := [(15, .v (.int .u64 (x.n : Int))), (14, .v (.bool true)), (2, VI 0)]
abbrev baq31 : LS := [(2, VI 8), (18, VI 8), (17, VI 0), (0, .v (.int .u64 ((x.n / 256 : Nat) : Int)))]
abbrev baq32 : LS := (20, .v (.int .u64 ((x.n / 256 : Nat) : Int))) :: (19, VI 8) :: (baq31 x)
abbrev baq33 : LS := (22, .v (.int .u8 (UInt8.toNat b47 : Int))) :: (21, .v (.int .u8 (((x.n / 256 : Nat) : Int)))) :: (baq32 x)
abbrev baq34 : LS := [(22, .v (.int .u8 (UInt8.toNat b47 : Int))), (21, .v (.int .u8 (((x.n / 256 : Nat) : Int)))), (20, .v (.int .u64 ((x.n / 256 : Nat) : Int))), (19, VI 8), (18, VI 8), (17, VI 0), (0, .v (.int .u64 ((x.n / 256 : Nat) : Int)))]
abbrev baq35 : LS := [(20, .v (.int .u64 (x.n : Int))), (19, VI 0), (14, .v (.bool false)), (2, VI 0), (0, .v (.int .u64 (x.n : Int)))]
abbrev baq36 : LS := (22, .v (.int .u8 (UInt8.toNat b52 : Int))) :: (21, .v (.int .u8 ((x.n : Int)))) :: (baq35 x)
abbrev baq37 : LS := [(22, .v (.int .u8 (UInt8.toNat b52 : Int))), (21, .v (.int .u8 ((x.n : Int)))), (20, .v (.int .u64 (x.n : Int))), (19, VI 0), (14, .v (.bool false)), (0, .v (.int .u64 (x.n : Int)))]
end
theorem len64_fn (x : U64) : Fn Tryd.prog 78 [.v (.int .u64 (x.n : Int))] (VI (len64 x.n : Int)) := by
 have hlt := x.lt
 have hz : l8s.size = 256 := rfl
 refine fnw F78_ok ?_
 refine srl 1 [0, 2] ⟨[(2, VI 0), (0, .v (.int .u64 (x.n : Int)))], []⟩ ?_
 refine EL.seq ?_
 refine srl 2 [0, 2, 4] ⟨[(4, .v (.bool (decide ((x.n : Int) ≥ 4294967296)))), (2, VI 0), (0, .v (.int .u64 (x.n : Int)))], []⟩ ?_
 cases h1 : (decide ((x.n : Int) ≥ 4294967296))
 have g1 := of_decide_eq_false h1
 refine cnF ?_
 refine skn ?_
 refine EL.seq ?_
 refine srl 2 [0, 2, 8] ⟨[(8, .v (.bool (decide ((x.n : Int) ≥ 65536)))), (2, VI 0), (0, .v (.int .u64 (x.n : Int)))], []⟩ ?_
 cases h29 : (decide ((x.n : Int) ≥ 65536))
 have g29 := of_decide_eq_false h29
 refine cnF ?_
 refine skn ?_
 refine EL.seq ?_
 refine srl 2 [0, 2, 14] ⟨[(14, .v (.bool (decide ((x.n : Int) ≥ 256)))), (2, VI 0), (0, .v (.int .u64 (x.n : Int)))], []⟩ ?_
 cases h43 : (decide ((x.n : Int) ≥ 256))
 have g43 := of_decide_eq_false h43
 refine cnF ?_
 refine skn ?_
 refine srr 3 ⟨(21, .v (.int .u8 (IntKind.u8.wrap ((x.n : Int))))) :: (baq35 x), []⟩ ?_
 have e51 : IntKind.u8.wrap ((x.n : Int)) = (x.n : Int) := wr8 (by omega)
 rw [e51]
 obtain ⟨b52, hb52⟩ : ∃ b, l8s[Int.toNat ((x.n : Int))]? = some b := six_ex ⟨by omega, by omega⟩
 have qb52 := UInt8.toNat_lt b52
 refine ow2 ⟨(baq36 b52 x), []⟩ (opE_six l8s (.c (.v (.string l8s))) (.s 21) .u8 ((x.n : Int)) b52 (by kernel_rfl) (by kernel_rfl) (by kernel_rfl) (by kernel_rfl) (by omega) hb52) ?_
 refine owr 3 ⟨(2, VI (IntKind.i64.wrap (0 + (IntKind.i64.wrap ((UInt8.toNat b52 : Int)))))) :: (24, VI (IntKind.i64.wrap (0 + (IntKind.i64.wrap ((UInt8.toNat b52 : Int)))))) :: (23, VI (IntKind.i64.wrap ((UInt8.toNat b52 : Int)))) :: (baq37 b52 x), []⟩ ?_
 have e53 := wr64 (n := (UInt8.toNat b52 : Int)) (by omega)
 rw [e53]
 have e54 := wr64 (n := 0 + ((UInt8.toNat b52 : Int))) (by omega)
 rw [e54]
 refine owl 0 [2] ⟨[(2, VI (0 + ((UInt8.toNat b52 : Int))))], []⟩ ?_
 refine EL.ret ?_
 refine rqe (VI (0 + ((UInt8.toNat b52 : Int)))) ?_
 rotate_left
 have g43 := of_decide_eq_true h43
 refine cnT ?_
 refine srr 3 ⟨(0, .v (.int .u64 (((x.n : Int)).fdiv (2 ^ (min 8 IntKind.u64.bits))))) :: (16, .v (.int .u64 (((x.n : Int)).fdiv (2 ^ (min 8 IntKind.u64.bits))))) :: (baq30 x), []⟩ ?_
 have e44 : ((x.n : Int)).fdiv (2 ^ (min 8 IntKind.u64.bits)) = ((x.n / 256 : Nat) : Int) := fdn8 (by omega)
 rw [e44]
 refine owl 0 [0, 2] ⟨[(0, .v (.int .u64 ((x.n / 256 : Nat) : Int))), (2, VI 0)], []⟩ ?_
 refine roe 3 ⟨(baq31 x), []⟩ ?_
 refine tN ?_
 refine srr 3 ⟨(21, .v (.int .u8 (IntKind.u8.wrap (((x.n / 256 : Nat) : Int))))) :: (baq32 x), []⟩ ?_
 have e46 : IntKind.u8.wrap (((x.n / 256 : Nat) : Int)) = ((x.n / 256 : Nat) : Int) := wr8 (by omega)
 rw [e46]
 obtain ⟨b47, hb47⟩ : ∃ b, l8s[Int.toNat (((x.n / 256 : Nat) : Int))]? = some b := six_ex ⟨by omega, by omega⟩
 have qb47 := UInt8.toNat_lt b47
 refine ow2 ⟨(baq33 b47 x), []⟩ (opE_six l8s (.c (.v (.string l8s))) (.s 21) .u8 (((x.n / 256 : Nat) : Int)) b47 (by kernel_rfl) (by kernel_rfl) (by kernel_rfl) (by kernel_rfl) (by omega) hb47) ?_
 refine owr 3 ⟨(2, VI (IntKind.i64.wrap (8 + (IntKind.i64.wrap ((UInt8.toNat b47 : Int)))))) :: (24, VI (IntKind.i64.wrap (8 + (IntKind.i64.wrap ((UInt8.toNat b47 : Int)))))) :: (23, VI (IntKind.i64.wrap ((UInt8.toNat b47 : Int)))) :: (baq34 b47 x), []⟩ ?_
 have e48 := wr64 (n := (UInt8.toNat b47 : Int)) (by omega)
 rw [e48]
 have e49 := wr64 (n := 8 + ((UInt8.toNat b47 : Int))) (by omega)
 rw [e49]
 refine owl 0 [2] ⟨[(2, VI (8 + ((UInt8.toNat b47 : Int))))], []⟩ ?_
 refine EL.ret ?_
 refine rqe (VI (8 + ((UInt8.toNat b47 : Int)))) ?_
 rotate_left
 have g29 := of_decide_eq_true h29
 refine cnT ?_
 refine srr 3 ⟨(0, .v (.int .u64 (((x.n : Int)).fdiv (2 ^ (min 16 IntKind.u64.bits))))) :: (10, .v (.int .u64 (((x.n : Int)).fdiv (2 ^ (min 16 IntKind.u64.bits))))) :: (baq20 x), []⟩ ?_
 have e30 : ((x.n : Int)).fdiv (2 ^ (min 16 IntKind.u64.bits)) = ((x.n / 65536 : Nat) : Int) := fdn16 (by omega)
 rw [e30]
 refine owl 0 [0, 2] ⟨[(0, .v (.int .u64 ((x.n / 65536 : Nat) : Int))), (2, VI 0)], []⟩ ?_
 refine roe 3 ⟨(baq21 x), []⟩ ?_
 refine tN ?_
 refine EL.seq ?_
 refine srl 2 [0, 2, 14] ⟨[(14, .v (.bool (decide (((x.n / 65536 : Nat) : Int) ≥ 256)))), (2, VI 16), (0, .v (.int .u64 ((x.n / 65536 : Nat) : Int)))], []⟩ ?_
 cases h31 : (decide (((x.n / 65536 : Nat) : Int) ≥ 256))
 have g31 := of_decide_eq_false h31
 refine cnF ?_
 refine skn ?_
 refine srr 3 ⟨(21, .v (.int .u8 (IntKind.u8.wrap (((x.n / 65536 : Nat) : Int))))) :: (baq27 x), []⟩ ?_
 have e39 : IntKind.u8.wrap (((x.n / 65536 : Nat) : Int)) = ((x.n / 65536 : Nat) : Int) := wr8 (by omega)
 rw [e39]
 obtain ⟨b40, hb40⟩ : ∃ b, l8s[Int.toNat (((x.n / 65536 : Nat) : Int))]? = some b := six_ex ⟨by omega, by omega⟩
 have qb40 := UInt8.toNat_lt b40
 refine ow2 ⟨(baq28 b40 x), []⟩ (opE_six l8s (.c (.v (.string l8s))) (.s 21) .u8 (((x.n / 65536 : Nat) : Int)) b40 (by kernel_rfl) (by kernel_rfl) (by kernel_rfl) (by kernel_rfl) (by omega) hb40) ?_
 refine owr 3 ⟨(2, VI (IntKind.i64.wrap (16 + (IntKind.i64.wrap ((UInt8.toNat b40 : Int)))))) :: (24, VI (IntKind.i64.wrap (16 + (IntKind.i64.wrap ((UInt8.toNat b40 : Int)))))) :: (23, VI (IntKind.i64.wrap ((UInt8.toNat b40 : Int)))) :: (baq29 b40 x), []⟩ ?_
 have e41 := wr64 (n := (UInt8.toNat b40 : Int)) (by omega)
 rw [e41]
 have e42 := wr64 (n := 16 + ((UInt8.toNat b40 : Int))) (by omega)
 rw [e42]
 refine owl 0 [2] ⟨[(2, VI (16 + ((UInt8.toNat b40 : Int))))], []⟩ ?_
 refine EL.ret ?_
 refine rqe (VI (16 + ((UInt8.toNat b40 : Int)))) ?_
 rotate_left
 have g31 := of_decide_eq_true h31
 refine cnT ?_
 refine srr 3 ⟨(0, .v (.int .u64 ((((x.n / 65536 : Nat) : Int)).fdiv (2 ^ (min 8 IntKind.u64.bits))))) :: (16, .v (.int .u64 ((((x.n / 65536 : Nat) : Int)).fdiv (2 ^ (min 8 IntKind.u64.bits))))) :: (baq22 x), []⟩ ?_
 have e32 : (((x.n / 65536 : Nat) : Int)).fdiv (2 ^ (min 8 IntKind.u64.bits)) = (((x.n / 65536 : Nat) / 256 : Nat) : Int) := fdn8 (by omega)
 rw [e32]
 refine owl 0 [0, 2] ⟨[(0, .v (.int .u64 (((x.n / 65536 : Nat) / 256 : Nat) : Int))), (2, VI 16)], []⟩ ?_
 refine roe 3 ⟨(baq23 x), []⟩ ?_
 refine tN ?_
 refine srr 3 ⟨(21, .v (.int .u8 (IntKind.u8.wrap ((((x.n / 65536 : Nat) / 256 : Nat) : Int))))) :: (baq24 x), []⟩ ?_
 have e34 : IntKind.u8.wrap ((((x.n / 65536 : Nat) / 256 : Nat) : Int)) = (((x.n / 65536 : Nat) / 256 : Nat) : Int) := wr8 (by omega)
 rw [e34]
 obtain ⟨b35, hb35⟩ : ∃ b, l8s[Int.toNat ((((x.n / 65536 : Nat) / 256 : Nat) : Int))]? = some b := six_ex ⟨by omega, by omega⟩
 have qb35 := UInt8.toNat_lt b35
 refine ow2 ⟨(baq25 b35 x), []⟩ (opE_six l8s (.c (.v (.string l8s))) (.s 21) .u8 ((((x.n / 65536 : Nat) / 256 : Nat) : Int)) b35 (by kernel_rfl) (by kernel_rfl) (by kernel_rfl) (by kernel_rfl) (by omega) hb35) ?_
 refine owr 3 ⟨(2, VI (IntKind.i64.wrap (24 + (IntKind.i64.wrap ((UInt8.toNat b35 : Int)))))) :: (24, VI (IntKind.i64.wrap (24 + (IntKind.i64.wrap ((UInt8.toNat b35 : Int)))))) :: (23, VI (IntKind.i64.wrap ((UInt8.toNat b35 : Int)))) :: (baq26 b35 x), []⟩ ?_
 have e36 := wr64 (n := (UInt8.toNat b35 : Int)) (by omega)
 rw [e36]
 have e37 := wr64 (n := 24 + ((UInt8.toNat b35 : Int))) (by omega)
 rw [e37]
 refine owl 0 [2] ⟨[(2, VI (24 + ((UInt8.toNat b35 : Int))))], []⟩ ?_
 refine EL.ret ?_
 refine rqe (VI (24 + ((UInt8.toNat b35 : Int)))) ?_
 rotate_left
 have g1 := of_decide_eq_true h1
 refine cnT ?_
 refine srr 3 ⟨(0, .v (.int .u64 (((x.n : Int)).fdiv (2 ^ (min 32 IntKind.u64.bits))))) :: (6, .v (.int .u64 (((x.n : Int)).fdiv (2 ^ (min 32 IntKind.u64.bits))))) :: (baq1 x), []⟩ ?_
 have e2 : ((x.n : Int)).fdiv (2 ^ (min 32 IntKind.u64.bits)) = ((x.n / 4294967296 : Nat) : Int) := fdn32 (by omega)
 rw [e2]
 refine owl 0 [0] ⟨[(0, .v (.int .u64 ((x.n / 4294967296 : Nat) : Int)))], []⟩ ?_
 refine roe 1 ⟨[(2, VI 32), (0, .v (.int .u64 ((x.n / 4294967296 : Nat) : Int)))], []⟩ ?_
 refine tN ?_
 refine EL.seq ?_
 refine srl 2 [0, 2, 8] ⟨[(8, .v (.bool (decide (((x.n / 4294967296 : Nat) : Int) ≥ 65536)))), (2, VI 32), (0, .v (.int .u64 ((x.n / 4294967296 : Nat) : Int)))], []⟩ ?_
 cases h3 : (decide (((x.n / 4294967296 : Nat) : Int) ≥ 65536))
 have g3 := of_decide_eq_false h3
 refine cnF ?_
 refine skn ?_
 refine EL.seq ?_
 refine srl 2 [0, 2, 14] ⟨[(14, .v (.bool (decide (((x.n / 4294967296 : Nat) : Int) ≥ 256)))), (2, VI 32), (0, .v (.int .u64 ((x.n / 4294967296 : Nat) : Int)))], []⟩ ?_
 cases h17 : (decide (((x.n / 4294967296 : Nat) : Int) ≥ 256))
 have g17 := of_decide_eq_false h17
 refine cnF ?_
 refine skn ?_
 refine srr 3 ⟨(21, .v (.int .u8 (IntKind.u8.wrap (((x.n / 4294967296 : Nat) : Int))))) :: (baq17 x), []⟩ ?_
 have e25 : IntKind.u8.wrap (((x.n / 4294967296 : Nat) : Int)) = ((x.n / 4294967296 : Nat) : Int) := wr8 (by omega)
 rw [e25]
 obtain ⟨b26, hb26⟩ : ∃ b, l8s[Int.toNat (((x.n / 4294967296 : Nat) : Int))]? = some b := six_ex ⟨by omega, by omega⟩
 have qb26 := UInt8.toNat_lt b26
 refine ow2 ⟨(baq18 b26 x), []⟩ (opE_six l8s (.c (.v (.string l8s))) (.s 21) .u8 (((x.n / 4294967296 : Nat) : Int)) b26 (by kernel_rfl) (by kernel_rfl) (by kernel_rfl) (by kernel_rfl) (by omega) hb26) ?_
 refine owr 3 ⟨(2, VI (IntKind.i64.wrap (32 + (IntKind.i64.wrap ((UInt8.toNat b26 : Int)))))) :: (24, VI (IntKind.i64.wrap (32 + (IntKind.i64.wrap ((UInt8.toNat b26 : Int)))))) :: (23, VI (IntKind.i64.wrap ((UInt8.toNat b26 : Int)))) :: (baq19 b26 x), []⟩ ?_
 have e27 := wr64 (n := (UInt8.toNat b26 : Int)) (by omega)
 rw [e27]
 have e28 := wr64 (n := 32 + ((UInt8.toNat b26 : Int))) (by omega)
 rw [e28]
 refine owl 0 [2] ⟨[(2, VI (32 + ((UInt8.toNat b26 : Int))))], []⟩ ?_
 refine EL.ret ?_
 refine rqe (VI (32 + ((UInt8.toNat b26 : Int)))) ?_
 rotate_left
 have g17 := of_decide_eq_true h17
 refine cnT ?_
 refine srr 3 ⟨(0, .v (.int .u64 ((((x.n / 4294967296 : Nat) : Int)).fdiv (2 ^ (min 8 IntKind.u64.bits))))) :: (16, .v (.int .u64 ((((x.n / 4294967296 : Nat) : Int)).fdiv (2 ^ (min 8 IntKind.u64.bits))))) :: (baq12 x), []⟩ ?_
 have e18 : (((x.n / 4294967296 : Nat) : Int)).fdiv (2 ^ (min 8 IntKind.u64.bits)) = (((x.n / 4294967296 : Nat) / 256 : Nat) : Int) := fdn8 (by omega)
 rw [e18]
 refine owl 0 [0, 2] ⟨[(0, .v (.int .u64 (((x.n / 4294967296 : Nat) / 256 : Nat) : Int))), (2, VI 32)], []⟩ ?_
 refine roe 3 ⟨(baq13 x), []⟩ ?_
 refine tN ?_
 refine srr 3 ⟨(21, .v (.int .u8 (IntKind.u8.wrap ((((x.n / 4294967296 : Nat) / 256 : Nat) : Int))))) :: (baq14 x), []⟩ ?_
 have e20 : IntKind.u8.wrap ((((x.n / 4294967296 : Nat) / 256 : Nat) : Int)) = (((x.n / 4294967296 : Nat) / 256 : Nat) : Int) := wr8 (by omega)
 rw [e20]
 obtain ⟨b21, hb21⟩ : ∃ b, l8s[Int.toNat ((((x.n / 4294967296 : Nat) / 256 : Nat) : Int))]? = some b := six_ex ⟨by omega, by omega⟩
 have qb21 := UInt8.toNat_lt b21
 refine ow2 ⟨(baq15 b21 x), []⟩ (opE_six l8s (.c (.v (.string l8s))) (.s 21) .u8 ((((x.n / 4294967296 : Nat) / 256 : Nat) : Int)) b21 (by kernel_rfl) (by kernel_rfl) (by kernel_rfl) (by kernel_rfl) (by omega) hb21) ?_
 refine owr 3 ⟨(2, VI (IntKind.i64.wrap (40 + (IntKind.i64.wrap ((UInt8.toNat b21 : Int)))))) :: (24, VI (IntKind.i64.wrap (40 + (IntKind.i64.wrap ((UInt8.toNat b21 : Int)))))) :: (23, VI (IntKind.i64.wrap ((UInt8.toNat b21 : Int)))) :: (baq16 b21 x), []⟩ ?_
 have e22 := wr64 (n := (UInt8.toNat b21 : Int)) (by omega)
 rw [e22]
 have e23 := wr64 (n := 40 + ((UInt8.toNat b21 : Int))) (by omega)
 rw [e23]
 refine owl 0 [2] ⟨[(2, VI (40 + ((UInt8.toNat b21 : Int))))], []⟩ ?_
 refine EL.ret ?_
 refine rqe (VI (40 + ((UInt8.toNat b21 : Int)))) ?_
 rotate_left
 have g3 := of_decide_eq_true h3
 refine cnT ?_
 refine srr 3 ⟨(0, .v (.int .u64 ((((x.n / 4294967296 : Nat) : Int)).fdiv (2 ^ (min 16 IntKind.u64.bits))))) :: (10, .v (.int .u64 ((((x.n / 4294967296 : Nat) : Int)).fdiv (2 ^ (min 16 IntKind.u64.bits))))) :: (baq2 x), []⟩ ?_
 have e4 : (((x.n / 4294967296 : Nat) : Int)).fdiv (2 ^ (min 16 IntKind.u64.bits)) = (((x.n / 4294967296 : Nat) / 65536 : Nat) : Int) := fdn16 (by omega)
 rw [e4]
 refine owl 0 [0, 2] ⟨[(0, .v (.int .u64 (((x.n / 4294967296 : Nat) / 65536 : Nat) : Int))), (2, VI 32)], []⟩ ?_
 refine roe 3 ⟨(baq3 x), []⟩ ?_
 refine tN ?_
 refine EL.seq ?_
 refine srl 2 [0, 2, 14] ⟨[(14, .v (.bool (decide ((((x.n / 4294967296 : Nat) / 65536 : Nat) : Int) ≥ 256)))), (2, VI 48), (0, .v (.int .u64 (((x.n / 4294967296 : Nat) / 65536 : Nat) : Int)))], []⟩ ?_
 cases h5 : (decide ((((x.n / 4294967296 : Nat) / 65536 : Nat) : Int) ≥ 256))
 have g5 := of_decide_eq_false h5
 refine cnF ?_
 refine skn ?_
 refine srr 3 ⟨(21, .v (.int .u8 (IntKind.u8.wrap ((((x.n / 4294967296 : Nat) / 65536 : Nat) : Int))))) :: (baq9 x), []⟩ ?_
 have e13 : IntKind.u8.wrap ((((x.n / 4294967296 : Nat) / 65536 : Nat) : Int)) = (((x.n / 4294967296 : Nat) / 65536 : Nat) : Int) := wr8 (by omega)
 rw [e13]
 obtain ⟨b14, hb14⟩ : ∃ b, l8s[Int.toNat ((((x.n / 4294967296 : Nat) / 65536 : Nat) : Int))]? = some b := six_ex ⟨by omega, by omega⟩
 have qb14 := UInt8.toNat_lt b14
 refine ow2 ⟨(baq10 b14 x), []⟩ (opE_six l8s (.c (.v (.string l8s))) (.s 21) .u8 ((((x.n / 4294967296 : Nat) / 65536 : Nat) : Int)) b14 (by kernel_rfl) (by kernel_rfl) (by kernel_rfl) (by kernel_rfl) (by omega) hb14) ?_
 refine owr 3 ⟨(2, VI (IntKind.i64.wrap (48 + (IntKind.i64.wrap ((UInt8.toNat b14 : Int)))))) :: (24, VI (IntKind.i64.wrap (48 + (IntKind.i64.wrap ((UInt8.toNat b14 : Int)))))) :: (23, VI (IntKind.i64.wrap ((UInt8.toNat b14 : Int)))) :: (baq11 b14 x), []⟩ ?_
 have e15 := wr64 (n := (UInt8.toNat b14 : Int)) (by omega)
 rw [e15]
 have e16 := wr64 (n := 48 + ((UInt8.toNat b14 : Int))) (by omega)
 rw [e16]
 refine owl 0 [2] ⟨[(2, VI (48 + ((UInt8.toNat b14 : Int))))], []⟩ ?_
 refine EL.ret ?_
 refine rqe (VI (48 + ((UInt8.toNat b14 : Int)))) ?_
 rotate_left
 have g5 := of_decide_eq_true h5
 refine cnT ?_
 refine srr 3 ⟨(0, .v (.int .u64 (((((x.n / 4294967296 : Nat) / 65536 : Nat) : Int)).fdiv (2 ^ (min 8 IntKind.u64.bits))))) :: (16, .v (.int .u64 (((((x.n / 4294967296 : Nat) / 65536 : Nat) : Int)).fdiv (2 ^ (min 8 IntKind.u64.bits))))) :: (baq4 x), []⟩ ?_
 have e6 : ((((x.n / 4294967296 : Nat) / 65536 : Nat) : Int)).fdiv (2 ^ (min 8 IntKind.u64.bits)) = ((((x.n / 4294967296 : Nat) / 65536 : Nat) / 256 : Nat) : Int) := fdn8 (by omega)
 rw [e6]
 refine owl 0 [0, 2] ⟨[(0, .v (.int .u64 ((((x.n / 4294967296 : Nat) / 65536 : Nat) / 256 : Nat) : Int))), (2, VI 48)], []⟩ ?_
 refine roe 3 ⟨(baq5 x), []⟩ ?_
 refine tN ?_
 refine srr 3 ⟨(21, .v (.int .u8 (IntKind.u8.wrap (((((x.n / 4294967296 : Nat) / 65536 : Nat) / 256 : Nat) : Int))))) :: (baq6 x), []⟩ ?_
 have e8 : IntKind.u8.wrap (((((x.n / 4294967296 : Nat) / 65536 : Nat) / 256 : Nat) : Int)) = ((((x.n / 4294967296 : Nat) / 65536 : Nat) / 256 : Nat) : Int) := wr8 (by omega)
 rw [e8]
 obtain ⟨b9, hb9⟩ : ∃ b, l8s[Int.toNat (((((x.n / 4294967296 : Nat) / 65536 : Nat) / 256 : Nat) : Int))]? = some b := six_ex ⟨by omega, by omega⟩
 have qb9 := UInt8.toNat_lt b9
 refine ow2 ⟨(baq7 b9 x), []⟩ (opE_six l8s (.c (.v (.string l8s))) (.s 21) .u8 (((((x.n / 4294967296 : Nat) / 65536 : Nat) / 256 : Nat) : Int)) b9 (by kernel_rfl) (by kernel_rfl) (by kernel_rfl) (by kernel_rfl) (by omega) hb9) ?_
 refine owr 3 ⟨(2, VI (IntKind.i64.wrap (56 + (IntKind.i64.wrap ((UInt8.toNat b9 : Int)))))) :: (24, VI (IntKind.i64.wrap (56 + (IntKind.i64.wrap ((UInt8.toNat b9 : Int)))))) :: (23, VI (IntKind.i64.wrap ((UInt8.toNat b9 : Int)))) :: (baq8 b9 x), []⟩ ?_
 have e10 := wr64 (n := (UInt8.toNat b9 : Int)) (by omega)
 rw [e10]
 have e11 := wr64 (n := 56 + ((UInt8.toNat b9 : Int))) (by omega)
 rw [e11]
 refine owl 0 [2] ⟨[(2, VI (56 + ((UInt8.toNat b9 : Int))))], []⟩ ?_
 refine EL.ret ?_
 refine rqe (VI (56 + ((UInt8.toNat b9 : Int)))) ?_
 rotate_left
 all_goals ((refine congrArg (fun n => VI n) ?_; have hlt := x.lt; first | (have h0 := len64_32 (n := x.n) (by omega); have h1 := len64_16 (n := x.n / 4294967296) (by omega); have h2 := len64_s8 (n := x.n / 4294967296 / 65536) (by omega);  have hl := len64_b (n := x.n / 4294967296 / 65536 / 256) (by omega) rfl (by assumption); omega) | (have h0 := len64_32 (n := x.n) (by omega); have h1 := len64_16 (n := x.n / 4294967296) (by omega);  have hl := len64_b (n := x.n / 4294967296 / 65536) (by omega) rfl (by assumption); omega) | (have h0 := len64_32 (n := x.n) (by omega); have h1 := len64_s8 (n := x.n / 4294967296) (by omega);  have hl := len64_b (n := x.n / 4294967296 / 256) (by omega) rfl (by assumption); omega) | (have h0 := len64_32 (n := x.n) (by omega);  have hl := len64_b (n := x.n / 4294967296) (by omega) rfl (by assumption); omega) | (have h0 := len64_16 (n := x.n) (by omega); have h1 := len64_s8 (n := x.n / 65536) (by omega);  have hl := len64_b (n := x.n / 65536 / 256) (by omega) rfl (by assumption); omega) | (have h0 := len64_16 (n := x.n) (by omega);  have hl := len64_b (n := x.n / 65536) (by omega) rfl (by assumption); omega) | (have h0 := len64_s8 (n := x.n) (by omega);  have hl := len64_b (n := x.n / 256) (by omega) rfl (by assumption); omega) | ( have hl := len64_b (n := x.n) (by omega) rfl (by assumption); omega) | trace_state))
open Go.RowKit
theorem nodesGo_bd : ∀ (ws : List Int) (a : Int), 0 ≤ a → (nodesGo ws a).2 = 0 → a ≤ (nodesGo ws a).1 ∧ (nodesGo ws a).1 ≤ a + 100 * ws.length
  | [], a, h, _ => by simp [nodesGo]
  | w :: r, a, h, h2 => by
    unfold nodesGo at h2 ⊢
    split
    · rename_i hw
      rw [if_pos hw] at h2
      have := nodesGo_bd r (a + w) (by omega) h2
      simp only [List.length_cons]; omega
    · rename_i hw; rw [if_neg hw] at h2; simp at h2
theorem nodes_bd {ws : List Int} (h : (nodesP ws).2 = 0) : 0 ≤ (nodesP ws).1 ∧ (nodesP ws).1 ≤ 1200 ∧ 1 ≤ ws.length ∧ ws.length ≤ 12 ∧ ∀ w, w ∈ ws → 0 ≤ w ∧ w ≤ 100 := by
  unfold nodesP at h ⊢
  by_cases h1 : ws.length = 0
  · rw [if_pos h1] at h; simp at h
  · by_cases h2 : ws.length > 12
    · rw [if_neg h1, if_pos h2] at h; simp at h
    · rw [if_neg h1, if_neg h2] at h ⊢
      have := nodesGo_bd ws 0 (by omega) h
      refine ⟨this.1, by omega, by omega, by omega, ?_⟩
      have key : ∀ (l : List Int) (a : Int), (nodesGo l a).2 = 0 → ∀ w, w ∈ l → 0 ≤ w ∧ w ≤ 100 := by
        intro l
        induction l with
        | nil => intro a _ w hw; simp at hw
        | cons v r ih =>
          intro a h w hw
          unfold nodesGo at h
          split at h
          · rename_i hv
            rcases List.mem_cons.1 hw with rfl | hw
            · exact hv
            · exact ih _ h w hw
          · simp at h
      exact key ws 0 h
def sumP (ws : List Int) (x : Nat) : Int × Int := if (nodesP ws).2 ≠ 0 then (0, (nodesP ws).2) else if 2 ^ ws.length ≤ x then (0, 3) else (bsum ws x, 0)
def enoughP (ws : List Int) (need : Int) (x : Nat) : Bool × Int := if qcheckP ws need ≠ 0 then (false, qcheckP ws need) else ((sumP ws x).2 == 0 && decide ((sumP ws x).1 ≥ need), (sumP ws x).2)
theorem bsum_bd : ∀ (ws : List Int) (z : Nat), (∀ w, w ∈ ws → 0 ≤ w ∧ w ≤ 100) → 0 ≤ bsum ws z ∧ bsum ws z ≤ 100 * ws.length
  | [], z, _ => by simp [bsum]
  | w :: ws, z, h => by
    have h1 := h w (by simp)
    have h2 := bsum_bd ws (z / 2) fun v hv => h v (by simp [hv])
    simp only [bsum, List.length_cons]
    split <;> omega
def SubS (ws : List Int) (z : Nat) : Prop := z < 2 ^ ws.length
theorem SubS.tz {ws : List Int} {z : Nat} (h : SubS ws z) (h0 : z ≠ 0) : tz z < ws.length := tz_lt ws.length z h0 h
theorem SubS.next {ws : List Int} {z : Nat} (h : SubS ws z) (h0 : z ≠ 0) : SubS ws (z &&& (z - 1)) := Nat.lt_trans (pred_lt h0) h
theorem SubS.low {ws : List Int} {z : Nat} (h : SubS ws z) (h0 : z ≠ 0) {a : Int} (ha : ws[Int.toNat (Proofs.YtpagdlhlfmenmaaDoor.tz z : Int)]? = some a) : bsum ws z = a + bsum ws (z &&& (z - 1)) ∧ z &&& (z - 1) < z := by
  obtain ⟨w, h1, h2⟩ := bsum_low ws z h0 h
  have h3 := Option.some.inj (h1.symm.trans ha)
  subst h3
  exact ⟨h2, pred_lt h0⟩
theorem SubS.of_len {ws : List Int} {z : Nat} (h : ¬ (len64 z : Int) > ws.length) : SubS ws z := Nat.not_le.1 fun hh => h (by have := len64_gt.2 hh; omega)
theorem sumP_3 {ws : List Int} {z : Nat} (h1 : ¬ (nodesP ws).2 ≠ 0) (h : (len64 z : Int) > ws.length) : sumP ws z = (0, 3) := by
  unfold sumP; rw [if_neg h1, if_pos (len64_gt.1 (by omega))]
theorem sumP_0 {ws : List Int} {z : Nat} (h1 : (nodesP ws).2 = 0) (h : SubS ws z) : sumP ws z = (bsum ws z, 0) := by
  unfold sumP; rw [if_neg (fun hh => hh h1), if_neg (Nat.not_le.2 h)]
def k_78 : Con Tc Tc.dn := ⟨78, [.ty .cU64], fun _ => True, [.cInt], fun x => (len64 x.1.n : Int)⟩
theorem k_78_ok : k_78.Ok Tryd.prog tD := ⟨F78_call, fun x N _ => len64_fn x.1⟩
def k_79 : Con Tc Tc.dn := ⟨79, [.ty .cU64], fun _ => True, [.cInt], fun x => (tz x.1.n : Int)⟩
theorem k_79_ok : k_79.Ok Tryd.prog tD := ⟨F79_call, fun x N _ => tz_fn x.1⟩
theorem opU_pred {z : U64} (h : z.n ≠ 0) : (opU .and z (uN (z.n + 18446744073709551616 - (uN 1).n))).n = z.n &&& (z.n - 1) := by
  rw [opU_n]
  have e : (uN (z.n + 18446744073709551616 - (uN 1).n)).n = z.n - 1 := by
    have h1 : (uN 1).n = 1 := rfl
    have := z.lt
    show (z.n + 18446744073709551616 - (uN 1).n) % 18446744073709551616 = _
    rw [h1]; omega
  rw [e]; rfl
def k_35 : Con Tc Tc.dn := ⟨35, [.ty .lInt, .ty .cInt], fun x => (fun (ws : (List Int)) (need : Int) => True) x.1 x.2.1, [.cInt], fun x => (fun (ws : (List Int)) (need : Int) => qcheckP ws need) x.1 x.2.1⟩
theorem k_35_v (ws : (List Int)) (need : Int) : True ∧ (¬(nodesP ws).snd = (0 : Int) → (nodesP ws).snd = qcheckP ws need) ∧ ((nodesP ws).snd = (0 : Int) → ((1 : Int) ≤ need → (1 : Int) ≤ need) ∧ ((1 : Int) ≤ need → (1 : Int) ≤ need) ∧ ((1 : Int) ≤ need → (1 : Int) ≤ need) ∧ (need < (1 : Int) ∨ (nodesP ws).fst < need → (3 : Int) = qcheckP ws need) ∧ ((1 : Int) ≤ need ∧ need ≤ (nodesP ws).fst → I64 ((2 : Int) * need) ∧ ((2 : Int) * need ≤ (nodesP ws).fst → (4 : Int) = qcheckP ws need) ∧ ((nodesP ws).fst < (2 : Int) * need → (0 : Int) = qcheckP ws need))) := by
  have hb := @nodes_bd ws
  (repeat' (first | apply And.intro | intro _)) <;> first | assumption | trivial | omega | (grind [qcheckP, I64]) | trace_state
theorem k_35_ok : k_35.Ok Tryd.prog tD := con_ok tD_ok (Δ := [k_59]) ⟨k_59_ok, trivial⟩ (Ω := []) trivial k_35 F35_ok F35_call (fun _ => []) (fun _ => trivial) 0 (fun x => (fun (ws : (List Int)) (need : Int) => (fun _ => none)) x.1 x.2.1) fun x hp => Eq.mp (by kernel_rfl) (k_35_v x.1 x.2.1)
def i_54_0 (ws : (List Int)) (u : U64) (z : U64) (n : Int) : Prop := SubS ws z.n ∧ (nodesP ws).2 = 0 ∧ SubS ws u.n ∧ n + bsum ws z.n = bsum ws u.n
def k_54 : Con Tc Tc.dn := ⟨54, [.ty .lInt, .ty .cU64], fun x => (fun (ws : (List Int)) (u : U64) => True) x.1 x.2.1, [.cInt, .cInt], fun x => (fun (ws : (List Int)) (u : U64) => sumP ws u.n) x.1 x.2.1⟩
theorem k_54_v (ws : (List Int)) (u : U64) : True ∧ (¬(nodesP ws).snd = (0 : Int) → ((0 : Int), (nodesP ws).snd) = sumP ws u.n) ∧ ((nodesP ws).snd = (0 : Int) → True ∧ ((↑ws.length : Int) < (↑(len64 u.n) : Int) → ((0 : Int), (3 : Int)) = sumP ws u.n) ∧ ((↑(len64 u.n) : Int) ≤ (↑ws.length : Int) → i_54_0 ws u u (0 : Int) ∧ ∀ (x : U64) (x_1 : Int), i_54_0 ws u x x_1 → (¬(↑x.n : Int) = (↑(uN (Int.toNat (0 : Int))).n : Int) → True ∧ ((0 : Int) ≤ (↑(tz x.n) : Int) ∧ (↑(tz x.n) : Int) < (↑ws.length : Int)) ∧ I64 (x_1 + gd (0 : Int) ws (↑(tz x.n) : Int).toNat) ∧ i_54_0 ws u (opU BinOp.and x (uN (x.n + (18446744073709551616 : Nat) - (uN (Int.toNat (1 : Int))).n))) (x_1 + gd (0 : Int) ws (↑(tz x.n) : Int).toNat) ∧ (x.n &&& (uN (x.n + (18446744073709551616 : Nat) - (uN (Int.toNat (1 : Int))).n)).n) % (18446744073709551616 : Nat) < x.n) ∧ ((↑x.n : Int) = (↑(uN (Int.toNat (0 : Int))).n : Int) → (x_1, (0 : Int)) = sumP ws u.n))) := by
  have hnb := @nodes_bd ws
  refine ⟨trivial, fun h => ?_, fun h => ⟨trivial, fun h1 => ?_, fun h1 => ⟨?_, fun z n ⟨i1, i2, i3, i4⟩ => ⟨fun hz => ?_, fun hz => ?_⟩⟩⟩⟩
  · rw [sumP, if_pos h]
  · rw [sumP_3 (by omega) (by omega)]
  · exact ⟨SubS.of_len (by omega), h, SubS.of_len (by omega), by omega⟩
  · have hz0 : z.n ≠ 0 := by intro e; rw [e] at hz; exact hz rfl
    have ht := SubS.tz i1 hz0
    have hg : ws[Int.toNat (tz z.n : Int)]? = some (gd 0 ws (Int.toNat (tz z.n : Int))) := gd_get (by omega)
    have hl := SubS.low i1 hz0 hg
    have h5 := hnb h
    have hq := h5.2.2.2.2 _ (List.mem_of_getElem? hg)
    have hb := bsum_bd ws (z.n &&& (z.n - 1)) h5.2.2.2.2
    have hb2 := bsum_bd ws u.n h5.2.2.2.2
    have hp : (opU .and z (uN (z.n + 18446744073709551616 - (uN (Int.toNat 1)).n))).n = z.n &&& (z.n - 1) := opU_pred hz0
    have hn := SubS.next i1 hz0
    refine ⟨trivial, by omega, ⟨by omega, by omega⟩, ⟨by rw [hp]; exact hn, h, i3, by rw [hp]; omega⟩, ?_⟩
    exact Nat.lt_of_le_of_lt (Nat.le_of_eq hp) hl.2
  · have hz0 : z.n = 0 := by have h0 : (uN (Int.toNat 0)).n = 0 := rfl; rw [h0] at hz; simpa using hz
    rw [sumP_0 h i3]
    rw [hz0, bsum_zero] at i4
    rw [← i4]; simp
theorem k_54_ok : k_54.Ok Tryd.prog tD := con_ok tD_ok (Δ := [k_59, k_78, k_79]) ⟨k_59_ok, k_78_ok, k_79_ok, trivial⟩ (Ω := []) trivial k_54 F54_ok F54_call (fun _ => []) (fun _ => trivial) 0 (fun x => (fun (ws : (List Int)) (u : U64) => (fun k => bif Nat.beq k 0 then some (.inv [.sl 1 .cU64, .sl 4 .cInt] (fun zv => (fun (z : U64) (n : Int) => i_54_0 ws u z n) zv.1 zv.2.1) (fun zv => (fun (z : U64) (n : Int) => z.n) zv.1 zv.2.1)) else none)) x.1 x.2.1) fun x hp => Eq.mp (by kernel_rfl) (k_54_v x.1 x.2.1)
def k_24 : Con Tc Tc.dn := ⟨24, [.ty .lInt, .ty .cInt, .ty .cU64], fun x => (fun (ws : (List Int)) (need : Int) (u : U64) => True) x.1 x.2.1 x.2.2.1, [.cBool, .cInt], fun x => (fun (ws : (List Int)) (need : Int) (u : U64) => enoughP ws need u.n) x.1 x.2.1 x.2.2.1⟩
theorem k_24_v (ws : (List Int)) (need : Int) (u : U64) : True ∧ (¬qcheckP ws need = (0 : Int) → (false, qcheckP ws need) = enoughP ws need u.n) ∧ (qcheckP ws need = (0 : Int) → True ∧ ((sumP ws u.n).snd = (0 : Int) → (sumP ws u.n).snd = (0 : Int)) ∧ ((sumP ws u.n).snd = (0 : Int) → (sumP ws u.n).snd = (0 : Int)) ∧ ((sumP ws u.n).snd = (0 : Int) → (sumP ws u.n).snd = (0 : Int)) ∧ ((sumP ws u.n).snd == (0 : Int) && decide (need ≤ (sumP ws u.n).fst), (sumP ws u.n).snd) = enoughP ws need u.n) := by
  (repeat' (first | apply And.intro | intro _)) <;> first | assumption | trivial | omega | (grind [enoughP, sumP]) | trace_state
theorem k_24_ok : k_24.Ok Tryd.prog tD := con_ok tD_ok (Δ := [k_35, k_54]) ⟨k_35_ok, k_54_ok, trivial⟩ (Ω := []) trivial k_24 F24_ok F24_call (fun _ => []) (fun _ => trivial) 0 (fun x => (fun (ws : (List Int)) (need : Int) (u : U64) => (fun _ => none)) x.1 x.2.1 x.2.2.1) fun x hp => Eq.mp (by kernel_rfl) (k_24_v x.1 x.2.1 x.2.2.1)
open Go.RowKit
def orP : List Int → Int
  | [] => 0
  | a :: r => if a ≠ 0 then a else orP r
def max2 (a b : Stp) : Stp := if b.cmp a > 0 then b else a
def maxF : List Stp → Stp
  | [] => ⟨0, 0⟩
  | a :: r => r.foldl max2 a
def chkL : List Stp → Int
  | [] => 0
  | s :: r => if s.checkE ≠ 0 then s.checkE else chkL r
def maxP (l : List Stp) : Stp × Int := if l.length > 64 then (⟨0, 0⟩, 2) else if chkL l ≠ 0 then (⟨0, 0⟩, chkL l) else (maxF (⟨0, 0⟩ :: l), 0)
def nextL (l : List Stp) (who : Int) : Stp × Int := if (maxP l).2 ≠ 0 then (⟨0, 0⟩, (maxP l).2) else if ¬ (0 ≤ who ∧ who ≤ 31) ∨ (maxP l).1.time = 1000000 then (⟨0, 0⟩, 3) else (⟨(maxP l).1.time + 1, who⟩, 0)
theorem Stp.cmp_lt {a b : Stp} : a.cmp b < 0 ↔ a.lt b := by
  unfold Stp.cmp cmpP Stp.lt; (repeat' split) <;> omega
def Copy.raw (c o : Copy) : Copy := if c.at_.lt o.at_ then o else c
theorem max2_ok {a b : Stp} (ha : a.okS) (hb : b.okS) : (max2 a b).okS := by unfold max2; split <;> assumption
theorem foldl_ok : ∀ {l : List Stp} {a : Stp}, a.okS → chkL l = 0 → (l.foldl max2 a).okS
  | [], a, ha, _ => ha
  | s :: r, a, ha, h => by
    unfold chkL at h
    have hs : s.okS := by
      by_cases hh : s.okS
      · exact hh
      · rw [if_pos (by unfold Stp.checkE; rw [if_neg hh]; decide)] at h; unfold Stp.checkE at h; rw [if_neg hh] at h; simp at h
    rw [if_neg (by unfold Stp.checkE; rw [if_pos hs]; decide)] at h
    exact foldl_ok (a := max2 a s) (max2_ok ha hs) h
theorem maxP_ok {l : List Stp} (h : (maxP l).2 = 0) : (maxP l).1.okS := by
  unfold maxP at h ⊢
  by_cases h1 : l.length > 64
  · rw [if_pos h1] at h; simp at h
  · rw [if_neg h1] at h ⊢
    by_cases h2 : chkL l ≠ 0
    · rw [if_pos h2] at h; exact absurd h h2
    · rw [if_neg h2]; exact foldl_ok (by unfold Stp.okS; decide) (by omega)
theorem maxF_init {xs : List Stp} (h : 0 < xs.length) : (xs.drop (Int.toNat 1)).foldl max2 (gd ⟨0, 0⟩ xs (Int.toNat 0)) = maxF xs := by
  cases xs with
  | nil => simp at h
  | cons a r => rfl
def i_76_0 (l : (List Int)) (k : Int) : Prop := 0 ≤ k ∧ k ≤ l.length ∧ l.length ≤ 1000000 ∧ orP (l.drop k.toNat) = orP l
def k_76 : Con Tc Tc.dn := ⟨76, [.ty .lInt], fun x => (fun (l : (List Int)) => l.length ≤ 1000000) x.1, [.cInt], fun x => (fun (l : (List Int)) => orP l) x.1⟩
theorem k_76_v (l : (List Int)) (hp : l.length ≤ 1000000) : i_76_0 l (0 : Int) ∧ ∀ (x : Int), i_76_0 l x → (x < (↑l.length : Int) → ((0 : Int) ≤ x ∧ x < (↑l.length : Int)) ∧ (¬gd (0 : Int) l x.toNat = (0 : Int) → gd (0 : Int) l x.toNat = orP l) ∧ (gd (0 : Int) l x.toNat = (0 : Int) → I64 (x + (1 : Int)) ∧ i_76_0 l (x + (1 : Int)) ∧ ((↑l.length : Int) - (x + (1 : Int))).toNat < ((↑l.length : Int) - x).toNat)) ∧ ((↑l.length : Int) ≤ x → (0 : Int) = orP l) := by
  (repeat' (first | apply And.intro | intro _)) <;> first | assumption | trivial | omega | (grind [orP, drop_gd, drop_end, I64, i_76_0]) | trace_state
theorem k_76_ok : k_76.Ok Tryd.prog tD := con_ok tD_ok (Δ := []) trivial (Ω := []) trivial k_76 F76_ok F76_call (fun _ => []) (fun _ => trivial) 0 (fun x => (fun (l : (List Int)) => (fun k => bif Nat.beq k 0 then some (.inv [.sl 8 .cInt] (fun zv => (fun (k : Int) => i_76_0 l k) zv.1) (fun zv => (fun (k : Int) => ((l.length : Int) - k).toNat) zv.1)) else none)) x.1) fun x hp => Eq.mp (by kernel_rfl) (k_76_v x.1 hp)
def k_53 : Con Tc Tc.dn := ⟨53, [.ty .cStamp, .ty .cStamp], fun x => (fun (a : Stp) (b : Stp) => True) x.1 x.2.1, [.cInt], fun x => (fun (a : Stp) (b : Stp) => a.cmp b) x.1 x.2.1⟩
theorem k_53_v (a : Stp) (b : Stp) : True ∧ True ∧ (2 : Nat) ≤ (1000000 : Nat) ∧ orP [cmpP a.time b.time, cmpP a.who b.who] = a.cmp b := by
  (repeat' (first | apply And.intro | intro _)) <;> first | assumption | trivial | omega | (grind [Stp.cmp, cmpP, orP]) | trace_state
theorem k_53_ok : k_53.Ok Tryd.prog tD := con_ok tD_ok (Δ := [k_77, k_76]) ⟨k_77_ok, k_76_ok, trivial⟩ (Ω := []) trivial k_53 F53_ok F53_call (fun _ => []) (fun _ => trivial) 0 (fun x => (fun (a : Stp) (b : Stp) => (fun _ => none)) x.1 x.2.1) fun x hp => Eq.mp (by kernel_rfl) (k_53_v x.1 x.2.1)
def k_23 : Con Tc Tc.dn := ⟨23, [.ty .cStamp, .ty .cStamp], fun x => (fun (a : Stp) (b : Stp) => True) x.1 x.2.1, [.cBool], fun x => (fun (a : Stp) (b : Stp) => decide (a.lt b)) x.1 x.2.1⟩
theorem k_23_v (a : Stp) (b : Stp) : True ∧ decide (a.cmp b < (0 : Int)) = decide (a.lt b) := by
  (repeat' (first | apply And.intro | intro _)) <;> first | assumption | trivial | omega | (grind [Stp.cmp_lt]) | trace_state
theorem k_23_ok : k_23.Ok Tryd.prog tD := con_ok tD_ok (Δ := [k_53]) ⟨k_53_ok, trivial⟩ (Ω := []) trivial k_23 F23_ok F23_call (fun _ => []) (fun _ => trivial) 0 (fun x => (fun (a : Stp) (b : Stp) => (fun _ => none)) x.1 x.2.1) fun x hp => Eq.mp (by kernel_rfl) (k_23_v x.1 x.2.1)
def i_153_0 (xs : (List Stp)) (i : Int) (m : Stp) : Prop := 1 ≤ i ∧ i ≤ xs.length ∧ xs.length ≤ 1000000 ∧ (xs.drop i.toNat).foldl max2 m = maxF xs
def k_153 : Con Tc Tc.dn := ⟨153, [.ty .lStamp, .fnc 53 []], fun x => (fun (xs : (List Stp)) => 0 < xs.length ∧ xs.length ≤ 1000000) x.1, [.cStamp], fun x => (fun (xs : (List Stp)) => maxF xs) x.1⟩
theorem k_153_v (xs : (List Stp)) (hp : 0 < xs.length ∧ xs.length ≤ 1000000) : ((↑xs.length : Int) < (1 : Int) → False) ∧ ((1 : Int) ≤ (↑xs.length : Int) → ((0 : Int) ≤ (0 : Int) ∧ (0 : Int) < (↑xs.length : Int)) ∧ i_153_0 xs (1 : Int) (gd (Stp.mk (0 : Int) (0 : Int)) xs (Int.toNat (0 : Int))) ∧ ∀ (x : Int) (x_1 : Stp), i_153_0 xs x x_1 → (x < (↑xs.length : Int) → ((0 : Int) ≤ x ∧ x < (↑xs.length : Int)) ∧ True ∧ ((0 : Int) < (gd (Stp.mk (0 : Int) (0 : Int)) xs x.toNat).cmp x_1 → ((0 : Int) ≤ x ∧ x < (↑xs.length : Int)) ∧ I64 (x + (1 : Int)) ∧ i_153_0 xs (x + (1 : Int)) (gd (Stp.mk (0 : Int) (0 : Int)) xs x.toNat) ∧ ((↑xs.length : Int) - (x + (1 : Int))).toNat < ((↑xs.length : Int) - x).toNat) ∧ ((gd (Stp.mk (0 : Int) (0 : Int)) xs x.toNat).cmp x_1 ≤ (0 : Int) → I64 (x + (1 : Int)) ∧ i_153_0 xs (x + (1 : Int)) x_1 ∧ ((↑xs.length : Int) - (x + (1 : Int))).toNat < ((↑xs.length : Int) - x).toNat)) ∧ ((↑xs.length : Int) ≤ x → x_1 = maxF xs)) := by
  have hmi := @maxF_init xs
  (repeat' (first | apply And.intro | intro _)) <;> first | assumption | trivial | omega | (grind [max2, drop_gd, drop_end, I64, i_153_0]) | trace_state
theorem k_153_ok : k_153.Ok Tryd.prog tD := con_ok tD_ok (Δ := [k_53]) ⟨k_53_ok, trivial⟩ (Ω := []) trivial k_153 F153_ok F153_call (fun _ => []) (fun _ => trivial) 0 (fun x => (fun (xs : (List Stp)) => (fun k => bif Nat.beq k 0 then some (.inv [.sl 6 .cInt, .ce 1 .cStamp] (fun zv => (fun (i : Int) (m : Stp) => i_153_0 xs i m) zv.1 zv.2.1) (fun zv => (fun (i : Int) (m : Stp) => ((xs.length : Int) - i).toNat) zv.1 zv.2.1)) else none)) x.1) fun x hp => Eq.mp (by kernel_rfl) (k_153_v x.1 hp)
def i_152_0 (l : (List Stp)) (k : Int) (r : Stp) : Prop := 0 ≤ k ∧ k ≤ l.length ∧ l.length ≤ 64 ∧ chkL (l.drop k.toNat) = chkL l
def k_152 : Con Tc Tc.dn := ⟨152, [.ty .lStamp], fun x => (fun (l : (List Stp)) => l.length ≤ 1000000) x.1, [.cStamp, .cInt], fun x => (fun (l : (List Stp)) => maxP l) x.1⟩
theorem k_152_v (l : (List Stp)) (hp : l.length ≤ 1000000) : ((64 : Int) < (↑l.length : Int) → (Stp.mk (0 : Int) (0 : Int), (2 : Int)) = maxP l) ∧ ((↑l.length : Int) ≤ (64 : Int) → i_152_0 l (0 : Int) (Stp.mk (0 : Int) (0 : Int)) ∧ ∀ (x : Int) (x_1 : Stp), i_152_0 l x x_1 → (x < (↑l.length : Int) → ((0 : Int) ≤ x ∧ x < (↑l.length : Int)) ∧ True ∧ (¬(gd (Stp.mk (0 : Int) (0 : Int)) l x.toNat).checkE = (0 : Int) → (Stp.mk (0 : Int) (0 : Int), (gd (Stp.mk (0 : Int) (0 : Int)) l x.toNat).checkE) = maxP l) ∧ ((gd (Stp.mk (0 : Int) (0 : Int)) l x.toNat).checkE = (0 : Int) → I64 (x + (1 : Int)) ∧ i_152_0 l (x + (1 : Int)) x_1 ∧ ((↑l.length : Int) - (x + (1 : Int))).toNat < ((↑l.length : Int) - x).toNat)) ∧ ((↑l.length : Int) ≤ x → ((1 : Nat) + l.length) * (16 : Nat) ≤ (140737488355328 : Nat) ∧ ((0 : Nat) < ([Stp.mk (0 : Int) (0 : Int)] ++ l).length ∧ ([Stp.mk (0 : Int) (0 : Int)] ++ l).length ≤ (1000000 : Nat)) ∧ (maxF ([Stp.mk (0 : Int) (0 : Int)] ++ l), (0 : Int)) = maxP l)) := by
  (repeat' (first | apply And.intro | intro _)) <;> first | assumption | trivial | omega | (grind [maxP, chkL, drop_gd, drop_end, I64, i_152_0, List.singleton_append, List.length_cons]) | trace_state
theorem k_152_ok : k_152.Ok Tryd.prog tD := con_ok tD_ok (Δ := [k_66, k_153]) ⟨k_66_ok, k_153_ok, trivial⟩ (Ω := []) trivial k_152 F152_ok F152_call (fun _ => []) (fun _ => trivial) 0 (fun x => (fun (l : (List Stp)) => (fun k => bif Nat.beq k 0 then some (.inv [.sl 13 .cInt, .ce 0 .cStamp] (fun zv => (fun (k : Int) (r : Stp) => i_152_0 l k r) zv.1 zv.2.1) (fun zv => (fun (k : Int) (r : Stp) => ((l.length : Int) - k).toNat) zv.1 zv.2.1)) else none)) x.1) fun x hp => Eq.mp (by kernel_rfl) (k_152_v x.1 hp)
def k_151 : Con Tc Tc.dn := ⟨151, [.ty .lStamp, .ty .cInt], fun x => (fun (l : (List Stp)) (who : Int) => l.length ≤ 1000000) x.1 x.2.1, [.cStamp, .cInt], fun x => (fun (l : (List Stp)) (who : Int) => nextL l who) x.1 x.2.1⟩
theorem k_151_v (l : (List Stp)) (who : Int) (hp : l.length ≤ 1000000) : l.length ≤ (1000000 : Nat) ∧ ((maxP l).snd = (0 : Int) → (maxP l).snd = (0 : Int)) ∧ ((maxP l).snd = (0 : Int) → True) ∧ ((maxP l).snd = (0 : Int) → (maxP l).snd = (0 : Int)) ∧ ((maxP l).snd = (0 : Int) → (maxP l).snd = (0 : Int)) ∧ ((maxP l).snd = (0 : Int) ∧ decide ((0 : Int) ≤ who ∧ who ≤ (31 : Int)) = !!true → (maxP l).snd = (0 : Int) ∧ decide ((0 : Int) ≤ who ∧ who ≤ (31 : Int)) = !!true) ∧ ((maxP l).snd = (0 : Int) ∧ decide ((0 : Int) ≤ who ∧ who ≤ (31 : Int)) = !!true → (maxP l).snd = (0 : Int) ∧ decide ((0 : Int) ≤ who ∧ who ≤ (31 : Int)) = !!true) ∧ ((maxP l).snd = (0 : Int) → (maxP l).snd = (0 : Int)) ∧ ((maxP l).snd = (0 : Int) → decide ((0 : Int) ≤ who ∧ who ≤ (31 : Int)) = !false → (maxP l).snd = (0 : Int) ∧ decide ((0 : Int) ≤ who ∧ who ≤ (31 : Int)) = !!true) ∧ ((maxP l).snd = (0 : Int) → (maxP l).snd = (0 : Int)) ∧ ((maxP l).snd = (0 : Int) ∧ (decide ((0 : Int) ≤ who ∧ who ≤ (31 : Int)) = !true ∨ (maxP l).fst.time = (1000000 : Int)) → (Stp.mk (0 : Int) (0 : Int), (3 : Int)) = nextL l who) ∧ (¬(maxP l).snd = (0 : Int) ∨ decide ((0 : Int) ≤ who ∧ who ≤ (31 : Int)) = !false ∧ ¬(maxP l).fst.time = (1000000 : Int) → (¬(maxP l).snd = (0 : Int) → (Stp.mk (0 : Int) (0 : Int), (maxP l).snd) = nextL l who) ∧ ((maxP l).snd = (0 : Int) → I64 ((maxP l).fst.time + (1 : Int)) ∧ (Stp.mk ((maxP l).fst.time + (1 : Int)) who, (0 : Int)) = nextL l who)) := by
  have hmo := @maxP_ok l
  (repeat' (first | apply And.intro | intro _)) <;> first | assumption | trivial | omega | (grind [nextL, I64, Stp.okS]) | trace_state
theorem k_151_ok : k_151.Ok Tryd.prog tD := con_ok tD_ok (Δ := [k_152, k_102]) ⟨k_152_ok, k_102_ok, trivial⟩ (Ω := []) trivial k_151 F151_ok F151_call (fun _ => []) (fun _ => trivial) 0 (fun x => (fun (l : (List Stp)) (who : Int) => (fun _ => none)) x.1 x.2.1) fun x hp => Eq.mp (by kernel_rfl) (k_151_v x.1 x.2.1 hp)
def k_138 : Con Tc Tc.dn := ⟨138, [.ty .cCopy, .ty .cCopy], fun x => (fun (c : Copy) (o : Copy) => True) x.1 x.2.1, [.cCopy], fun x => (fun (c : Copy) (o : Copy) => c.raw o) x.1 x.2.1⟩
theorem k_138_v (c : Copy) (o : Copy) : True ∧ (decide (c.at_.lt o.at_) = true → o = c.raw o) ∧ (decide (c.at_.lt o.at_) = false → c = c.raw o) := by
  (repeat' (first | apply And.intro | intro _)) <;> first | assumption | trivial | omega | (grind [Copy.raw]) | trace_state
theorem k_138_ok : k_138.Ok Tryd.prog tD := con_ok tD_ok (Δ := [k_23]) ⟨k_23_ok, trivial⟩ (Ω := []) trivial k_138 F138_ok F138_call (fun _ => []) (fun _ => trivial) 0 (fun x => (fun (c : Copy) (o : Copy) => (fun _ => none)) x.1 x.2.1) fun x hp => Eq.mp (by kernel_rfl) (k_138_v x.1 x.2.1)
open Go.RowKit
def Ask.checkE (a : Ask) (ws : List Int) (need : Int) : Int :=
  if qcheckP ws need ≠ 0 then qcheckP ws need else if ¬ (0 ≤ a.op ∧ a.op ≤ 30) then 3 else if ¬ (1 ≤ a.kind ∧ a.kind ≤ 2) ∨ ¬ (1 ≤ a.phase ∧ a.phase ≤ 3) then 7 else if a.data.size > 64 then 2 else if a.kind = 1 ∧ a.data.size ≠ 0 then 1 else if a.best.checkE ≠ 0 then a.best.checkE else if (len64 a.heard.n : Int) > ws.length then 3 else 0
theorem ask_ok {a : Ask} {ws : List Int} {need : Int} (h : a.checkE ws need = 0) : qcheckP ws need = 0 ∧ (0 ≤ a.op ∧ a.op ≤ 30) ∧ (1 ≤ a.kind ∧ a.kind ≤ 2) ∧ (1 ≤ a.phase ∧ a.phase ≤ 3) ∧ a.data.size ≤ 64 ∧ (a.kind = 1 → a.data.size = 0) ∧ a.best.checkE = 0 ∧ a.heard.n < 2 ^ ws.length := by
  unfold Ask.checkE at h
  repeat' split at h
  all_goals first
    | (exfalso; simp at h; done)
    | (exfalso; contradiction)
    | skip
  rename_i h1 h2 h3 h4 h5 h6 h7
  refine ⟨by omega, by omega, by omega, by omega, by omega, fun hk => ?_, by omega, Nat.not_le.1 fun hh => h7 ?_⟩
  · by_cases hd : a.data.size = 0
    · exact hd
    · exact absurd ⟨hk, hd⟩ h5
  · have := len64_gt.2 hh; omega
theorem msg_node {m : Msg} (h : m.checkE = 0) : (0 ≤ m.node ∧ m.node < 64) ∧ m.copy.checkE = 0 := by
  unfold Msg.checkE at h
  by_cases h1 : 1 ≤ m.kind ∧ m.kind ≤ 4
  · rw [if_neg (fun hh => hh h1)] at h
    by_cases h2 : 0 ≤ m.op ∧ m.op ≤ 30 ∧ 0 ≤ m.node ∧ m.node ≤ 11
    · rw [if_neg (fun hh => hh h2)] at h
      by_cases h3 : m.copy.checkE = 0
      · exact ⟨by omega, h3⟩
      · rw [if_pos h3] at h; exact absurd h h3
    · rw [if_pos h2] at h; simp at h
  · rw [if_pos h1] at h; simp at h
def toAllM (n : Nat) (m : Msg) : List Msg := (List.range n).map fun (i : Nat) => (⟨m.kind, m.op, (i : Int), m.copy⟩ : Msg)
def Ask.zero : Ask := ⟨0, 0, 0, ⟨#[]⟩, ⟨⟨0, 0⟩, ⟨#[]⟩⟩, uN (Int.toNat 0)⟩
def Ask.new (op kind : Int) (data : ByteArray) : Ask := ⟨op, kind, 1, data, ⟨⟨0, 0⟩, ⟨#[]⟩⟩, uN (Int.toNat 0)⟩
def beginA (v : Vtr) (op kind : Int) (data : ByteArray) : Ask × List Msg × Int :=
  if (Ask.new op kind data).checkE v.weights v.need ≠ 0 then (Ask.zero, [], (Ask.new op kind data).checkE v.weights v.need)
  else (Ask.new op kind data, toAllM v.weights.length ⟨1, op, 0, ⟨⟨0, 0⟩, ⟨#[]⟩⟩⟩, 0)
theorem qc_nodes {ws : List Int} {need : Int} (h : qcheckP ws need = 0) : (nodesP ws).2 = 0 := by
  unfold qcheckP at h
  by_cases hh : (nodesP ws).2 = 0
  · exact hh
  · rw [if_pos hh] at h; exact absurd h hh
theorem qc_len {ws : List Int} {need : Int} (h : qcheckP ws need = 0) : ws.length ≤ 12 := (nodes_bd (qc_nodes h)).2.2.2.1
theorem toAllM_succ (n : Nat) (m : Msg) : toAllM (n + 1) m = toAllM n m ++ [⟨m.kind, m.op, (n : Int), m.copy⟩] := by simp [toAllM, List.range_succ]
theorem toAllM_int {k : Int} (h : 0 ≤ k) (m p : Msg) (hp : p.kind = m.kind ∧ p.op = m.op ∧ p.copy = m.copy) : toAllM (k + 1).toNat m = toAllM k.toNat m ++ [⟨p.kind, p.op, k, p.copy⟩] := by
  obtain ⟨e1, e2, e3⟩ := hp
  rw [show (k + 1).toNat = k.toNat + 1 by omega, toAllM_succ, e1, e2, e3, show ((k.toNat : Nat) : Int) = k by omega]
theorem toAllM_len (n : Nat) (m : Msg) : (toAllM n m).length = n := by simp [toAllM]
theorem ask_len {a : Ask} {ws : List Int} {need : Int} (h : a.checkE ws need = 0) : ws.length ≤ 12 := qc_len (ask_ok h).1
def k_103 : Con Tc Tc.dn := ⟨103, [.ty .cInt, .ty .cInt, .ty .cInt], fun x => (fun (n : Int) (lo : Int) (hi : Int) => True) x.1 x.2.1 x.2.2.1, [.cBool], fun x => (fun (n : Int) (lo : Int) (hi : Int) => decide (lo ≤ n ∧ n ≤ hi)) x.1 x.2.1 x.2.2.1⟩
theorem k_103_v (n : Int) (lo : Int) (hi : Int) : (lo ≤ n → lo ≤ n) ∧ (lo ≤ n → lo ≤ n) ∧ (lo ≤ n → lo ≤ n) ∧ (decide (lo ≤ n) && decide (n ≤ hi)) = decide (lo ≤ n ∧ n ≤ hi) := by
  (repeat' (first | apply And.intro | intro _)) <;> first | assumption | trivial | omega | (grind []) | trace_state
theorem k_103_ok : k_103.Ok Tryd.prog tD := con_ok tD_ok (Δ := []) trivial (Ω := []) trivial k_103 F103_ok F103_call (fun _ => []) (fun _ => trivial) 0 (fun x => (fun (n : Int) (lo : Int) (hi : Int) => (fun _ => none)) x.1 x.2.1 x.2.2.1) fun x hp => Eq.mp (by kernel_rfl) (k_103_v x.1 x.2.1 x.2.2.1)
def k_67 : Con Tc Tc.dn := ⟨67, [.ty .cVoters, .ty .cAsk], fun x => (fun (v : Vtr) (a : Ask) => True) x.1 x.2.1, [.cInt], fun x => (fun (v : Vtr) (a : Ask) => a.checkE v.weights v.need) x.1 x.2.1⟩
theorem k_67_v (v : Vtr) (a : Ask) : True ∧ (¬qcheckP v.weights v.need = (0 : Int) → qcheckP v.weights v.need = a.checkE v.weights v.need) ∧ (qcheckP v.weights v.need = (0 : Int) → True ∧ (decide ((0 : Int) ≤ a.op ∧ a.op ≤ (30 : Int)) = !true → (3 : Int) = a.checkE v.weights v.need) ∧ (decide ((0 : Int) ≤ a.op ∧ a.op ≤ (30 : Int)) = !false → True ∧ (decide ((1 : Int) ≤ a.kind ∧ a.kind ≤ (2 : Int)) = !!true → True) ∧ (decide ((1 : Int) ≤ a.kind ∧ a.kind ≤ (2 : Int)) = !true ∧ decide ((1 : Int) ≤ a.kind ∧ a.kind ≤ (2 : Int)) = !true ∨ decide ((1 : Int) ≤ a.kind ∧ a.kind ≤ (2 : Int)) = !!true ∧ decide ((1 : Int) ≤ a.phase ∧ a.phase ≤ (3 : Int)) = !true → (7 : Int) = a.checkE v.weights v.need) ∧ ((decide ((1 : Int) ≤ a.kind ∧ a.kind ≤ (2 : Int)) = !false ∨ decide ((1 : Int) ≤ a.kind ∧ a.kind ≤ (2 : Int)) = !false) ∧ (decide ((1 : Int) ≤ a.kind ∧ a.kind ≤ (2 : Int)) = !!false ∨ decide ((1 : Int) ≤ a.phase ∧ a.phase ≤ (3 : Int)) = !false) → ((64 : Int) < (↑a.data.size : Int) → (2 : Int) = a.checkE v.weights v.need) ∧ ((↑a.data.size : Int) ≤ (64 : Int) → (a.kind = (1 : Int) → a.kind = (1 : Int)) ∧ (a.kind = (1 : Int) → a.kind = (1 : Int)) ∧ (a.kind = (1 : Int) → a.kind = (1 : Int)) ∧ (a.kind = (1 : Int) ∧ ¬a.data = ByteArray.mk #[] → (1 : Int) = a.checkE v.weights v.need) ∧ (¬a.kind = (1 : Int) ∨ a.data = ByteArray.mk #[] → True ∧ (a.best.checkE = (0 : Int) → a.best.checkE = (0 : Int)) ∧ (a.best.checkE = (0 : Int) → a.best.checkE = (0 : Int)) ∧ (a.best.checkE = (0 : Int) → True) ∧ (a.best.checkE = (0 : Int) → a.best.checkE = (0 : Int)) ∧ (a.best.checkE = (0 : Int) → a.best.checkE = (0 : Int)) ∧ (a.best.checkE = (0 : Int) → a.best.checkE = (0 : Int)) ∧ (a.best.checkE = (0 : Int) → a.best.checkE = (0 : Int)) ∧ (a.best.checkE = (0 : Int) → a.best.checkE = (0 : Int)) ∧ (a.best.checkE = (0 : Int) ∧ (↑v.weights.length : Int) < (↑(len64 a.heard.n) : Int) → (3 : Int) = a.checkE v.weights v.need) ∧ (¬a.best.checkE = (0 : Int) ∨ (↑(len64 a.heard.n) : Int) ≤ (↑v.weights.length : Int) → a.best.checkE = a.checkE v.weights v.need)))))) := by
  (repeat' (first | apply And.intro | intro _)) <;> first | assumption | trivial | omega | (grind [Ask.checkE, ba_size]) | trace_state
theorem k_67_ok : k_67.Ok Tryd.prog tD := con_ok tD_ok (Δ := [k_35, k_103, k_46, k_78]) ⟨k_35_ok, k_103_ok, k_46_ok, k_78_ok, trivial⟩ (Ω := []) trivial k_67 F67_ok F67_call (fun _ => []) (fun _ => trivial) 0 (fun x => (fun (v : Vtr) (a : Ask) => (fun _ => none)) x.1 x.2.1) fun x hp => Eq.mp (by kernel_rfl) (k_67_v x.1 x.2.1)
def i_137_0 (v : Vtr) (m : Msg) (out : (List Msg)) (k : Int) (p : Msg) : Prop := 0 ≤ k ∧ k ≤ v.weights.length ∧ v.weights.length ≤ 1000000 ∧ (p.kind = m.kind ∧ p.op = m.op ∧ p.copy = m.copy) ∧ out = toAllM k.toNat m
def k_137 : Con Tc Tc.dn := ⟨137, [.ty .cVoters, .ty .cMsg], fun x => (fun (v : Vtr) (m : Msg) => v.weights.length ≤ 1000000) x.1 x.2.1, [.lMsg], fun x => (fun (v : Vtr) (m : Msg) => toAllM v.weights.length m) x.1 x.2.1⟩
theorem k_137_v (v : Vtr) (m : Msg) (hp : v.weights.length ≤ 1000000) : i_137_0 v m [] (0 : Int) m ∧ ∀ (x : List Msg) (x_1 : Int) (x_2 : Msg), i_137_0 v m x x_1 x_2 → (x_1 < (↑v.weights.length : Int) → (x.length + (1 : Nat)) * (56 : Nat) ≤ (140737488355328 : Nat) ∧ I64 (x_1 + (1 : Int)) ∧ i_137_0 v m (x ++ [Msg.mk x_2.kind x_2.op x_1 x_2.copy]) (x_1 + (1 : Int)) (Msg.mk x_2.kind x_2.op x_1 x_2.copy) ∧ ((↑v.weights.length : Int) - (x_1 + (1 : Int))).toNat < ((↑v.weights.length : Int) - x_1).toNat) ∧ ((↑v.weights.length : Int) ≤ x_1 → x = toAllM v.weights.length m) := by
  (repeat' (first | apply And.intro | intro _)) <;> first | assumption | trivial | omega | (grind [i_137_0, toAllM_int, I64, toAllM_len, toAllM]) | trace_state
theorem k_137_ok : k_137.Ok Tryd.prog tD := con_ok tD_ok (Δ := []) trivial (Ω := []) trivial k_137 F137_ok F137_call (fun _ => []) (fun _ => trivial) 0 (fun x => (fun (v : Vtr) (m : Msg) => (fun k => bif Nat.beq k 0 then some (.inv [.ow 5 .cMsg, .sl 10 .cInt, .ce 1 .cMsg] (fun zv => (fun (out : (List Msg)) (k : Int) (p : Msg) => i_137_0 v m out k p) zv.1 zv.2.1 zv.2.2.1) (fun zv => (fun (out : (List Msg)) (k : Int) (p : Msg) => ((v.weights.length : Int) - k).toNat) zv.1 zv.2.1 zv.2.2.1)) else none)) x.1 x.2.1) fun x hp => Eq.mp (by kernel_rfl) (k_137_v x.1 x.2.1 hp)
def k_119 : Con Tc Tc.dn := ⟨119, [.ty .cVoters, .ty .cInt, .ty .cInt, .ty .cStr], fun x => (fun (v : Vtr) (op : Int) (kind : Int) (data : ByteArray) => True) x.1 x.2.1 x.2.2.1 x.2.2.2.1, [.cAsk, .lMsg, .cInt], fun x => (fun (v : Vtr) (op : Int) (kind : Int) (data : ByteArray) => beginA v op kind data) x.1 x.2.1 x.2.2.1 x.2.2.2.1⟩
theorem k_119_v (v : Vtr) (op : Int) (kind : Int) (data : ByteArray) : True ∧ (¬(Ask.mk op kind (1 : Int) data (Copy.mk (Stp.mk (0 : Int) (0 : Int)) (ByteArray.mk #[])) (uN (Int.toNat (0 : Int)))).checkE v.weights v.need = (0 : Int) → (Ask.mk (0 : Int) (0 : Int) (0 : Int) (ByteArray.mk #[]) (Copy.mk (Stp.mk (0 : Int) (0 : Int)) (ByteArray.mk #[])) (uN (Int.toNat (0 : Int))), [], (Ask.mk op kind (1 : Int) data (Copy.mk (Stp.mk (0 : Int) (0 : Int)) (ByteArray.mk #[])) (uN (Int.toNat (0 : Int)))).checkE v.weights v.need) = beginA v op kind data) ∧ ((Ask.mk op kind (1 : Int) data (Copy.mk (Stp.mk (0 : Int) (0 : Int)) (ByteArray.mk #[])) (uN (Int.toNat (0 : Int)))).checkE v.weights v.need = (0 : Int) → v.weights.length ≤ (1000000 : Nat) ∧ (Ask.mk op kind (1 : Int) data (Copy.mk (Stp.mk (0 : Int) (0 : Int)) (ByteArray.mk #[])) (uN (Int.toNat (0 : Int))), toAllM v.weights.length (Msg.mk (1 : Int) op (0 : Int) (Copy.mk (Stp.mk (0 : Int) (0 : Int)) (ByteArray.mk #[]))), (0 : Int)) = beginA v op kind data) := by
  (repeat' (first | apply And.intro | intro _)) <;> first | assumption | trivial | omega | (grind [beginA, Ask.zero, Ask.new, ask_len]) | trace_state
theorem k_119_ok : k_119.Ok Tryd.prog tD := con_ok tD_ok (Δ := [k_67, k_137]) ⟨k_67_ok, k_137_ok, trivial⟩ (Ω := []) trivial k_119 F119_ok F119_call (fun _ => []) (fun _ => trivial) 0 (fun x => (fun (v : Vtr) (op : Int) (kind : Int) (data : ByteArray) => (fun _ => none)) x.1 x.2.1 x.2.2.1 x.2.2.2.1) fun x hp => Eq.mp (by kernel_rfl) (k_119_v x.1 x.2.1 x.2.2.1 x.2.2.2.1)
open Go.RowKit
def bitU (k : Int) : U64 := uN ((uN (Int.toNat 1)).n * 2 ^ min k.toNat 64)
def wantsA (p : Int) : Int := if p = 1 then 2 else if p = 2 then 4 else 0
def heardA (a : Ask) (m : Msg) : Ask := ⟨a.op, a.kind, a.phase, a.data, if a.phase = 1 then a.best.raw m.copy else a.best, opU .or a.heard (bitU m.node)⟩
def hearT (v : Vtr) (a : Ask) (m : Msg) : Ask × List Msg :=
  if m.op ≠ a.op ∨ m.kind ≠ wantsA a.phase ∨ m.node ≥ v.weights.length ∨ ¬ ((opU .and a.heard (bitU m.node)).n : Int) = 0 then (a, [])
  else if ¬ (enoughP v.weights v.need (heardA a m).heard.n).1 = true then (heardA a m, [])
  else if a.phase = 2 then (⟨a.op, a.kind, 3, a.data, (heardA a m).best, (heardA a m).heard⟩, [])
  else if a.kind = 1 then (⟨a.op, a.kind, 2, a.data, (heardA a m).best, uN (Int.toNat 0)⟩, toAllM v.weights.length ⟨3, a.op, 0, (heardA a m).best⟩)
  else if (nextL [(heardA a m).best.at_] a.op).2 = 0 then (⟨a.op, a.kind, 2, a.data, ⟨(nextL [(heardA a m).best.at_] a.op).1, a.data⟩, uN (Int.toNat 0)⟩, toAllM v.weights.length ⟨3, a.op, 0, ⟨(nextL [(heardA a m).best.at_] a.op).1, a.data⟩⟩)
  else (a, [])
def hearA (v : Vtr) (a : Ask) (m : Msg) : Ask × List Msg × Int :=
  if a.checkE v.weights v.need ≠ 0 then (Ask.zero, [], a.checkE v.weights v.need) else if m.checkE ≠ 0 then (Ask.zero, [], m.checkE)
  else ((hearT v a m).1, (hearT v a m).2, 0)
def serveA (c : Copy) (m : Msg) : Copy × List Msg × Int :=
  if c.checkE ≠ 0 then (⟨⟨0, 0⟩, ⟨#[]⟩⟩, [], c.checkE) else if m.checkE ≠ 0 then (⟨⟨0, 0⟩, ⟨#[]⟩⟩, [], m.checkE)
  else if m.kind = 1 then (c, [⟨2, m.op, m.node, c⟩], 0) else if m.kind = 3 then (c.raw m.copy, [⟨4, m.op, m.node, ⟨⟨0, 0⟩, ⟨#[]⟩⟩⟩], 0) else (c, [], 0)
theorem msg_in {m : Msg} (h : m.checkE = 0) : 0 ≤ m.op ∧ m.op ≤ 30 ∧ 0 ≤ m.node ∧ m.node ≤ 11 ∧ 1 ≤ m.kind ∧ m.kind ≤ 4 := by
  unfold Msg.checkE at h
  by_cases h1 : 1 ≤ m.kind ∧ m.kind ≤ 4
  · rw [if_neg (fun hh => hh h1)] at h
    by_cases h2 : 0 ≤ m.op ∧ m.op ≤ 30 ∧ 0 ≤ m.node ∧ m.node ≤ 11
    · omega
    · rw [if_pos h2] at h; simp at h
  · rw [if_pos h1] at h; simp at h
def k_120 : Con Tc Tc.dn := ⟨120, [.ty .cCopy, .ty .cMsg], fun x => (fun (c : Copy) (m : Msg) => True) x.1 x.2.1, [.cCopy, .lMsg, .cInt], fun x => (fun (c : Copy) (m : Msg) => serveA c m) x.1 x.2.1⟩
theorem k_120_v (c : Copy) (m : Msg) : True ∧ (c.checkE = (0 : Int) → True ∧ (¬m.checkE = (0 : Int) → (Copy.mk (Stp.mk (0 : Int) (0 : Int)) (ByteArray.mk #[]), [], m.checkE) = serveA c m) ∧ (m.checkE = (0 : Int) → (m.kind = (1 : Int) → (c, [Msg.mk (2 : Int) m.op m.node c], (0 : Int)) = serveA c m) ∧ (¬m.kind = (1 : Int) → (m.kind = (3 : Int) → True ∧ (c.raw m.copy, [Msg.mk (4 : Int) m.op m.node (Copy.mk (Stp.mk (0 : Int) (0 : Int)) (ByteArray.mk #[]))], (0 : Int)) = serveA c m) ∧ (¬m.kind = (3 : Int) → (c, [], (0 : Int)) = serveA c m)))) ∧ (¬c.checkE = (0 : Int) → (¬c.checkE = (0 : Int) → (Copy.mk (Stp.mk (0 : Int) (0 : Int)) (ByteArray.mk #[]), [], c.checkE) = serveA c m) ∧ (c.checkE = (0 : Int) → (m.kind = (1 : Int) → (c, [Msg.mk (2 : Int) m.op m.node c], (0 : Int)) = serveA c m) ∧ (¬m.kind = (1 : Int) → (m.kind = (3 : Int) → True ∧ (c.raw m.copy, [Msg.mk (4 : Int) m.op m.node (Copy.mk (Stp.mk (0 : Int) (0 : Int)) (ByteArray.mk #[]))], (0 : Int)) = serveA c m) ∧ (¬m.kind = (3 : Int) → (c, [], (0 : Int)) = serveA c m)))) := by
  (repeat' (first | apply And.intro | intro _)) <;> first | assumption | trivial | omega | (grind [serveA]) | trace_state
theorem k_120_ok : k_120.Ok Tryd.prog tD := con_ok tD_ok (Δ := [k_46, k_69, k_138]) ⟨k_46_ok, k_69_ok, k_138_ok, trivial⟩ (Ω := []) trivial k_120 F120_ok F120_call (fun _ => []) (fun _ => trivial) 0 (fun x => (fun (c : Copy) (m : Msg) => (fun _ => none)) x.1 x.2.1) fun x hp => Eq.mp (by kernel_rfl) (k_120_v x.1 x.2.1)
def k_121 : Con Tc Tc.dn := ⟨121, [.ty .cVoters, .ty .cAsk, .ty .cMsg], fun x => (fun (v : Vtr) (a : Ask) (m : Msg) => True) x.1 x.2.1 x.2.2.1, [.cAsk, .lMsg, .cInt], fun x => (fun (v : Vtr) (a : Ask) (m : Msg) => hearA v a m) x.1 x.2.1 x.2.2.1⟩
theorem k_121_v (v : Vtr) (a : Ask) (m : Msg) : True ∧ (a.checkE v.weights v.need = (0 : Int) → True ∧ (¬m.checkE = (0 : Int) → (Ask.mk (0 : Int) (0 : Int) (0 : Int) (ByteArray.mk #[]) (Copy.mk (Stp.mk (0 : Int) (0 : Int)) (ByteArray.mk #[])) (uN (Int.toNat (0 : Int))), [], m.checkE) = hearA v a m) ∧ (m.checkE = (0 : Int) → (0 : Int) ≤ m.node ∧ (m.op = a.op → m.op = a.op) ∧ (m.op = a.op → m.op = a.op) ∧ (m.op = a.op → m.op = a.op) ∧ (m.op = a.op → m.op = a.op) ∧ (m.op = a.op → m.op = a.op) ∧ (m.op = a.op → m.op = a.op) ∧ (m.op = a.op → m.op = a.op) ∧ (m.op = a.op → m.op = a.op) ∧ (m.op = a.op → m.op = a.op) ∧ (m.op = a.op → m.op = a.op) ∧ ((m.op = a.op ∧ m.kind = if a.phase = (1 : Int) then (2 : Int) else if a.phase = (2 : Int) then (4 : Int) else (0 : Int)) → m.op = a.op ∧ m.kind = if a.phase = (1 : Int) then (2 : Int) else if a.phase = (2 : Int) then (4 : Int) else (0 : Int)) ∧ ((m.op = a.op ∧ m.kind = if a.phase = (1 : Int) then (2 : Int) else if a.phase = (2 : Int) then (4 : Int) else (0 : Int)) → m.op = a.op ∧ m.kind = if a.phase = (1 : Int) then (2 : Int) else if a.phase = (2 : Int) then (4 : Int) else (0 : Int)) ∧ ((m.op = a.op ∧ m.kind = if a.phase = (1 : Int) then (2 : Int) else if a.phase = (2 : Int) then (4 : Int) else (0 : Int)) → m.op = a.op ∧ m.kind = if a.phase = (1 : Int) then (2 : Int) else if a.phase = (2 : Int) then (4 : Int) else (0 : Int)) ∧ ((m.op = a.op ∧ m.kind = if a.phase = (1 : Int) then (2 : Int) else if a.phase = (2 : Int) then (4 : Int) else (0 : Int)) → m.op = a.op ∧ m.kind = if a.phase = (1 : Int) then (2 : Int) else if a.phase = (2 : Int) then (4 : Int) else (0 : Int)) ∧ ((m.op = a.op ∧ m.kind = if a.phase = (1 : Int) then (2 : Int) else if a.phase = (2 : Int) then (4 : Int) else (0 : Int)) → m.op = a.op ∧ m.kind = if a.phase = (1 : Int) then (2 : Int) else if a.phase = (2 : Int) then (4 : Int) else (0 : Int)) ∧ ((m.op = a.op ∧ m.kind = if a.phase = (1 : Int) then (2 : Int) else if a.phase = (2 : Int) then (4 : Int) else (0 : Int)) → m.op = a.op ∧ m.kind = if a.phase = (1 : Int) then (2 : Int) else if a.phase = (2 : Int) then (4 : Int) else (0 : Int)) ∧ ((m.op = a.op ∧ m.kind = if a.phase = (1 : Int) then (2 : Int) else if a.phase = (2 : Int) then (4 : Int) else (0 : Int)) → m.op = a.op ∧ m.kind = if a.phase = (1 : Int) then (2 : Int) else if a.phase = (2 : Int) then (4 : Int) else (0 : Int)) ∧ ((m.op = a.op ∧ m.kind = if a.phase = (1 : Int) then (2 : Int) else if a.phase = (2 : Int) then (4 : Int) else (0 : Int)) → m.op = a.op ∧ m.kind = if a.phase = (1 : Int) then (2 : Int) else if a.phase = (2 : Int) then (4 : Int) else (0 : Int)) ∧ ((m.op = a.op ∧ m.kind = if a.phase = (1 : Int) then (2 : Int) else if a.phase = (2 : Int) then (4 : Int) else (0 : Int)) → m.op = a.op ∧ m.kind = if a.phase = (1 : Int) then (2 : Int) else if a.phase = (2 : Int) then (4 : Int) else (0 : Int)) ∧ ((m.op = a.op ∧ m.kind = if a.phase = (1 : Int) then (2 : Int) else if a.phase = (2 : Int) then (4 : Int) else (0 : Int)) ∧ m.node < (↑v.weights.length : Int) → (m.op = a.op ∧ m.kind = if a.phase = (1 : Int) then (2 : Int) else if a.phase = (2 : Int) then (4 : Int) else (0 : Int)) ∧ m.node < (↑v.weights.length : Int)) ∧ ((m.op = a.op ∧ m.kind = if a.phase = (1 : Int) then (2 : Int) else if a.phase = (2 : Int) then (4 : Int) else (0 : Int)) ∧ m.node < (↑v.weights.length : Int) → (m.op = a.op ∧ m.kind = if a.phase = (1 : Int) then (2 : Int) else if a.phase = (2 : Int) then (4 : Int) else (0 : Int)) ∧ m.node < (↑v.weights.length : Int)) ∧ ((m.op = a.op ∧ m.kind = if a.phase = (1 : Int) then (2 : Int) else if a.phase = (2 : Int) then (4 : Int) else (0 : Int)) ∧ m.node < (↑v.weights.length : Int) → (m.op = a.op ∧ m.kind = if a.phase = (1 : Int) then (2 : Int) else if a.phase = (2 : Int) then (4 : Int) else (0 : Int)) ∧ m.node < (↑v.weights.length : Int)) ∧ ((m.op = a.op ∧ m.kind = if a.phase = (1 : Int) then (2 : Int) else if a.phase = (2 : Int) then (4 : Int) else (0 : Int)) ∧ m.node < (↑v.weights.length : Int) → (m.op = a.op ∧ m.kind = if a.phase = (1 : Int) then (2 : Int) else if a.phase = (2 : Int) then (4 : Int) else (0 : Int)) ∧ m.node < (↑v.weights.length : Int)) ∧ ((m.op = a.op ∧ m.kind = if a.phase = (1 : Int) then (2 : Int) else if a.phase = (2 : Int) then (4 : Int) else (0 : Int)) ∧ m.node < (↑v.weights.length : Int) → (m.op = a.op ∧ m.kind = if a.phase = (1 : Int) then (2 : Int) else if a.phase = (2 : Int) then (4 : Int) else (0 : Int)) ∧ m.node < (↑v.weights.length : Int)) ∧ ((m.op = a.op ∧ m.kind = if a.phase = (1 : Int) then (2 : Int) else if a.phase = (2 : Int) then (4 : Int) else (0 : Int)) ∧ m.node < (↑v.weights.length : Int) → (m.op = a.op ∧ m.kind = if a.phase = (1 : Int) then (2 : Int) else if a.phase = (2 : Int) then (4 : Int) else (0 : Int)) ∧ m.node < (↑v.weights.length : Int)) ∧ ((m.op = a.op ∧ m.kind = if a.phase = (1 : Int) then (2 : Int) else if a.phase = (2 : Int) then (4 : Int) else (0 : Int)) ∧ m.node < (↑v.weights.length : Int) → (m.op = a.op ∧ m.kind = if a.phase = (1 : Int) then (2 : Int) else if a.phase = (2 : Int) then (4 : Int) else (0 : Int)) ∧ m.node < (↑v.weights.length : Int)) ∧ ((m.op = a.op ∧ m.kind = if a.phase = (1 : Int) then (2 : Int) else if a.phase = (2 : Int) then (4 : Int) else (0 : Int)) ∧ m.node < (↑v.weights.length : Int) → (m.op = a.op ∧ m.kind = if a.phase = (1 : Int) then (2 : Int) else if a.phase = (2 : Int) then (4 : Int) else (0 : Int)) ∧ m.node < (↑v.weights.length : Int)) ∧ (((¬m.op = a.op ∨ ¬m.kind = if a.phase = (1 : Int) then (2 : Int) else if a.phase = (2 : Int) then (4 : Int) else (0 : Int)) ∨ (↑v.weights.length : Int) ≤ m.node) ∨ ¬(↑(opU BinOp.and a.heard (uN ((uN (Int.toNat (1 : Int))).n * (2 : Nat) ^ min m.node.toNat (64 : Nat)))).n : Int) = (↑(uN (Int.toNat (0 : Int))).n : Int) → (a, [], (0 : Int)) = hearA v a m) ∧ (((m.op = a.op ∧ m.kind = if a.phase = (1 : Int) then (2 : Int) else if a.phase = (2 : Int) then (4 : Int) else (0 : Int)) ∧ m.node < (↑v.weights.length : Int)) ∧ (↑(opU BinOp.and a.heard (uN ((uN (Int.toNat (1 : Int))).n * (2 : Nat) ^ min m.node.toNat (64 : Nat)))).n : Int) = (↑(uN (Int.toNat (0 : Int))).n : Int) → (a.phase = (1 : Int) → True ∧ True ∧ ((enoughP v.weights v.need ((a.heard.n ||| (uN ((uN (Int.toNat (1 : Int))).n * (2 : Nat) ^ min m.node.toNat (64 : Nat))).n) % (18446744073709551616 : Nat))).fst = !true → (Ask.mk a.op a.kind a.phase a.data (a.best.raw m.copy) (opU BinOp.or a.heard (uN ((uN (Int.toNat (1 : Int))).n * (2 : Nat) ^ min m.node.toNat (64 : Nat)))), [], (0 : Int)) = hearA v a m) ∧ ((enoughP v.weights v.need ((a.heard.n ||| (uN ((uN (Int.toNat (1 : Int))).n * (2 : Nat) ^ min m.node.toNat (64 : Nat))).n) % (18446744073709551616 : Nat))).fst = !false → (a.phase = (2 : Int) → (Ask.mk a.op a.kind (3 : Int) a.data (a.best.raw m.copy) (opU BinOp.or a.heard (uN ((uN (Int.toNat (1 : Int))).n * (2 : Nat) ^ min m.node.toNat (64 : Nat)))), [], (0 : Int)) = hearA v a m) ∧ (¬a.phase = (2 : Int) → (a.kind = (1 : Int) → v.weights.length ≤ (1000000 : Nat) ∧ (Ask.mk a.op a.kind (2 : Int) a.data (a.best.raw m.copy) (uN (Int.toNat (0 : Int))), toAllM v.weights.length (Msg.mk (3 : Int) a.op (0 : Int) (a.best.raw m.copy)), (0 : Int)) = hearA v a m) ∧ (¬a.kind = (1 : Int) → (1 : Nat) ≤ (1000000 : Nat) ∧ (¬(nextL [(a.best.raw m.copy).at_] a.op).snd = (0 : Int) → (a, [], (0 : Int)) = hearA v a m) ∧ ((nextL [(a.best.raw m.copy).at_] a.op).snd = (0 : Int) → v.weights.length ≤ (1000000 : Nat) ∧ (Ask.mk a.op a.kind (2 : Int) a.data (Copy.mk (nextL [(a.best.raw m.copy).at_] a.op).fst a.data) (uN (Int.toNat (0 : Int))), toAllM v.weights.length (Msg.mk (3 : Int) a.op (0 : Int) (Copy.mk (nextL [(a.best.raw m.copy).at_] a.op).fst a.data)), (0 : Int)) = hearA v a m))))) ∧ (¬a.phase = (1 : Int) → True ∧ ((enoughP v.weights v.need ((a.heard.n ||| (uN ((uN (Int.toNat (1 : Int))).n * (2 : Nat) ^ min m.node.toNat (64 : Nat))).n) % (18446744073709551616 : Nat))).fst = !true → (Ask.mk a.op a.kind a.phase a.data a.best (opU BinOp.or a.heard (uN ((uN (Int.toNat (1 : Int))).n * (2 : Nat) ^ min m.node.toNat (64 : Nat)))), [], (0 : Int)) = hearA v a m) ∧ ((enoughP v.weights v.need ((a.heard.n ||| (uN ((uN (Int.toNat (1 : Int))).n * (2 : Nat) ^ min m.node.toNat (64 : Nat))).n) % (18446744073709551616 : Nat))).fst = !false → (a.phase = (2 : Int) → (Ask.mk a.op a.kind (3 : Int) a.data a.best (opU BinOp.or a.heard (uN ((uN (Int.toNat (1 : Int))).n * (2 : Nat) ^ min m.node.toNat (64 : Nat)))), [], (0 : Int)) = hearA v a m) ∧ (¬a.phase = (2 : Int) → (a.kind = (1 : Int) → v.weights.length ≤ (1000000 : Nat) ∧ (Ask.mk a.op a.kind (2 : Int) a.data a.best (uN (Int.toNat (0 : Int))), toAllM v.weights.length (Msg.mk (3 : Int) a.op (0 : Int) a.best), (0 : Int)) = hearA v a m) ∧ (¬a.kind = (1 : Int) → (1 : Nat) ≤ (1000000 : Nat) ∧ (¬(nextL [a.best.at_] a.op).snd = (0 : Int) → (a, [], (0 : Int)) = hearA v a m) ∧ ((nextL [a.best.at_] a.op).snd = (0 : Int) → v.weights.length ≤ (1000000 : Nat) ∧ (Ask.mk a.op a.kind (2 : Int) a.data (Copy.mk (nextL [a.best.at_] a.op).fst a.data) (uN (Int.toNat (0 : Int))), toAllM v.weights.length (Msg.mk (3 : Int) a.op (0 : Int) (Copy.mk (nextL [a.best.at_] a.op).fst a.data)), (0 : Int)) = hearA v a m)))))))) ∧ (¬a.checkE v.weights v.need = (0 : Int) → (¬a.checkE v.weights v.need = (0 : Int) → (Ask.mk (0 : Int) (0 : Int) (0 : Int) (ByteArray.mk #[]) (Copy.mk (Stp.mk (0 : Int) (0 : Int)) (ByteArray.mk #[])) (uN (Int.toNat (0 : Int))), [], a.checkE v.weights v.need) = hearA v a m) ∧ (a.checkE v.weights v.need = (0 : Int) → (0 : Int) ≤ m.node ∧ (m.op = a.op → m.op = a.op) ∧ (m.op = a.op → m.op = a.op) ∧ (m.op = a.op → m.op = a.op) ∧ (m.op = a.op → m.op = a.op) ∧ (m.op = a.op → m.op = a.op) ∧ (m.op = a.op → m.op = a.op) ∧ (m.op = a.op → m.op = a.op) ∧ (m.op = a.op → m.op = a.op) ∧ (m.op = a.op → m.op = a.op) ∧ (m.op = a.op → m.op = a.op) ∧ ((m.op = a.op ∧ m.kind = if a.phase = (1 : Int) then (2 : Int) else if a.phase = (2 : Int) then (4 : Int) else (0 : Int)) → m.op = a.op ∧ m.kind = if a.phase = (1 : Int) then (2 : Int) else if a.phase = (2 : Int) then (4 : Int) else (0 : Int)) ∧ ((m.op = a.op ∧ m.kind = if a.phase = (1 : Int) then (2 : Int) else if a.phase = (2 : Int) then (4 : Int) else (0 : Int)) → m.op = a.op ∧ m.kind = if a.phase = (1 : Int) then (2 : Int) else if a.phase = (2 : Int) then (4 : Int) else (0 : Int)) ∧ ((m.op = a.op ∧ m.kind = if a.phase = (1 : Int) then (2 : Int) else if a.phase = (2 : Int) then (4 : Int) else (0 : Int)) → m.op = a.op ∧ m.kind = if a.phase = (1 : Int) then (2 : Int) else if a.phase = (2 : Int) then (4 : Int) else (0 : Int)) ∧ ((m.op = a.op ∧ m.kind = if a.phase = (1 : Int) then (2 : Int) else if a.phase = (2 : Int) then (4 : Int) else (0 : Int)) → m.op = a.op ∧ m.kind = if a.phase = (1 : Int) then (2 : Int) else if a.phase = (2 : Int) then (4 : Int) else (0 : Int)) ∧ ((m.op = a.op ∧ m.kind = if a.phase = (1 : Int) then (2 : Int) else if a.phase = (2 : Int) then (4 : Int) else (0 : Int)) → m.op = a.op ∧ m.kind = if a.phase = (1 : Int) then (2 : Int) else if a.phase = (2 : Int) then (4 : Int) else (0 : Int)) ∧ ((m.op = a.op ∧ m.kind = if a.phase = (1 : Int) then (2 : Int) else if a.phase = (2 : Int) then (4 : Int) else (0 : Int)) → m.op = a.op ∧ m.kind = if a.phase = (1 : Int) then (2 : Int) else if a.phase = (2 : Int) then (4 : Int) else (0 : Int)) ∧ ((m.op = a.op ∧ m.kind = if a.phase = (1 : Int) then (2 : Int) else if a.phase = (2 : Int) then (4 : Int) else (0 : Int)) → m.op = a.op ∧ m.kind = if a.phase = (1 : Int) then (2 : Int) else if a.phase = (2 : Int) then (4 : Int) else (0 : Int)) ∧ ((m.op = a.op ∧ m.kind = if a.phase = (1 : Int) then (2 : Int) else if a.phase = (2 : Int) then (4 : Int) else (0 : Int)) → m.op = a.op ∧ m.kind = if a.phase = (1 : Int) then (2 : Int) else if a.phase = (2 : Int) then (4 : Int) else (0 : Int)) ∧ ((m.op = a.op ∧ m.kind = if a.phase = (1 : Int) then (2 : Int) else if a.phase = (2 : Int) then (4 : Int) else (0 : Int)) → m.op = a.op ∧ m.kind = if a.phase = (1 : Int) then (2 : Int) else if a.phase = (2 : Int) then (4 : Int) else (0 : Int)) ∧ ((m.op = a.op ∧ m.kind = if a.phase = (1 : Int) then (2 : Int) else if a.phase = (2 : Int) then (4 : Int) else (0 : Int)) ∧ m.node < (↑v.weights.length : Int) → (m.op = a.op ∧ m.kind = if a.phase = (1 : Int) then (2 : Int) else if a.phase = (2 : Int) then (4 : Int) else (0 : Int)) ∧ m.node < (↑v.weights.length : Int)) ∧ ((m.op = a.op ∧ m.kind = if a.phase = (1 : Int) then (2 : Int) else if a.phase = (2 : Int) then (4 : Int) else (0 : Int)) ∧ m.node < (↑v.weights.length : Int) → (m.op = a.op ∧ m.kind = if a.phase = (1 : Int) then (2 : Int) else if a.phase = (2 : Int) then (4 : Int) else (0 : Int)) ∧ m.node < (↑v.weights.length : Int)) ∧ ((m.op = a.op ∧ m.kind = if a.phase = (1 : Int) then (2 : Int) else if a.phase = (2 : Int) then (4 : Int) else (0 : Int)) ∧ m.node < (↑v.weights.length : Int) → (m.op = a.op ∧ m.kind = if a.phase = (1 : Int) then (2 : Int) else if a.phase = (2 : Int) then (4 : Int) else (0 : Int)) ∧ m.node < (↑v.weights.length : Int)) ∧ ((m.op = a.op ∧ m.kind = if a.phase = (1 : Int) then (2 : Int) else if a.phase = (2 : Int) then (4 : Int) else (0 : Int)) ∧ m.node < (↑v.weights.length : Int) → (m.op = a.op ∧ m.kind = if a.phase = (1 : Int) then (2 : Int) else if a.phase = (2 : Int) then (4 : Int) else (0 : Int)) ∧ m.node < (↑v.weights.length : Int)) ∧ ((m.op = a.op ∧ m.kind = if a.phase = (1 : Int) then (2 : Int) else if a.phase = (2 : Int) then (4 : Int) else (0 : Int)) ∧ m.node < (↑v.weights.length : Int) → (m.op = a.op ∧ m.kind = if a.phase = (1 : Int) then (2 : Int) else if a.phase = (2 : Int) then (4 : Int) else (0 : Int)) ∧ m.node < (↑v.weights.length : Int)) ∧ ((m.op = a.op ∧ m.kind = if a.phase = (1 : Int) then (2 : Int) else if a.phase = (2 : Int) then (4 : Int) else (0 : Int)) ∧ m.node < (↑v.weights.length : Int) → (m.op = a.op ∧ m.kind = if a.phase = (1 : Int) then (2 : Int) else if a.phase = (2 : Int) then (4 : Int) else (0 : Int)) ∧ m.node < (↑v.weights.length : Int)) ∧ ((m.op = a.op ∧ m.kind = if a.phase = (1 : Int) then (2 : Int) else if a.phase = (2 : Int) then (4 : Int) else (0 : Int)) ∧ m.node < (↑v.weights.length : Int) → (m.op = a.op ∧ m.kind = if a.phase = (1 : Int) then (2 : Int) else if a.phase = (2 : Int) then (4 : Int) else (0 : Int)) ∧ m.node < (↑v.weights.length : Int)) ∧ ((m.op = a.op ∧ m.kind = if a.phase = (1 : Int) then (2 : Int) else if a.phase = (2 : Int) then (4 : Int) else (0 : Int)) ∧ m.node < (↑v.weights.length : Int) → (m.op = a.op ∧ m.kind = if a.phase = (1 : Int) then (2 : Int) else if a.phase = (2 : Int) then (4 : Int) else (0 : Int)) ∧ m.node < (↑v.weights.length : Int)) ∧ (((¬m.op = a.op ∨ ¬m.kind = if a.phase = (1 : Int) then (2 : Int) else if a.phase = (2 : Int) then (4 : Int) else (0 : Int)) ∨ (↑v.weights.length : Int) ≤ m.node) ∨ ¬(↑(opU BinOp.and a.heard (uN ((uN (Int.toNat (1 : Int))).n * (2 : Nat) ^ min m.node.toNat (64 : Nat)))).n : Int) = (↑(uN (Int.toNat (0 : Int))).n : Int) → (a, [], (0 : Int)) = hearA v a m) ∧ (((m.op = a.op ∧ m.kind = if a.phase = (1 : Int) then (2 : Int) else if a.phase = (2 : Int) then (4 : Int) else (0 : Int)) ∧ m.node < (↑v.weights.length : Int)) ∧ (↑(opU BinOp.and a.heard (uN ((uN (Int.toNat (1 : Int))).n * (2 : Nat) ^ min m.node.toNat (64 : Nat)))).n : Int) = (↑(uN (Int.toNat (0 : Int))).n : Int) → (a.phase = (1 : Int) → True ∧ True ∧ ((enoughP v.weights v.need ((a.heard.n ||| (uN ((uN (Int.toNat (1 : Int))).n * (2 : Nat) ^ min m.node.toNat (64 : Nat))).n) % (18446744073709551616 : Nat))).fst = !true → (Ask.mk a.op a.kind a.phase a.data (a.best.raw m.copy) (opU BinOp.or a.heard (uN ((uN (Int.toNat (1 : Int))).n * (2 : Nat) ^ min m.node.toNat (64 : Nat)))), [], (0 : Int)) = hearA v a m) ∧ ((enoughP v.weights v.need ((a.heard.n ||| (uN ((uN (Int.toNat (1 : Int))).n * (2 : Nat) ^ min m.node.toNat (64 : Nat))).n) % (18446744073709551616 : Nat))).fst = !false → (a.phase = (2 : Int) → (Ask.mk a.op a.kind (3 : Int) a.data (a.best.raw m.copy) (opU BinOp.or a.heard (uN ((uN (Int.toNat (1 : Int))).n * (2 : Nat) ^ min m.node.toNat (64 : Nat)))), [], (0 : Int)) = hearA v a m) ∧ (¬a.phase = (2 : Int) → (a.kind = (1 : Int) → v.weights.length ≤ (1000000 : Nat) ∧ (Ask.mk a.op a.kind (2 : Int) a.data (a.best.raw m.copy) (uN (Int.toNat (0 : Int))), toAllM v.weights.length (Msg.mk (3 : Int) a.op (0 : Int) (a.best.raw m.copy)), (0 : Int)) = hearA v a m) ∧ (¬a.kind = (1 : Int) → (1 : Nat) ≤ (1000000 : Nat) ∧ (¬(nextL [(a.best.raw m.copy).at_] a.op).snd = (0 : Int) → (a, [], (0 : Int)) = hearA v a m) ∧ ((nextL [(a.best.raw m.copy).at_] a.op).snd = (0 : Int) → v.weights.length ≤ (1000000 : Nat) ∧ (Ask.mk a.op a.kind (2 : Int) a.data (Copy.mk (nextL [(a.best.raw m.copy).at_] a.op).fst a.data) (uN (Int.toNat (0 : Int))), toAllM v.weights.length (Msg.mk (3 : Int) a.op (0 : Int) (Copy.mk (nextL [(a.best.raw m.copy).at_] a.op).fst a.data)), (0 : Int)) = hearA v a m))))) ∧ (¬a.phase = (1 : Int) → True ∧ ((enoughP v.weights v.need ((a.heard.n ||| (uN ((uN (Int.toNat (1 : Int))).n * (2 : Nat) ^ min m.node.toNat (64 : Nat))).n) % (18446744073709551616 : Nat))).fst = !true → (Ask.mk a.op a.kind a.phase a.data a.best (opU BinOp.or a.heard (uN ((uN (Int.toNat (1 : Int))).n * (2 : Nat) ^ min m.node.toNat (64 : Nat)))), [], (0 : Int)) = hearA v a m) ∧ ((enoughP v.weights v.need ((a.heard.n ||| (uN ((uN (Int.toNat (1 : Int))).n * (2 : Nat) ^ min m.node.toNat (64 : Nat))).n) % (18446744073709551616 : Nat))).fst = !false → (a.phase = (2 : Int) → (Ask.mk a.op a.kind (3 : Int) a.data a.best (opU BinOp.or a.heard (uN ((uN (Int.toNat (1 : Int))).n * (2 : Nat) ^ min m.node.toNat (64 : Nat)))), [], (0 : Int)) = hearA v a m) ∧ (¬a.phase = (2 : Int) → (a.kind = (1 : Int) → v.weights.length ≤ (1000000 : Nat) ∧ (Ask.mk a.op a.kind (2 : Int) a.data a.best (uN (Int.toNat (0 : Int))), toAllM v.weights.length (Msg.mk (3 : Int) a.op (0 : Int) a.best), (0 : Int)) = hearA v a m) ∧ (¬a.kind = (1 : Int) → (1 : Nat) ≤ (1000000 : Nat) ∧ (¬(nextL [a.best.at_] a.op).snd = (0 : Int) → (a, [], (0 : Int)) = hearA v a m) ∧ ((nextL [a.best.at_] a.op).snd = (0 : Int) → v.weights.length ≤ (1000000 : Nat) ∧ (Ask.mk a.op a.kind (2 : Int) a.data (Copy.mk (nextL [a.best.at_] a.op).fst a.data) (uN (Int.toNat (0 : Int))), toAllM v.weights.length (Msg.mk (3 : Int) a.op (0 : Int) (Copy.mk (nextL [a.best.at_] a.op).fst a.data)), (0 : Int)) = hearA v a m)))))))) := by
  have hmi := @msg_in m
  have hal := @ask_len a v.weights v.need
  have hu0 : (uN (Int.toNat 0)).n = 0 := rfl
  have hb : uN ((uN (Int.toNat 1)).n * 2 ^ min m.node.toNat 64) = bitU m.node := rfl
  have hor : ∀ x y : U64, (x.n ||| y.n) % 18446744073709551616 = (opU .or x y).n := fun _ _ => rfl
  have hw : wantsA a.phase = if a.phase = 1 then 2 else if a.phase = 2 then 4 else 0 := rfl
  simp only [hb, hor, hu0, ← hw]
  clear hb hor hu0 hw
  (repeat' (first | apply And.intro | intro _)) <;> first | assumption | trivial | omega | (grind [Ask.zero]) | (simp only [hearA, hearT, heardA, *]; grind) | (unfold hearA hearT heardA; (repeat' split) <;> first | rfl | (exfalso; grind) | grind | (simp_all; done)) | trace_state
def l_121 : PD Tc.dn k_121.ps → List (IL Tc Tc.dn) := fun x => (fun (v : Vtr) (a : Ask) (m : Msg) => ([⟨139, .fn F139 (fun _ => none)⟩, ⟨149, .fn F149 (fun _ => none)⟩])) x.1 x.2.1 x.2.2.1
theorem l_121_ok : ∀ x, ILs Tryd.prog tD (l_121 x) := fun _ => ⟨⟨F139_ok, F139_call⟩, ⟨F149_ok, F149_call⟩, trivial⟩
theorem k_121_ok : k_121.Ok Tryd.prog tD := con_ok tD_ok (Δ := [k_67, k_69, k_137, k_138, k_24, k_151]) ⟨k_67_ok, k_69_ok, k_137_ok, k_138_ok, k_24_ok, k_151_ok, trivial⟩ (Ω := []) trivial k_121 F121_ok F121_call (l_121) (l_121_ok) 2 (fun x => (fun (v : Vtr) (a : Ask) (m : Msg) => (fun _ => none)) x.1 x.2.1 x.2.2.1) fun x hp => Eq.mp (by kernel_rfl) (k_121_v x.1 x.2.1 x.2.2.1)
end Go.Proofs.YtpagdlhlfmenmaaDoor
