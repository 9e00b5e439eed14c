/- Frames and own memory as lists, and the rules by which a body is walked. No condition. -/
import Derived.Test.YtgepadjkegfokaaDoorPAvFn
set_option linter.unusedSimpArgs false
set_option linter.unusedVariables false
namespace Go.Proofs.YtgepadjkegfokaaDoor
set_option linter.unusedSimpArgs false
set_option linter.unusedVariables false
open Go.RowKit
/-- What is known of a frame: some slots; and the own memory. -/
structure L3 where
  t : List (Nat × AV)
  m : List (Option Bk)
def slot : List (Nat × AV) → Nat → AV
  | [], _ => .dead
  | (j, v) :: r, i => bif Nat.beq i j then v else slot r i
def rmA (d : Nat) : List (Nat × AV) → List (Nat × AV)
  | [] => []
  | (j, v) :: r => bif Nat.beq j d then rmA d r else (j, v) :: rmA d r
def setA (t : List (Nat × AV)) : Option Nat → AV → List (Nat × AV)
  | none, _ => t
  | some d, v => (d, v) :: rmA d t
def dstOK (n : Nat) : Option Nat → Bool
  | none => true
  | some d => Nat.blt d n
def look (m : List (Option Bk)) (id : Nat) : Option Bk := (m[id]?).join
def L3.s (x : L3) : S3 := ⟨slot x.t, look x.m, x.m.length⟩
def mput (m : List (Option Bk)) : List (Nat × Option Bk) → List (Option Bk)
  | [] => m
  | (id, x) :: r => mput (if id < m.length then m.set id x else m ++ [x]) r
def upsOK (k : Nat) : List (Nat × Option Bk) → Bool
  | [] => true
  | (id, _) :: r => decide (id ≤ k) && upsOK (if id < k then k else k + 1) r
theorem slot_rm {t : List (Nat × AV)} {d i : Nat} (h : i ≠ d) : slot (rmA d t) i = slot t i := by
  induction t with
  | nil => rfl
  | cons p r ih =>
    obtain ⟨j, v⟩ := p
    simp only [rmA, slot]
    cases hj : Nat.beq j d with
    | true =>
      have := Nat.eq_of_beq_eq_true hj
      subst this
      have hi : Nat.beq i j = false := by
        cases hb : Nat.beq i j with
        | false => rfl
        | true => exact absurd (Nat.eq_of_beq_eq_true hb) h
      simp [hi, ih]
    | false => simp only [cond_false, slot, ih]
theorem setA_slot {n : Nat} (t : List (Nat × AV)) (d : Option Nat) (hd : dstOK n d = true) (v : AV) : slot (setA t d v) = putσ n d v (slot t) := by
  funext i
  unfold putσ
  cases d with
  | none => simp [setA]
  | some d =>
    simp only [dstOK] at hd
    have hdn := Nat.le_of_ble_eq_true hd
    simp only [setA, slot, Option.some.injEq]
    by_cases h : d = i
    · subst h
      have : Nat.beq d d = true := Nat.beq_refl d
      rw [this, if_pos ⟨rfl, hdn⟩]; rfl
    · have hb : Nat.beq i d = false := by
        cases hb : Nat.beq i d with
        | false => rfl
        | true => exact absurd (Nat.eq_of_beq_eq_true hb).symm h
      rw [hb, if_neg (fun hh => h hh.1)]
      exact slot_rm (fun e => h e.symm)
theorem look_put (m : List (Option Bk)) (id : Nat) (x : Option Bk) (h : id ≤ m.length) : look (if id < m.length then m.set id x else m ++ [x]) = fun k => if k = id then x else look m k := by
  funext k
  unfold look
  by_cases hl : id < m.length
  · rw [if_pos hl, List.getElem?_set]
    by_cases hk : id = k
    · subst hk; simp [hl]
    · simp [hk, Ne.symm hk]
  · rw [if_neg hl]
    have : id = m.length := by omega
    subst this
    by_cases hk : k = m.length
    · subst hk; simp
    · rw [if_neg hk]
      rcases Nat.lt_or_ge k m.length with h1 | h1
      · rw [List.getElem?_append_left h1]
      · rw [List.getElem?_eq_none (by simp; omega), List.getElem?_eq_none (by omega)]
theorem mput_spec : ∀ (ups : List (Nat × Option Bk)) (m : List (Option Bk)), upsOK m.length ups = true → look (mput m ups) = gput (look m) ups ∧ m.length ≤ (mput m ups).length ∧ ∀ id, id ∈ ups.map Prod.fst → id < (mput m ups).length
  | [], m, _ => ⟨rfl, Nat.le_refl _, fun id h => by simp at h⟩
  | (i, x) :: r, m, h => by
    simp only [upsOK, Bool.and_eq_true, decide_eq_true_eq] at h
    have hlen : (if i < m.length then m.set i x else m ++ [x]).length = if i < m.length then m.length else m.length + 1 := by split <;> simp
    obtain ⟨h1, h2, h3⟩ := mput_spec r (if i < m.length then m.set i x else m ++ [x]) (by rw [hlen]; exact h.2)
    rw [hlen] at h2
    have e1 : m.length ≤ (if i < m.length then m.length else m.length + 1) := by split <;> omega
    have e2 : i < (if i < m.length then m.length else m.length + 1) := by have := h.1; split <;> omega
    refine ⟨?_, ?_, fun id hid => ?_⟩
    · simp only [mput, gput]
      rw [h1, look_put m i x h.1]
    · simp only [mput]; omega
    · simp only [mput]
      simp only [List.map_cons, List.mem_cons] at hid
      rcases hid with rfl | hid
      · omega
      · exact h3 id hid
/-- What one operation gives. -/
inductive EvR where
  | done (val : AV) (ups : List (Nat × Option Bk)) (acc : List Nat)
  | call (f : FuncId) (as : List AV)
  | stuck
def accOf (ao : AO) (x : L3) : List Nat := (ao.sem x.m.length (argσ (slot x.t))).acc (look x.m) ++ (ao.sem x.m.length (argσ (slot x.t))).see (look x.m)
def opE (o : AOper) (x : L3) : EvR :=
  match guardA (slot x.t) o.guard with
  | some false => .done (.v undef) [] []
  | some true => match (o.ao.sem x.m.length (argσ (slot x.t))).run (look x.m) with
    | some (.done val ups) => .done val ups (accOf o.ao x)
    | some (.call f as) => .call f as
    | none => .stuck
  | none => .stuck
theorem opE_done {P : Program} {o : AOper} {x : L3} {val : AV} {ups : List (Nat × Option Bk)} {acc : List Nat} (h : opE o x = .done val ups acc) : OpRun P (slot x.t) (look x.m) x.m.length o val ups acc := by
  unfold opE at h
  split at h
  · rename_i hg
    simp only [EvR.done.injEq] at h
    obtain ⟨rfl, rfl, rfl⟩ := h
    exact .skip hg
  · rename_i hg
    split at h
    · rename_i h1
      simp only [EvR.done.injEq] at h
      obtain ⟨rfl, rfl, rfl⟩ := h
      exact .done hg h1
    · simp at h
    · simp at h
  · simp at h
theorem opE_call {o : AOper} {x : L3} {f : FuncId} {as : List AV} (h : opE o x = .call f as) : guardA (slot x.t) o.guard = some true ∧ (o.ao.sem x.m.length (argσ (slot x.t))).run (look x.m) = some (.call f as) := by
  unfold opE at h
  split at h
  · simp at h
  · rename_i hg
    split at h
    · simp at h
    · rename_i h1
      simp only [EvR.call.injEq] at h
      obtain ⟨rfl, rfl⟩ := h
      exact ⟨hg, h1⟩
    · simp at h
  · simp at h
/-- Operations one behind the other, from x on, end in K. -/
def OW (P : Program) (n k0 : Nat) (os : List AOper) (x : L3) (K : L3 → Prop) : Prop := ∃ x' : L3, OpsRun P n k0 os (slot x.t) (look x.m) x.m.length (slot x'.t) (look x'.m) x'.m.length ∧ K x'
/-- .. and drawn: 'rs' what was done before. -/
def DW (P : Program) (n : Nat) (dep : List (List Nat)) (os : List AOper) (x : L3) (rs : List Rec) (K : L3 → Prop) : Prop :=
  ∃ x' : L3, DrawB P n dep os (slot x.t) (look x.m) x.m.length rs (slot x'.t) (look x'.m) x'.m.length ∧ K x'
section
variable {P : Program} {n k0 : Nat} {x : L3} {K : L3 → Prop}
theorem OW.nil (h : K x) : OW P n k0 [] x K := ⟨x, .nil, h⟩
theorem OW.cons {o : AOper} {os : List AOper} {val : AV} {ups : List (Nat × Option Bk)} {acc : List Nat} (hd : dstOK n o.dst = true) (h : opE o x = .done val ups acc) (hu : upsOK x.m.length ups = true) (hr : OW P n k0 os ⟨setA x.t o.dst val, mput x.m ups⟩ K) : OW P n k0 (o :: os) x K := by
  obtain ⟨x', h1, h3⟩ := hr
  simp only [setA_slot _ _ hd] at h1
  obtain ⟨m1, m2, m3⟩ := mput_spec ups x.m hu
  rw [m1] at h1
  exact ⟨x', .cons (opE_done h) m2 m3 h1, h3⟩
theorem OW.call {o : AOper} {os : List AOper} {f : FuncId} {as as' : List AV} {r : AV} (hd : dstOK n o.dst = true) (h : opE o x = .call f as) (hc : callable P f = true) (hs : (snapAs as).run (look x.m) = some as') (hf : Fn P f as' r) (hu : upsOK x.m.length (callUps as r) = true)
    (hr : OW P n k0 os ⟨setA x.t o.dst r, mput x.m (callUps as r)⟩ K) : OW P n k0 (o :: os) x K := by
  obtain ⟨x', h1, h3⟩ := hr
  simp only [setA_slot _ _ hd] at h1
  obtain ⟨m1, m2, m3⟩ := mput_spec _ x.m hu
  rw [m1] at h1
  obtain ⟨g1, g2⟩ := opE_call h
  exact ⟨x', .cons (.call g1 g2 hc hs hf) m2 m3 h1, h3⟩
theorem OW.inl {o : AOper} {os : List AOper} {f : FuncId} {as : List AV} {r : AV} {m' : List (Option Bk)} (hd : dstOK n o.dst = true) (h : opE o x = .call f as) (hc : callable P f = true) (hf : Fi P f as (look x.m) x.m.length r (look m') m'.length)
    (hr : OW P n k0 os ⟨setA x.t o.dst r, m'⟩ K) : OW P n k0 (o :: os) x K := by
  obtain ⟨x', h1, h3⟩ := hr
  simp only [setA_slot _ _ hd] at h1
  obtain ⟨g1, g2⟩ := opE_call h
  exact ⟨x', .inl g1 g2 hc hf h1, h3⟩
theorem DW.nil {dep : List (List Nat)} {rs : List Rec} (hid : idsOK rs dep = true) (h : K x) : DW P n dep [] x rs K := ⟨x, .nil hid, h⟩
theorem DW.cons {dep : List (List Nat)} {rs : List Rec} {o : AOper} {os : List AOper} {val : AV} {ups : List (Nat × Option Bk)} {acc : List Nat} (hd : dstOK n o.dst = true) (h : opE o x = .done val ups acc) (hu : upsOK x.m.length ups = true)
    (hr : DW P n dep os ⟨setA x.t o.dst val, mput x.m ups⟩ (rs ++ [⟨o.dst, val, ups, acc, x.m.length⟩]) K) : DW P n dep (o :: os) x rs K := by
  obtain ⟨x', h1, h4⟩ := hr
  simp only [setA_slot _ _ hd] at h1
  obtain ⟨m1, m2, m3⟩ := mput_spec ups x.m hu
  rw [m1] at h1
  exact ⟨x', .cons (opE_done h) m2 m3 h1, h4⟩
/-- What a call looks at. -/
def accCall (ao : AO) (as : List AV) (x : L3) : List Nat := accOf ao x ++ ((snapAs as).acc (look x.m) ++ (snapAs as).see (look x.m))
theorem DW.call {dep : List (List Nat)} {rs : List Rec} {o : AOper} {os : List AOper} {f : FuncId} {as as' : List AV} {r : AV} (hd : dstOK n o.dst = true) (h : opE o x = .call f as) (hc : callable P f = true) (hs : (snapAs as).run (look x.m) = some as') (hf : Fn P f as' r) (hu : upsOK x.m.length (callUps as r) = true)
    (hr : DW P n dep os ⟨setA x.t o.dst r, mput x.m (callUps as r)⟩ (rs ++ [⟨o.dst, r, callUps as r, accCall o.ao as x, x.m.length⟩]) K) : DW P n dep (o :: os) x rs K := by
  obtain ⟨x', h1, h4⟩ := hr
  simp only [setA_slot _ _ hd] at h1
  obtain ⟨m1, m2, m3⟩ := mput_spec _ x.m hu
  rw [m1] at h1
  obtain ⟨g1, g2⟩ := opE_call h
  exact ⟨x', .cons (.call g1 g2 hc hs hf) m2 m3 h1, h4⟩
/-- A call upon the same memory: all others come before or behind it. -/
theorem DW.bar {dep : List (List Nat)} {rs : List Rec} {o : AOper} {os : List AOper} {f : FuncId} {as : List AV} {r : AV} {m' : List (Option Bk)} (hd : dstOK n o.dst = true) (h : opE o x = .call f as) (hc : callable P f = true) (hf : Fi P f as (look x.m) x.m.length r (look m') m'.length) (hid : idsOK rs dep = true) (hb : barOK dep rs.length (rs.length + 1 + os.length) = true)
    (hr : DW P n dep os ⟨setA x.t o.dst r, m'⟩ (List.replicate (rs.length + 1) (dumR m'.length)) K) : DW P n dep (o :: os) x rs K := by
  obtain ⟨x', h1, h4⟩ := hr
  simp only [setA_slot _ _ hd] at h1
  obtain ⟨g1, g2⟩ := opE_call h
  exact ⟨x', .bar hid hb g1 g2 hc hf h1, h4⟩
end
def EL (P : Program) (n k0 : Nat) (ac : AC) (x : L3) (Q : Ex → L3 → Prop) : Prop := EW P n k0 ac x.s fun e s' => ∃ x' : L3, s' = x'.s ∧ Q e x'
section
variable {P : Program} {n k0 : Nat} {x : L3} {Q : Ex → L3 → Prop}
def Ex.thenL (next : L3 → Prop) (Q : Ex → L3 → Prop) : Ex → L3 → Prop
  | .normal, s => next s
  | e, s => Q e s
def Ex.inBlockL (id : Nat) (Q : Ex → L3 → Prop) : Ex → L3 → Prop
  | .exit i, s => if i = id then Q .normal s else Q (.exit i) s
  | e, s => Q e s
theorem EL.conseq {ac : AC} {Q' : Ex → L3 → Prop} (h : EL P n k0 ac x Q) (hq : ∀ e x, Q e x → Q' e x) : EL P n k0 ac x Q' := EW.conseq h fun e s ⟨x', h1, h3⟩ => ⟨x', h1, hq e x' h3⟩
theorem EL.weak {ac : AC} {y : L3} (hs : x.s.Le k0 n y.s) (h : EL P n k0 ac y Q) : EL P n k0 ac x Q := EW.weak hs h
theorem EL.skip (h : Q .normal x) : EL P n k0 .skip x Q := EW.skip ⟨x, rfl, h⟩
theorem EL.ret (h : Q .ret x) : EL P n k0 .ret x Q := EW.ret ⟨x, rfl, h⟩
theorem EL.exit {id : Nat} (h : Q (.exit id) x) : EL P n k0 (.exit id) x Q := EW.exit ⟨x, rfl, h⟩
theorem EL.seq {a b : AC} (h : EL P n k0 a x (Ex.thenL (fun x' => EL P n k0 b x' Q) Q)) : EL P n k0 (.seq a b) x Q :=
  EW.seq (EW.conseq h fun e s ⟨x', h1, h3⟩ => by
    cases e with
    | normal => subst h1; exact h3
    | exit id => exact ⟨x', h1, h3⟩
    | ret => exact ⟨x', h1, h3⟩)
theorem EL.cond {b : Arg} {y z : AC} {t : Bool} (hb : argσ (slot x.t) b = .v (.bool t)) (h1 : t = true → EL P n k0 y x Q) (h2 : t = false → EL P n k0 z x Q) : EL P n k0 (.cond b y z) x Q :=
  EW.cond hb (by
    cases t with
    | true => exact h1 rfl
    | false => exact h2 rfl)
theorem EL.block {id : Nat} {a : AC} (h : EL P n k0 a x (Ex.inBlockL id Q)) : EL P n k0 (.block id a) x Q :=
  EW.block (EW.conseq h fun e s ⟨x', h1, h3⟩ => by
    cases e with
    | normal => exact ⟨x', h1, h3⟩
    | exit i =>
      simp only [Ex.inBlockL] at h3
      simp only [Ex.inBlock]
      split
      · rename_i hi; rw [if_pos hi] at h3; exact ⟨x', h1, h3⟩
      · rename_i hi; rw [if_neg hi] at h3; exact ⟨x', h1, h3⟩
    | ret => exact ⟨x', h1, h3⟩)
theorem EL.loop {a : AC} (I : Nat → L3 → Prop) {m : Nat} (h0 : I m x) (round : ∀ m x, I m x → EL P n k0 a x (Ex.thenL (fun x' => ∃ m', m' < m ∧ I m' x') Q)) : EL P n k0 (.loop a) x Q :=
  EW.loop (fun m s => ∃ x : L3, s = x.s ∧ I m x) (m := m) ⟨x, rfl, h0⟩ fun m s ⟨x, h1, h3⟩ => by
    subst h1
    refine EW.conseq (round m x h3) fun e s ⟨x', q1, q3⟩ => ?_
    cases e with
    | normal =>
      obtain ⟨m', hm, hI⟩ := q3
      exact ⟨m', hm, x', q1, hI⟩
    | exit id => exact ⟨x', q1, q3⟩
    | ret => exact ⟨x', q1, q3⟩
theorem EL.reg {os : List AOper} (h : OW P n k0 os x (Q .normal)) : EL P n k0 (.reg os none) x Q := by
  obtain ⟨x', h1, h3⟩ := h
  exact EW.reg (s' := x'.s) h1 ⟨x', rfl, h3⟩
theorem EL.draw {os : List AOper} {dep : List (List Nat)} (h : DW P n dep os x [] (Q .normal)) : EL P n k0 (.reg os (some dep)) x Q := by
  obtain ⟨x', h1, h4⟩ := h
  exact EW.draw (s' := x'.s) h1 ⟨x', rfl, h4⟩
/-- To know less of the slots. -/
theorem S3.le_slots {s s' : S3} (hσ : ∀ t, s'.σ t = s.σ t ∨ s'.σ t = .dead ∨ s.σ t = .v undef ∧ False) (hg : s'.g = s.g) (hk : s'.k = s.k) : s.Le k0 n s' := by
  intro E0 J base w0 a w _ hr
  obtain ⟨E, h1, h2, h3, h4, h5, h6⟩ := hr.ex
  refine ⟨⟨E, h1, h2, fun t => ?_, by rw [hg]; exact h4, by rw [hk]; exact h5, h6⟩, hr.size, hr.below, hr.gl⟩
  rcases hσ t with h | h | h
  · rw [h]; exact h3 t
  · rw [h]; exact .dead
  · exact h.2.elim
end
/-- The slots when a function begins. -/
def startT : Nat → List AV → List (Nat × AV)
  | _, [] => []
  | i, a :: r => (i, a) :: startT (i + 1) r
def start (as : List AV) : L3 := ⟨startT 0 as, []⟩
theorem startT_slot : ∀ (as : List AV) (i t : Nat), slot (startT i as) t = if i ≤ t then (as[t - i]?).getD .dead else .dead
  | [], i, t => by simp [startT, slot]
  | a :: r, i, t => by
    simp only [startT, slot]
    by_cases h : t = i
    · subst h
      rw [Nat.beq_refl]; simp
    · have hb : Nat.beq t i = false := by
        cases hb : Nat.beq t i with
        | false => rfl
        | true => exact absurd (Nat.eq_of_beq_eq_true hb) h
      rw [hb, cond_false, startT_slot r (i + 1) t]
      by_cases h1 : i ≤ t
      · rw [if_pos h1, if_pos (by omega), show t - i = (t - (i + 1)) + 1 by omega, List.getElem?_cons_succ]
      · rw [if_neg h1, if_neg (by omega)]
theorem start_le {n k0 : Nat} (as : List AV) (g : Nat → Option Bk) (k : Nat) : (⟨σ0 as, g, k⟩ : S3).Le k0 n ⟨slot (startT 0 as), g, k⟩ := by
  refine S3.le_slots (fun t => ?_) rfl rfl
  show slot (startT 0 as) t = σ0 as t ∨ _
  rw [startT_slot, if_pos (Nat.zero_le _), Nat.sub_zero]
  unfold σ0
  cases h : as[t]? with
  | none => exact .inr (.inl (by simp [startT_slot, h]))
  | some a => exact .inl rfl
end Go.Proofs.YtgepadjkegfokaaDoor
