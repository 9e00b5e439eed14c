/- Stamps in plain Lean: what the document says of them. No condition. -/
import Derived.Test.YtnfffbgnjobkfaaApi
namespace Go.Proofs.Ytnfffbgnjobkfaa
set_option linter.unusedSimpArgs false
set_option linter.unusedVariables false
namespace Stamp
def lessB (a b : Stamp) : Bool := decide (a.time < b.time ∨ (a.time = b.time ∧ a.who < b.who))
def cmpN (a b : Stamp) : Int := if a.time < b.time then -1 else if b.time < a.time then 1 else if a.who < b.who then -1 else if b.who < a.who then 1 else 0
def checkE (s : Stamp) : Int := if (0 ≤ s.time ∧ s.time ≤ 1000000) ∧ (0 ≤ s.who ∧ s.who ≤ 31) then 0 else 3
def mx (m s : Stamp) : Stamp := if lessB m s = true then s else m
def maxS (l : List Stamp) : Stamp := l.foldl mx ⟨0, 0⟩
def okL (l : List Stamp) : Prop := ∀ s, s ∈ l → s.checkE = 0
def enc (x : Stamp) : List Value := [I x.time, I x.who]
instance (l : List Stamp) : Decidable (okL l) := by unfold okL; infer_instance
def maxP (l : List Stamp) : Stamp × Int := if 64 < l.length then (⟨0, 0⟩, 2) else if okL l then (maxS l, 0) else (⟨0, 0⟩, 3)
def nextP (l : List Stamp) (who : Int) : Stamp × Int :=
  if (maxP l).2 = 0 then (if (0 ≤ who ∧ who ≤ 31) ∧ (maxP l).1.time ≠ 1000000 then (⟨(maxP l).1.time + 1, who⟩, 0) else (⟨0, 0⟩, 3)) else (⟨0, 0⟩, (maxP l).2)
theorem cmpN_neg (a b : Stamp) : decide (a.cmpN b < 0) = lessB a b := by
  unfold cmpN lessB
  (repeat' split) <;> simp <;> omega
theorem cmpN_pos (a b : Stamp) : decide (0 < a.cmpN b) = lessB b a := by
  unfold cmpN lessB
  (repeat' split) <;> simp <;> omega
theorem cmpN_bd (a b : Stamp) : -1 ≤ a.cmpN b ∧ a.cmpN b ≤ 1 := by
  unfold cmpN
  (repeat' split) <;> omega
theorem lessB_iff {a b : Stamp} : lessB a b = true ↔ (a.time < b.time ∨ (a.time = b.time ∧ a.who < b.who)) := by simp [lessB]
theorem check_3 {s : Stamp} (h : ¬ s.checkE = 0) : s.checkE = 3 := by
  unfold checkE at *
  split at h
  · simp at h
  · rename_i h1; rw [if_neg h1]
theorem check_0 {s : Stamp} : s.checkE = 0 ↔ (0 ≤ s.time ∧ s.time ≤ 1000000) ∧ (0 ≤ s.who ∧ s.who ≤ 31) := by
  unfold checkE; split
  · simp [*]
  · simp [*]
theorem okL_nil : okL [] := by simp [okL]
theorem okL_take {l : List Stamp} {k : Nat} (h : k < l.length) : okL (l.take (k + 1)) ↔ okL (l.take k) ∧ l[k].checkE = 0 := by
  rw [List.take_succ_eq_append_getElem h]
  simp only [okL, List.mem_append, List.mem_singleton, or_imp, forall_and, forall_eq]
theorem maxS_take {l : List Stamp} {k : Nat} (h : k < l.length) : maxS (l.take (k + 1)) = mx (maxS (l.take k)) l[k] := by
  rw [List.take_succ_eq_append_getElem h]
  simp only [maxS, List.foldl_append, List.foldl_cons, List.foldl_nil]
/-- It is above none of them. -/
theorem mx_max (m s t : Stamp) (h : lessB m t = false) : lessB (mx m s) t = false ∧ lessB (mx m s) m = false ∧ lessB (mx m s) s = false ∧ (mx m s = m ∨ mx m s = s) := by
  have h1 : ¬ (m.time < t.time ∨ (m.time = t.time ∧ m.who < t.who)) := by
    intro hh; rw [lessB_iff.2 hh] at h; simp at h
  by_cases hm : lessB m s = true
  · have hm2 := lessB_iff.1 hm
    simp only [mx, if_pos hm]
    refine ⟨decide_eq_false (by omega), decide_eq_false (by omega), decide_eq_false (by omega), by simp⟩
  · have hm2 : ¬ (m.time < s.time ∨ (m.time = s.time ∧ m.who < s.who)) := fun hh => hm (lessB_iff.2 hh)
    simp only [mx, if_neg hm]
    refine ⟨h, decide_eq_false (by omega), by simpa using hm, by simp⟩
theorem foldl_mx (l : List Stamp) (m : Stamp) : (l.foldl mx m = m ∨ l.foldl mx m ∈ l) ∧ lessB (l.foldl mx m) m = false ∧ ∀ s, s ∈ l → lessB (l.foldl mx m) s = false := by
  induction l generalizing m with
  | nil => exact ⟨.inl rfl, (show lessB m m = false from decide_eq_false (by omega)), by simp⟩
  | cons a l ih =>
    obtain ⟨h1, h2, h3⟩ := ih (mx m a)
    obtain ⟨k1, k2, k3, k4⟩ := mx_max m a m (decide_eq_false (by omega))
    have tr : ∀ x y z : Stamp, lessB x y = false → lessB y z = false → lessB x z = false := by
      intro x y z hx hy
      refine decide_eq_false ?_
      have hx := of_decide_eq_false hx
      have hy := of_decide_eq_false hy
      omega
    refine ⟨?_, tr _ _ _ h2 k2, fun s hs => ?_⟩
    · rcases h1 with h1 | h1
      · show (l.foldl mx (mx m a)) = m ∨ _
        rw [h1]
        rcases k4 with k4 | k4
        · exact .inl k4
        · right; rw [List.foldl_cons, h1, k4]; simp
      · right; simp only [List.foldl_cons, List.mem_cons]; exact .inr h1
    · rcases List.mem_cons.1 hs with rfl | hs
      · exact tr _ _ _ h2 k3
      · exact h3 s hs
theorem max_mem (l : List Stamp) : maxS l = ⟨0, 0⟩ ∨ maxS l ∈ l := (foldl_mx l _).1
theorem max_ge (l : List Stamp) {s : Stamp} (h : s ∈ l) : lessB (maxS l) s = false := (foldl_mx l _).2.2 s h
theorem max_ge0 (l : List Stamp) : lessB (maxS l) ⟨0, 0⟩ = false := (foldl_mx l _).2.1
theorem eq_of_less {a b : Stamp} (h1 : lessB a b = false) (h2 : lessB b a = false) : a = b := by
  have h1 := of_decide_eq_false h1
  have h2 := of_decide_eq_false h2
  ext <;> omega
/-- The maximum is the only one of them that none is above. -/
theorem max_uniq {l : List Stamp} {m : Stamp} (h1 : m = ⟨0, 0⟩ ∨ m ∈ l) (h2 : lessB m ⟨0, 0⟩ = false) (h3 : ∀ s, s ∈ l → lessB m s = false) : m = maxS l := by
  apply eq_of_less
  · rcases max_mem l with h | h
    · rw [h]; exact h2
    · exact h3 _ h
  · rcases h1 with h | h
    · rw [h]; exact max_ge0 l
    · exact max_ge l h
theorem maxS_cons (a : Stamp) (l : List Stamp) : maxS (a :: l) = mx (maxS l) a := by
  obtain ⟨k1, k2, k3, k4⟩ := mx_max (maxS l) a ⟨0, 0⟩ (max_ge0 l)
  symm
  refine max_uniq ?_ k1 fun s hs => ?_
  · rcases k4 with h | h
    · rw [h]
      rcases max_mem l with h2 | h2
      · exact .inl h2
      · exact .inr (List.mem_cons_of_mem _ h2)
    · rw [h]; exact .inr (List.mem_cons_self)
  · rcases List.mem_cons.1 hs with rfl | hs
    · exact k3
    · exact (mx_max (maxS l) a s (max_ge l hs)).1
theorem maxS_drop {l : List Stamp} {j : Nat} (h : j < l.length) : maxS (l.drop j) = mx (maxS (l.drop (j + 1))) l[j] := by
  rw [List.drop_eq_getElem_cons h, maxS_cons]
theorem max_ok {l : List Stamp} (h : okL l) : (maxS l).checkE = 0 := by
  rcases max_mem l with h1 | h1
  · rw [h1]; rfl
  · exact h _ h1
theorem max_in {l : List Stamp} (h : okL l) (h0 : l ≠ []) : maxS l ∈ l := by
  rcases max_mem l with h1 | h1
  · cases l with
    | nil => exact absurd rfl h0
    | cons a l =>
      have h2 := of_decide_eq_false (max_ge (a :: l) (List.mem_cons_self (a := a)))
      have h3 := check_0.1 (h a (List.mem_cons_self))
      rw [h1] at h2
      have : a = ⟨0, 0⟩ := by
        have e1 : (⟨0, 0⟩ : Stamp).time = 0 := rfl
        have e2 : (⟨0, 0⟩ : Stamp).who = 0 := rfl
        rw [e1, e2] at h2
        ext <;> simp <;> omega
      rw [h1, this]; exact List.mem_cons_self
  · exact h1
theorem max_append (a b : List Stamp) : maxS (a ++ b) = if lessB (maxS a) (maxS b) = true then maxS b else maxS a := by
  symm
  have hz := max_ge0 a
  have hy := max_ge0 b
  have tr : ∀ x y z : Stamp, lessB x y = false → lessB y z = false → lessB x z = false := by
    intro x y z hx hy
    refine decide_eq_false ?_
    have hx := of_decide_eq_false hx
    have hy := of_decide_eq_false hy
    omega
  split
  · rename_i h
    have h2 : lessB (maxS b) (maxS a) = false := decide_eq_false (by have := lessB_iff.1 h; omega)
    refine max_uniq ?_ hy fun s hs => ?_
    · rcases max_mem b with h1 | h1
      · exact .inl h1
      · exact .inr (List.mem_append_right _ h1)
    · rcases List.mem_append.1 hs with h1 | h1
      · exact tr _ _ _ h2 (max_ge a h1)
      · exact max_ge b h1
  · rename_i h
    have h2 : lessB (maxS a) (maxS b) = false := by simpa using h
    refine max_uniq ?_ hz fun s hs => ?_
    · rcases max_mem a with h1 | h1
      · exact .inl h1
      · exact .inr (List.mem_append_left _ h1)
    · rcases List.mem_append.1 hs with h1 | h1
      · exact max_ge a h1
      · exact tr _ _ _ h2 (max_ge b h1)
theorem maxP_bd (l : List Stamp) (h : (maxP l).2 = 0) : 0 ≤ (maxP l).1.time ∧ (maxP l).1.time ≤ 1000000 := by
  unfold maxP at *
  split at h
  · simp at h
  · split at h
    · rename_i h1 h2
      rw [if_neg h1, if_pos h2]
      exact (check_0.1 (max_ok h2)).1
    · simp at h
theorem maxP_cases (l : List Stamp) : (∃ e, (e != 0) = true ∧ maxP l = (⟨0, 0⟩, e)) ∨ (l.length ≤ 64 ∧ okL l ∧ maxP l = (maxS l, 0)) := by
  by_cases h : 64 < l.length
  · exact .inl ⟨2, rfl, by rw [maxP, if_pos h]⟩
  · by_cases h2 : okL l
    · exact .inr ⟨by omega, h2, by rw [maxP, if_neg h, if_pos h2]⟩
    · exact .inl ⟨3, rfl, by rw [maxP, if_neg h, if_neg h2]⟩
end Stamp
end Go.Proofs.Ytnfffbgnjobkfaa
