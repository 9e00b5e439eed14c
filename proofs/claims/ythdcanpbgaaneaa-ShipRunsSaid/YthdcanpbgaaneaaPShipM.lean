/- What the functions of package ship answer: steps. No condition. -/
import Derived.Test.YthdcanpbgaaneaaPShipA
set_option maxRecDepth 100000
set_option linter.unusedVariables false
set_option linter.unusedSimpArgs false
namespace Go.Proofs.Ythdcanpbgaaneaa
/-- What holds of a ship that is right. -/
structure Ship.Ok (s : Ship) : Prop where
  f1 : 1 ≤ s.first.length ∧ s.first.length ≤ 32
  f2 : s.second.length = s.first.length
  f3 : ∀ z, z ∈ s.first → z.size ≤ 64
  f4 : ∀ z, z ∈ s.second → z.size ≤ 64
  l1 : s.log.length ≤ 60 ∧ s.there.length ≤ 60 ∧ s.back.length ≤ 60
  l2 : ∀ r, r ∈ s.log → 0 ≤ r.block ∧ r.block < s.first.length ∧ r.data.size ≤ 64
  k : 0 ≤ s.known ∧ s.known ≤ s.applied ∧ s.known ≤ s.sent ∧ s.applied ≤ s.log.length ∧ s.sent ≤ s.log.length
  t : ∀ i, i ∈ s.there → 1 ≤ i ∧ i ≤ s.log.length
  b : ∀ i, i ∈ s.back → 0 ≤ i ∧ i ≤ s.applied
theorem Ship.recE_0 {n : Nat} : ∀ {l : List Record}, Ship.recE n l = 0 ↔ ∀ r, r ∈ l → 0 ≤ r.block ∧ r.block < n ∧ r.data.size ≤ 64
  | [] => by simp [Ship.recE]
  | r :: l => by
    simp only [Ship.recE, List.mem_cons, forall_eq_or_imp]
    by_cases h1 : wi r.block 0 ((n : Int) - 1) = true
    · rw [if_pos h1]
      rw [wi_iff] at h1
      by_cases h2 : r.data.size > 64
      · rw [if_pos h2]; simp; omega
      · rw [if_neg h2, Ship.recE_0]
        constructor
        · intro h; exact ⟨⟨h1.1, by omega, by omega⟩, h⟩
        · intro h; exact h.2
    · rw [if_neg h1]; rw [wi_iff] at h1; simp; omega
theorem any_wi {l : List Int} {a b : Int} : l.any (fun i => !wi i a b) = true ↔ ¬ ∀ i, i ∈ l → a ≤ i ∧ i ≤ b := by
  simp only [List.any_eq_true, Bool.not_eq_true', Classical.not_forall]
  constructor
  · rintro ⟨x, h1, h2⟩; exact ⟨x, h1, fun h => by rw [wi_iff.2 h] at h2; simp at h2⟩
  · rintro ⟨x, h1, h2⟩; exact ⟨x, h1, by cases h : wi x a b with | false => rfl | true => exact absurd (wi_iff.1 h) h2⟩
theorem any_lng {l : List ByteArray} : l.any (fun z => decide (z.size > 64)) = true ↔ ¬ ∀ z, z ∈ l → z.size ≤ 64 := by simp
theorem Ship.checkE_0 {s : Ship} : s.checkE = 0 ↔ s.Ok := by
  unfold Ship.checkE
  simp only [any_wi, any_lng]
  generalize hm : (if s.sent < s.applied then s.sent else s.applied) = m
  generalize hM : (if s.sent > s.applied then s.sent else s.applied) = M
  have hm' : (m = s.sent ∧ s.sent < s.applied) ∨ (m = s.applied ∧ ¬ s.sent < s.applied) := by
    split at hm
    · exact .inl ⟨hm.symm, by assumption⟩
    · exact .inr ⟨hm.symm, by assumption⟩
  have hM' : (M = s.sent ∧ s.sent > s.applied) ∨ (M = s.applied ∧ ¬ s.sent > s.applied) := by
    split at hM
    · exact .inl ⟨hM.symm, by assumption⟩
    · exact .inr ⟨hM.symm, by assumption⟩
  clear hm hM
  constructor
  · intro h
    by_cases h0 : wi s.first.length 1 32 = true
    · rw [if_pos h0] at h; rw [wi_iff] at h0
      by_cases h1 : s.second.length = s.first.length
      · rw [if_pos h1] at h
        split at h
        · simp at h
        · rename_i h2
          split at h
          · rename_i h3
            split at h
            · simp at h
            · rename_i h4
              split at h
              · simp at h
              · rename_i h5
                have a1 : ∀ z, z ∈ s.first → z.size ≤ 64 := Classical.not_not.1 fun hh => h2 (.inl hh)
                have a2 : ∀ z, z ∈ s.second → z.size ≤ 64 := Classical.not_not.1 fun hh => h2 (.inr (.inl hh))
                have b1 : ∀ i, i ∈ s.there → 1 ≤ i ∧ i ≤ (s.log.length : Int) := Classical.not_not.1 fun hh => h5 (.inl hh)
                have b2 : ∀ i, i ∈ s.back → 0 ≤ i ∧ i ≤ s.applied := Classical.not_not.1 fun hh => h5 (.inr hh)
                have h6 : wi s.known 0 m = true := Classical.not_not.1 fun hh => h4 (.inl hh)
                have h7 : ¬ M > s.log.length := fun hh => h4 (.inr hh)
                have h8 : ¬ s.log.length > 60 ∧ ¬ s.there.length > 60 ∧ ¬ s.back.length > 60 := ⟨fun hh => h2 (.inr (.inr (.inl hh))), fun hh => h2 (.inr (.inr (.inr (.inl hh)))), fun hh => h2 (.inr (.inr (.inr (.inr hh))))⟩
                rw [wi_iff] at h6
                refine ⟨by omega, h1, a1, a2, by omega, Ship.recE_0.1 h3, ?_, b1, b2⟩
                clear h h2 h4 h5 b1 b2 a1 a2
                omega
          · rename_i h3; exact absurd h h3
      · rw [if_neg h1] at h; simp at h
    · rw [if_neg h0] at h; simp at h
  · intro h
    obtain ⟨⟨a1, a2⟩, b, c1, c2, ⟨d1, d2, d3⟩, e, ⟨k1, k2, k3, k4, k5⟩, t, bb⟩ := h
    rw [if_pos (wi_iff.2 ⟨by omega, by omega⟩), if_pos b, if_neg, if_pos (Ship.recE_0.2 e), if_neg, if_neg]
    · rintro (h | h)
      · exact h t
      · exact h bb
    · rw [wi_iff]; omega
    · rintro (h | h | h | h | h)
      · exact h c1
      · exact h c2
      · omega
      · omega
      · omega
/-- What a step comes to. -/
def Ship.writeP (s : Ship) (n : Int) (d : ByteArray) : Ship × Int :=
  if wi n 0 ((s.first.length : Int) - 1) = true then (if d.size > 64 ∨ s.log.length = 60 then (Ship.zero, 2) else ({ s with first := s.first.set n.toNat d, log := s.log ++ [⟨n, d⟩] }, 0)) else (Ship.zero, 3)
def Ship.sendP (s : Ship) : Ship × Int :=
  if s.sent = s.log.length then (Ship.zero, 5) else if s.there.length = 60 then (Ship.zero, 2) else ({ s with sent := s.sent + 1, there := s.there ++ [s.sent + 1] }, 0)
def Ship.passP (s : Ship) (n : Int) : Ship × Int :=
  if wi n 0 ((s.there.length : Int) - 1) = true then (if s.back.length = 60 then (Ship.zero, 2) else
    match s.there[n.toNat]?, s.log[s.applied.toNat]? with
    | some x, some r => if x = s.applied + 1 then ({ s with there := s.there.eraseIdx n.toNat, second := s.second.set r.block.toNat r.data, applied := s.applied + 1, back := s.back ++ [s.applied + 1] }, 0) else ({ s with there := s.there.eraseIdx n.toNat, back := s.back ++ [s.applied] }, 0)
    | _, _ => ({ s with there := s.there.eraseIdx n.toNat, back := s.back ++ [s.applied] }, 0)) else (Ship.zero, 3)
def Ship.loseP (s : Ship) (n : Int) : Ship × Int :=
  if wi n 0 ((s.there.length : Int) - 1) = true then ({ s with there := s.there.eraseIdx n.toNat }, 0) else (Ship.zero, 3)
def Ship.hearP (s : Ship) (n : Int) : Ship × Int :=
  if wi n 0 ((s.back.length : Int) - 1) = true then
    match s.back[n.toNat]? with
    | some x => ({ s with back := s.back.eraseIdx n.toNat, known := max s.known x, sent := max s.sent (max s.known x) }, 0)
    | none => (Ship.zero, 3) else (Ship.zero, 3)
def Ship.dropP (s : Ship) (n : Int) : Ship × Int :=
  if wi n 0 ((s.back.length : Int) - 1) = true then ({ s with back := s.back.eraseIdx n.toNat }, 0) else (Ship.zero, 3)
def Ship.badForm (a : Act) : Prop := (a.kind ≠ 1 ∧ a.data ≠ ⟨#[]⟩) ∨ (a.n ≠ 0 ∧ (a.kind = 2 ∨ 7 ≤ a.kind))
instance (a : Act) : Decidable (Ship.badForm a) := by unfold Ship.badForm; exact inferInstance
def Ship.stepP (s : Ship) (a : Act) : Ship × Int :=
  if ¬ (1 ≤ a.kind ∧ a.kind ≤ 8) then (Ship.zero, 7)
  else if Ship.badForm a then (Ship.zero, 1)
  else if a.kind = 1 then s.writeP a.n a.data
  else if a.kind = 2 then s.sendP
  else if a.kind = 3 then s.passP a.n
  else if a.kind = 4 then s.loseP a.n
  else if a.kind = 5 then s.hearP a.n
  else if a.kind = 6 then s.dropP a.n
  else if a.kind = 7 then ({ s with sent := s.known }, 0)
  else (⟨s.second, s.second, [], 0, 0, 0, [], []⟩, 0)
theorem Ship.step_1 {s : Ship} {n : Int} {d : ByteArray} : s.stepP ⟨1, n, d⟩ = s.writeP n d := by simp [Ship.stepP, Ship.badForm]
theorem Ship.step_2 {s : Ship} {n : Int} {d : ByteArray} : s.stepP ⟨2, n, d⟩ = if d = ⟨#[]⟩ ∧ n = 0 then s.sendP else (Ship.zero, 1) := by
  by_cases h1 : d = ⟨#[]⟩ <;> by_cases h2 : n = 0 <;> simp [Ship.stepP, Ship.badForm, h1, h2]
theorem Ship.step_3 {s : Ship} {n : Int} {d : ByteArray} : s.stepP ⟨3, n, d⟩ = if d = ⟨#[]⟩ then s.passP n else (Ship.zero, 1) := by
  by_cases h1 : d = ⟨#[]⟩ <;> simp [Ship.stepP, Ship.badForm, h1]
theorem Ship.step_4 {s : Ship} {n : Int} {d : ByteArray} : s.stepP ⟨4, n, d⟩ = if d = ⟨#[]⟩ then s.loseP n else (Ship.zero, 1) := by
  by_cases h1 : d = ⟨#[]⟩ <;> simp [Ship.stepP, Ship.badForm, h1]
theorem Ship.step_5 {s : Ship} {n : Int} {d : ByteArray} : s.stepP ⟨5, n, d⟩ = if d = ⟨#[]⟩ then s.hearP n else (Ship.zero, 1) := by
  by_cases h1 : d = ⟨#[]⟩ <;> simp [Ship.stepP, Ship.badForm, h1]
theorem Ship.step_6 {s : Ship} {n : Int} {d : ByteArray} : s.stepP ⟨6, n, d⟩ = if d = ⟨#[]⟩ then s.dropP n else (Ship.zero, 1) := by
  by_cases h1 : d = ⟨#[]⟩ <;> simp [Ship.stepP, Ship.badForm, h1]
theorem Ship.step_7 {s : Ship} {n : Int} {d : ByteArray} : s.stepP ⟨7, n, d⟩ = if d = ⟨#[]⟩ ∧ n = 0 then ({ s with sent := s.known }, 0) else (Ship.zero, 1) := by
  by_cases h1 : d = ⟨#[]⟩ <;> by_cases h2 : n = 0 <;> simp [Ship.stepP, Ship.badForm, h1, h2]
theorem Ship.step_8 {s : Ship} {n : Int} {d : ByteArray} : s.stepP ⟨8, n, d⟩ = if d = ⟨#[]⟩ ∧ n = 0 then (⟨s.second, s.second, [], 0, 0, 0, [], []⟩, 0) else (Ship.zero, 1) := by
  by_cases h1 : d = ⟨#[]⟩ <;> by_cases h2 : n = 0 <;> simp [Ship.stepP, Ship.badForm, h1, h2]
end Go.Proofs.Ythdcanpbgaaneaa
