/- What a ship keeps. No condition. -/
import Derived.Test.YthdcanpbgaaneaaPShipC
set_option maxRecDepth 100000
set_option linter.unusedVariables false
set_option linter.unusedSimpArgs false
namespace Go.Proofs.Ythdcanpbgaaneaa
theorem mem_set {α : Type} {l : List α} {n : Nat} {a z : α} (h : z ∈ l.set n a) : z ∈ l ∨ z = a := List.mem_or_eq_of_mem_set h
theorem Ship.write_ok {s : Ship} (ok : s.Ok) {n : Int} {d : ByteArray} (h : (s.writeP n d).2 = 0) : (s.writeP n d).1.Ok := by
  obtain ⟨⟨a1, a2⟩, b1, c1, c2, ⟨d1, d2, d3⟩, ee, ⟨k1, k2, k3, k4, k5⟩, tt, bb⟩ := ok
  unfold Ship.writeP at h ⊢
  split
  · rename_i h1
    rw [if_pos h1] at h
    rw [wi_iff] at h1
    split
    · rename_i h2; rw [if_pos h2] at h; simp at h
    · rename_i h2
      refine ⟨by simpa using ⟨a1, a2⟩, by simpa using b1, fun z hz => ?_, c2, by simp; omega, fun r hr => ?_, by simp; omega, fun i hi => ?_, bb⟩
      · rcases mem_set hz with hz | rfl
        · exact c1 z hz
        · omega
      · simp only [List.mem_append, List.mem_singleton] at hr
        rcases hr with hr | rfl
        · have := ee r hr; simp; exact this
        · simp; omega
      · have := tt i hi; simp; omega
  · rename_i h1; rw [if_neg h1] at h; simp at h
theorem Ship.send_ok {s : Ship} (ok : s.Ok) (h : s.sendP.2 = 0) : s.sendP.1.Ok := by
  obtain ⟨⟨a1, a2⟩, b1, c1, c2, ⟨d1, d2, d3⟩, ee, ⟨k1, k2, k3, k4, k5⟩, tt, bb⟩ := ok
  unfold Ship.sendP at h ⊢
  split
  · rename_i h1; rw [if_pos h1] at h; simp at h
  · rename_i h1
    rw [if_neg h1] at h
    split
    · rename_i h2; rw [if_pos h2] at h; simp at h
    · rename_i h2
      refine ⟨⟨a1, a2⟩, b1, c1, c2, by simp; omega, ee, by simp; omega, fun i hi => ?_, bb⟩
      simp only [List.mem_append, List.mem_singleton] at hi
      rcases hi with hi | rfl
      · exact tt i hi
      · simp; omega
theorem Ship.lose_ok {s : Ship} (ok : s.Ok) {n : Int} (h : (s.loseP n).2 = 0) : (s.loseP n).1.Ok := by
  obtain ⟨⟨a1, a2⟩, b1, c1, c2, ⟨d1, d2, d3⟩, ee, ⟨k1, k2, k3, k4, k5⟩, tt, bb⟩ := ok
  unfold Ship.loseP at h ⊢
  split
  · have := List.length_eraseIdx_le s.there n.toNat
    exact ⟨⟨a1, a2⟩, b1, c1, c2, by simp; omega, ee, ⟨k1, k2, k3, k4, k5⟩, fun i hi => tt i (List.mem_of_mem_eraseIdx hi), bb⟩
  · rename_i h1; rw [if_neg h1] at h; simp at h
theorem Ship.drop_ok {s : Ship} (ok : s.Ok) {n : Int} (h : (s.dropP n).2 = 0) : (s.dropP n).1.Ok := by
  obtain ⟨⟨a1, a2⟩, b1, c1, c2, ⟨d1, d2, d3⟩, ee, ⟨k1, k2, k3, k4, k5⟩, tt, bb⟩ := ok
  unfold Ship.dropP at h ⊢
  split
  · have := List.length_eraseIdx_le s.back n.toNat
    exact ⟨⟨a1, a2⟩, b1, c1, c2, by simp; omega, ee, ⟨k1, k2, k3, k4, k5⟩, tt, fun i hi => bb i (List.mem_of_mem_eraseIdx hi)⟩
  · rename_i h1; rw [if_neg h1] at h; simp at h
theorem Ship.hear_ok {s : Ship} (ok : s.Ok) {n : Int} (h : (s.hearP n).2 = 0) : (s.hearP n).1.Ok := by
  obtain ⟨⟨a1, a2⟩, b1, c1, c2, ⟨d1, d2, d3⟩, ee, ⟨k1, k2, k3, k4, k5⟩, tt, bb⟩ := ok
  unfold Ship.hearP at h ⊢
  split
  · rename_i h1
    rw [if_pos h1] at h
    split
    · rename_i x hx
      have := List.length_eraseIdx_le s.back n.toNat
      have hb := bb x (List.mem_of_getElem? hx)
      exact ⟨⟨a1, a2⟩, b1, c1, c2, by simp; omega, ee, by simp; omega, tt, fun i hi => bb i (List.mem_of_mem_eraseIdx hi)⟩
    · rename_i hx; rw [hx] at h; simp at h
  · rename_i h1; rw [if_neg h1] at h; simp at h
/-- The ways a record passes. -/
theorem Ship.pass_cases {s : Ship} {n : Int} : ((s.passP n).2 ≠ 0 ∧ (s.passP n).1 = Ship.zero) ∨ (0 ≤ n ∧ n < s.there.length ∧ s.back.length ≠ 60 ∧
    ((∃ r, s.there[n.toNat]? = some (s.applied + 1) ∧ s.log[s.applied.toNat]? = some r ∧ s.passP n = ({ s with there := s.there.eraseIdx n.toNat, second := s.second.set r.block.toNat r.data, applied := s.applied + 1, back := s.back ++ [s.applied + 1] }, 0)) ∨
      ((s.there[n.toNat]? ≠ some (s.applied + 1) ∨ s.log[s.applied.toNat]? = none) ∧ s.passP n = ({ s with there := s.there.eraseIdx n.toNat, back := s.back ++ [s.applied] }, 0)))) := by
  by_cases h1 : wi n 0 ((s.there.length : Int) - 1) = true
  · by_cases h2 : s.back.length = 60
    · left; unfold Ship.passP; rw [if_pos h1, if_pos h2]; simp
    · right
      have h1' := wi_iff.1 h1
      refine ⟨by omega, by omega, h2, ?_⟩
      unfold Ship.passP
      rw [if_pos h1, if_neg h2]
      cases hx : s.there[n.toNat]? with
      | none => right; simp
      | some x =>
        cases hr : s.log[s.applied.toNat]? with
        | none => right; simp
        | some r =>
          by_cases hxa : x = s.applied + 1
          · left; exact ⟨r, by rw [hxa], rfl, by simp [hxa]⟩
          · right; exact ⟨.inl (by simpa using hxa), by simp [hxa]⟩
  · left; unfold Ship.passP; rw [if_neg h1]; simp
theorem Ship.pass_ok {s : Ship} (ok : s.Ok) {n : Int} (h : (s.passP n).2 = 0) : (s.passP n).1.Ok := by
  obtain ⟨⟨a1, a2⟩, b1, c1, c2, ⟨d1, d2, d3⟩, ee, ⟨k1, k2, k3, k4, k5⟩, tt, bb⟩ := ok
  have hl := List.length_eraseIdx_le s.there n.toNat
  have ht : ∀ i, i ∈ s.there.eraseIdx n.toNat → 1 ≤ i ∧ i ≤ (s.log.length : Int) := fun i hi => tt i (List.mem_of_mem_eraseIdx hi)
  rcases Ship.pass_cases (s := s) (n := n) with ⟨h1, _⟩ | ⟨_, _, h60, ⟨r, hx, hr, e⟩ | ⟨_, e⟩⟩
  · exact absurd h h1
  · rw [e]
    have hb := ee r (List.mem_of_getElem? hr)
    have hal := (List.getElem?_eq_some_iff.1 hr).1
    refine ⟨⟨a1, a2⟩, by simpa using b1, c1, fun z hz => ?_, by simp; omega, ee, by simp; omega, ht, fun i hi => ?_⟩
    · rcases mem_set hz with hz | rfl
      · exact c2 z hz
      · exact hb.2.2
    · simp only [List.mem_append, List.mem_singleton] at hi
      rcases hi with hi | rfl
      · have := bb i hi; simp; omega
      · simp; omega
  · rw [e]
    refine ⟨⟨a1, a2⟩, b1, c1, c2, by simp; omega, ee, ⟨k1, k2, k3, k4, k5⟩, ht, fun i hi => ?_⟩
    simp only [List.mem_append, List.mem_singleton] at hi
    rcases hi with hi | rfl
    · exact bb i hi
    · simp; omega
/-- What a step that is done comes to. -/
theorem Ship.step_cases {s : Ship} {a : Act} (h : (s.stepP a).2 = 0) :
    (a.kind = 1 ∧ s.stepP a = s.writeP a.n a.data) ∨ (a.kind = 2 ∧ s.stepP a = s.sendP) ∨ (a.kind = 3 ∧ s.stepP a = s.passP a.n) ∨ (a.kind = 4 ∧ s.stepP a = s.loseP a.n) ∨ (a.kind = 5 ∧ s.stepP a = s.hearP a.n) ∨ (a.kind = 6 ∧ s.stepP a = s.dropP a.n) ∨ (a.kind = 7 ∧ s.stepP a = ({ s with sent := s.known }, 0)) ∨ (a.kind = 8 ∧ s.stepP a = (⟨s.second, s.second, [], 0, 0, 0, [], []⟩, 0)) := by
  by_cases h1 : 1 ≤ a.kind ∧ a.kind ≤ 8
  · by_cases h2 : Ship.badForm a
    · exfalso; unfold Ship.stepP at h; rw [if_neg (by omega), if_pos h2] at h; simp at h
    · have : a.kind = 1 ∨ a.kind = 2 ∨ a.kind = 3 ∨ a.kind = 4 ∨ a.kind = 5 ∨ a.kind = 6 ∨ a.kind = 7 ∨ a.kind = 8 := by omega
      have e : ∀ q, ¬ ¬ (1 ≤ a.kind ∧ a.kind ≤ 8) → (q = s.stepP a → q = if a.kind = 1 then s.writeP a.n a.data
  else if a.kind = 2 then s.sendP
  else if a.kind = 3 then s.passP a.n
  else if a.kind = 4 then s.loseP a.n
  else if a.kind = 5 then s.hearP a.n
  else if a.kind = 6 then s.dropP a.n
  else if a.kind = 7 then ({ s with sent := s.known }, 0)
  else (⟨s.second, s.second, [], 0, 0, 0, [], []⟩, 0)) := fun q hq hs => by rw [hs]; unfold Ship.stepP; rw [if_neg hq, if_neg h2]
      have e := e _ (fun hh => hh h1) rfl
      rcases this with k | k | k | k | k | k | k | k <;> rw [k] at e <;> simp at e <;> simp [k, e]
  · exfalso; unfold Ship.stepP at h; rw [if_pos h1] at h; simp at h
theorem Ship.step_ok {s : Ship} (ok : s.Ok) {a : Act} (h : (s.stepP a).2 = 0) : (s.stepP a).1.Ok := by
  rcases Ship.step_cases h with ⟨_, e⟩ | ⟨_, e⟩ | ⟨_, e⟩ | ⟨_, e⟩ | ⟨_, e⟩ | ⟨_, e⟩ | ⟨_, e⟩ | ⟨_, e⟩ <;> rw [e] at h ⊢
  · exact Ship.write_ok ok h
  · exact Ship.send_ok ok h
  · exact Ship.pass_ok ok h
  · exact Ship.lose_ok ok h
  · exact Ship.hear_ok ok h
  · exact Ship.drop_ok ok h
  · obtain ⟨a1, b1, c1, c2, d, ee, ⟨k1, k2, k3, k4, k5⟩, tt, bb⟩ := ok
    exact ⟨a1, b1, c1, c2, d, ee, by simp; omega, tt, bb⟩
  · obtain ⟨⟨a1, a2⟩, b1, c1, c2, d, ee, ⟨k1, k2, k3, k4, k5⟩, tt, bb⟩ := ok
    exact ⟨by simp; omega, rfl, c2, c2, by simp, by simp, by simp, by simp, by simp⟩
theorem Ship.run_ok : ∀ (l : List Act) {s : Ship} (n : Int), s.Ok → (s.runGo l n).1.Ok
  | [], s, n, ok => ok
  | a :: l, s, n, ok => by
    unfold Ship.runGo
    split
    · exact Ship.run_ok l _ (Ship.step_ok ok ‹_›)
    · exact Ship.run_ok l _ ok
theorem Ship.write_z {s : Ship} {n : Int} {d : ByteArray} (h : (s.writeP n d).2 ≠ 0) : (s.writeP n d).1 = Ship.zero := by
  revert h; unfold Ship.writeP; (repeat' split) <;> simp
theorem Ship.send_z {s : Ship} (h : s.sendP.2 ≠ 0) : s.sendP.1 = Ship.zero := by
  revert h; unfold Ship.sendP; (repeat' split) <;> simp
theorem Ship.lose_z {s : Ship} {n : Int} (h : (s.loseP n).2 ≠ 0) : (s.loseP n).1 = Ship.zero := by
  revert h; unfold Ship.loseP; (repeat' split) <;> simp
theorem Ship.drop_z {s : Ship} {n : Int} (h : (s.dropP n).2 ≠ 0) : (s.dropP n).1 = Ship.zero := by
  revert h; unfold Ship.dropP; (repeat' split) <;> simp
theorem Ship.hear_z {s : Ship} {n : Int} (h : (s.hearP n).2 ≠ 0) : (s.hearP n).1 = Ship.zero := by
  revert h; unfold Ship.hearP; (repeat' split) <;> simp
theorem Ship.pass_z {s : Ship} {n : Int} (h : (s.passP n).2 ≠ 0) : (s.passP n).1 = Ship.zero := by
  rcases Ship.pass_cases (s := s) (n := n) with ⟨_, h3⟩ | ⟨_, _, _, ⟨r, _, _, e⟩ | ⟨_, e⟩⟩
  · exact h3
  · rw [e] at h; simp at h
  · rw [e] at h; simp at h
/-- All of it is of a size. -/
theorem Ship.Ok.small {s : Ship} (ok : s.Ok) : s.first.length ≤ 32 ∧ s.second.length ≤ 32 ∧ s.log.length ≤ 60 ∧ s.there.length ≤ 60 ∧ s.back.length ≤ 60 := by
  have := ok.f1; have := ok.f2; have := ok.l1; omega
theorem Ship.zero_small : Ship.zero.first.length ≤ 32 ∧ Ship.zero.second.length ≤ 32 ∧ Ship.zero.log.length ≤ 60 ∧ Ship.zero.there.length ≤ 60 ∧ Ship.zero.back.length ≤ 60 := by simp [Ship.zero]
theorem Ship.step_small {s : Ship} (ok : s.Ok) (a : Act) : (s.stepP a).2 = 0 ∧ (s.stepP a).1.Ok ∨ (s.stepP a).2 ≠ 0 ∧ (s.stepP a).1 = Ship.zero := by
  by_cases h : (s.stepP a).2 = 0
  · exact .inl ⟨h, Ship.step_ok ok h⟩
  · refine .inr ⟨h, ?_⟩
    unfold Ship.stepP at h ⊢
    split
    · rfl
    · rename_i h1; rw [if_neg h1] at h
      split
      · rfl
      · rename_i h2; rw [if_neg h2] at h
        revert h
        split
        · exact Ship.write_z
        split
        · exact Ship.send_z
        split
        · exact Ship.pass_z
        split
        · exact Ship.lose_z
        split
        · exact Ship.hear_z
        split
        · exact Ship.drop_z
        split <;> simp
theorem Ship.do_small (s : Ship) (a : Act) : (s.doP a).2 = 0 ∧ s.Ok ∧ (s.doP a).1.Ok ∨ (s.doP a).2 ≠ 0 ∧ (s.doP a).1 = Ship.zero := by
  by_cases h : s.checkE = 0
  · rw [Ship.doP_0 h]
    have ok := Ship.checkE_0.1 h
    rcases Ship.step_small ok a with ⟨h1, h2⟩ | h1
    · exact .inl ⟨h1, ok, h2⟩
    · exact .inr h1
  · rw [Ship.doP_n h]; exact .inr ⟨h, rfl⟩
theorem Ship.do_len (s : Ship) (a : Act) : (s.doP a).1.first.length ≤ 32 ∧ (s.doP a).1.second.length ≤ 32 ∧ (s.doP a).1.log.length ≤ 60 ∧ (s.doP a).1.there.length ≤ 60 ∧ (s.doP a).1.back.length ≤ 60 := by
  rcases Ship.do_small s a with ⟨_, _, h⟩ | ⟨_, h⟩
  · exact h.small
  · rw [h]; exact Ship.zero_small
theorem Ship.new_len (n : Int) : (Ship.newP n).1.first.length ≤ 32 ∧ (Ship.newP n).1.second.length ≤ 32 ∧ (Ship.newP n).1.log.length ≤ 60 ∧ (Ship.newP n).1.there.length ≤ 60 ∧ (Ship.newP n).1.back.length ≤ 60 := by
  unfold Ship.newP
  split
  · rename_i h1; rw [wi_iff] at h1; simp; omega
  · exact Ship.zero_small
end Go.Proofs.Ythdcanpbgaaneaa
