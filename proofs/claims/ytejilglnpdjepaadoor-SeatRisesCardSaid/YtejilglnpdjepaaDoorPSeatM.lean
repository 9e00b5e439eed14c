/- Plain laws of what a seat serves. No condition. -/
import Derived.Test.YtejilglnpdjepaaDoorPSeatE
set_option maxRecDepth 100000
set_option linter.unusedVariables false
set_option linter.unusedSimpArgs false
namespace Go.Proofs.YtejilglnpdjepaaDoor
theorem serve_cases (s : Seat) (v : Vote) : (s.checkE ≠ 0 ∧ s.serveP v = (Seat.zero, [], s.checkE)) ∨ (s.checkE = 0 ∧ v.checkE ≠ 0 ∧ s.serveP v = (Seat.zero, [], v.checkE)) ∨
    (s.checkE = 0 ∧ v.checkE = 0 ∧ ((v.kind = 1 ∧ s.promised.lt v.copy.at_ ∧ s.serveP v = (⟨v.copy.at_, s.kept⟩, [⟨2, v.bid, v.node, s.kept⟩], 0)) ∨
      (v.kind = 3 ∧ ¬ v.copy.at_.lt s.promised ∧ s.serveP v = (⟨v.copy.at_, v.copy⟩, [⟨4, v.bid, v.node, ⟨v.copy.at_, ⟨#[]⟩⟩⟩], 0)) ∨
      (¬ (v.kind = 1 ∧ s.promised.lt v.copy.at_) ∧ ¬ (v.kind = 3 ∧ ¬ v.copy.at_.lt s.promised) ∧ s.serveP v = (s, [], 0)))) := by
  unfold Seat.serveP
  by_cases h1 : s.checkE = 0
  · by_cases h2 : v.checkE = 0
    · by_cases h3 : v.kind = 1 ∧ s.promised.lt v.copy.at_
      · simp [h1, h2, h3]
      · by_cases h4 : v.kind = 3 ∧ ¬ v.copy.at_.lt s.promised
        · simp [h1, h2, h3, h4]
        · exact .inr (.inr ⟨h1, h2, .inr (.inr ⟨h3, h4, by rw [if_neg (by simp [h1]), if_neg (by simp [h2]), if_neg h3, if_neg h4]⟩)⟩)
    · simp [h1, h2]
  · simp [h1]
theorem seat_ok {s : Seat} : s.checkE = 0 ↔ s.promised.okS ∧ s.kept.at_.okS ∧ s.kept.data.size ≤ 64 ∧ ¬ s.promised.lt s.kept.at_ := by
  unfold Seat.checkE Stamp.checkE Copy.checkE
  repeat' split
  all_goals simp_all
  all_goals omega
theorem vote_ok {v : Vote} (h : v.checkE = 0) : v.copy.at_.okS ∧ v.copy.data.size ≤ 64 := by
  unfold Vote.checkE Copy.checkE at h
  repeat' split at h
  all_goals simp_all
theorem serve_rises {s : Seat} {v : Vote} (h : (s.serveP v).2.2 = 0) : ¬ (s.serveP v).1.promised.lt s.promised ∧ ¬ (s.serveP v).1.kept.at_.lt s.kept.at_ ∧ (s.serveP v).1.checkE = 0 ∧
    ((s.serveP v).1.kept = s.kept ∨ (s.serveP v).1.kept = v.copy ∧ v.kind = 3 ∧ ¬ v.copy.at_.lt s.promised) := by
  rcases serve_cases s v with ⟨h1, e⟩ | ⟨h1, h2, e⟩ | ⟨h1, h2, h3⟩
  · rw [e] at h; exact absurd h h1
  · rw [e] at h; exact absurd h h2
  · obtain ⟨q1, q2, q3, q4⟩ := seat_ok.1 h1
    obtain ⟨v1, v2⟩ := vote_ok h2
    rcases h3 with ⟨a, b, e⟩ | ⟨a, b, e⟩ | ⟨a, b, e⟩
    · rw [e]; refine ⟨?_, ?_, seat_ok.2 ⟨v1, q2, q3, ?_⟩, .inl rfl⟩ <;> (unfold Stamp.lt at *; dsimp only at *; omega)
    · rw [e]; refine ⟨b, ?_, seat_ok.2 ⟨v1, v1, v2, ?_⟩, .inr ⟨rfl, a, b⟩⟩ <;> (unfold Stamp.lt at *; dsimp only at *; omega)
    · rw [e]; refine ⟨?_, ?_, h1, .inl rfl⟩ <;> (unfold Stamp.lt at *; dsimp only at *; omega)
theorem serve_bad {s : Seat} {v : Vote} (h : (s.serveP v).2.2 ≠ 0) : (s.serveP v).1 = Seat.zero ∧ (s.serveP v).2.1 = [] := by
  rcases serve_cases s v with ⟨h1, e⟩ | ⟨h1, h2, e⟩ | ⟨h1, h2, ⟨a, b, e⟩ | ⟨a, b, e⟩ | ⟨a, b, e⟩⟩ <;> rw [e] at h ⊢ <;> first | exact ⟨rfl, rfl⟩ | exact absurd rfl h
end Go.Proofs.YtejilglnpdjepaaDoor
