/- Plain laws of what a seat serves. No condition. -/
import Derived.Test.YtejilglnpdjepaaDoorPSeatE
set_option maxRecDepth 100000
set_option linter.unusedVariables false
set_option linter.unusedSimpArgs false
namespace Go.Proofs.YtejilglnpdjepaaDoor
theorem serve_cases (s : Seat) (v : Vote) : (s.checkE ≠ 0 ∧ s.serveP v = (Seat.zero, [], s.checkE)) ∨ (s.checkE = 0 ∧ v.checkE ≠ 0 ∧ s.serveP v = (Seat.zero, [], v.checkE)) ∨
    (s.checkE = 0 ∧ v.checkE = 0 ∧ ((v.kind = 1 ∧ s.promised.lt v.copy.at_ ∧ s.serveP v = (⟨v.copy.at_, s.kept⟩, [⟨2, v.bid, v.node, s.kept⟩], 0)) ∨
      (v.kind = 3 ∧ ¬ v.copy.at_.lt s.promised ∧ s.serveP v = (⟨v.copy.at_, v.copy⟩, [⟨4, v.bid, v.node, ⟨v.copy.at_, ⟨#[]⟩⟩⟩], 0)) ∨
      (¬ (v.kind = 1 ∧ s.promised.lt v.copy.at_) ∧ ¬ (v.kind = 3 ∧ ¬ v.copy.at_.lt s.promised) ∧ s.serveP v = (s, [], 0)))) := by
  unfold Seat.serveP
  by_cases h1 : s.checkE = 0
  · by_cases h2 : v.checkE = 0
    · by_cases h3 : v.kind = 1 ∧ s.promised.lt v.copy.at_
      · simp [h1, h2, h3]
      · by_cases h4 : v.kind = 3 ∧ ¬ v.copy.at_.lt s.promised
        · simp [h1, h2, h3, h4]
        · exact .inr (.inr ⟨h1, h2, .inr (.inr ⟨h3, h4, by rw [if_neg (by simp [h1]), if_neg (by simp [h2]), if_neg h3, if_neg h4]⟩)⟩)
    · simp [h1, h2]
  · simp [h1]
theorem serve_promise {s : Seat} {v other : Vote} (h : (s.serveP v).2.2 = 0) {a : Vote} (ha : (s.serveP v).2.1[0]? = some a) (hk : a.kind = 2) (hl : other.copy.at_.lt v.copy.at_)
    (ho : ((s.serveP v).1.serveP other).2.2 = 0) : (s.serveP v).1.serveP other = ((s.serveP v).1, [], 0) := by
  rcases serve_cases s v with ⟨h1, e⟩ | ⟨h1, h2, e⟩ | ⟨h1, h2, ⟨_, b, e⟩ | ⟨_, b, e⟩ | ⟨_, b, e⟩⟩ <;> rw [e] at h ha ho ⊢
  · simp at ha
  · simp at ha
  · rcases serve_cases (⟨v.copy.at_, s.kept⟩ : Seat) other with ⟨k1, k⟩ | ⟨k1, k2, k⟩ | ⟨k1, k2, ⟨_, c, k⟩ | ⟨_, c, k⟩ | ⟨_, c, k⟩⟩
    · rw [k] at ho; exact absurd ho k1
    · rw [k] at ho; exact absurd ho k2
    · exfalso; unfold Stamp.lt at *; dsimp only at *; omega
    · exact absurd hl c
    · exact k
  · simp at ha; subst ha; simp at hk
  · simp at ha
end Go.Proofs.YtejilglnpdjepaaDoor
