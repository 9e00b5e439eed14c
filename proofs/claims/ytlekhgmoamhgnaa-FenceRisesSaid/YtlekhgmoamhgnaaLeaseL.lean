/- Plain laws of leases: what Take and Give come to. No condition. -/
import Derived.Test.YtlekhgmoamhgnaaLeaseM
namespace Go.Proofs.Ytlekhgmoamhgnaa
set_option linter.unusedSimpArgs false
set_option linter.unusedVariables false
namespace Lease
theorem take_cases (l : Lease) (who now term : Int) : (∃ e, (e != 0) = true ∧ l.take who now term = (⟨0, 0, 0⟩, e)) ∨
    ∃ t k, l.take who now term = (⟨who, t, k⟩, 0) ∧ l.checkE = 0 ∧ tm now = true ∧ (0 ≤ now ∧ now ≤ 1000000) ∧ (1 ≤ who ∧ who ≤ 1000) ∧ (1 ≤ term ∧ term ≤ 10000) ∧
      (now ≤ t ∧ t ≤ 1000000 ∧ min 1000000 (now + term) ≤ t) ∧ (0 ≤ k ∧ k ≤ 1000000) ∧ ((l.held now = who ∧ k = l.token ∧ l.till ≤ t) ∨ (l.held now = 0 ∧ k = l.token + 1)) := by
  by_cases h : l.okTake who now term
  · obtain ⟨h1, h2, h3, h4⟩ := h
    obtain ⟨⟨g1, g2⟩, ⟨g3, g4⟩, g5, g6⟩ := good h1
    have n1 := tm_bd h2
    have n2 := wi_bd h3
    have n3 := wi_bd h4
    by_cases a1 : l.held now = who
    · right
      have hh : l.holder = who := by
        unfold held at a1
        split at a1 <;> omega
      refine ⟨max l.till (till2 now term), l.token, by simp [take, h1, h2, h3, h4, a1, hh], h1, h2, n1, n2, n3, ?_, ⟨g5, g6⟩, .inl ⟨a1, rfl, ?_⟩⟩
      all_goals unfold till2; omega
    · by_cases a2 : l.held now = 0
      · by_cases a3 : l.token = 1000000
        · exact .inl ⟨2, rfl, by simp only [take, if_pos (show l.okTake who now term from ⟨h1, h2, h3, h4⟩), if_neg a1, if_pos a2, if_pos a3]⟩
        · right
          refine ⟨till2 now term, l.token + 1, by simp only [take, if_pos (show l.okTake who now term from ⟨h1, h2, h3, h4⟩), if_neg a1, if_pos a2, if_neg a3], h1, h2, n1, n2, n3, ?_, ⟨by omega, by omega⟩, .inr ⟨a2, rfl⟩⟩
          unfold till2; omega
      · exact .inl ⟨4, rfl, by simp only [take, if_pos (show l.okTake who now term from ⟨h1, h2, h3, h4⟩), if_neg a1, if_neg a2]⟩
  · exact .inl ⟨3, rfl, by simp only [take, if_neg h]⟩
theorem mk_ok {who t k : Int} (h1 : 1 ≤ who ∧ who ≤ 1000) (h2 : 0 ≤ t ∧ t ≤ 1000000) (h3 : 0 ≤ k ∧ k ≤ 1000000) : (⟨who, t, k⟩ : Lease).checkE = 0 :=
  if_pos ⟨wi_yes (n := who) ⟨by omega, by omega⟩, wi_yes h2, wi_yes h3⟩
theorem take_other {who t k other later span : Int} (hl : later < t) (ho : other ≠ who) (hw : 1 ≤ who) : ∃ g, (g != 0) = true ∧ (⟨who, t, k⟩ : Lease).take other later span = (⟨0, 0, 0⟩, g) := by
  have hh : (⟨who, t, k⟩ : Lease).held later = who := by simp [held, hl]
  rcases take_cases ⟨who, t, k⟩ other later span with ⟨e, h1, h2⟩ | ⟨t', k', _, _, _, _, _, _, _, _, h⟩
  · exact ⟨e, h1, h2⟩
  · rw [hh] at h
    exact absurd h (by omega)
theorem give_cases (l : Lease) (who token now : Int) : (∃ e, (e != 0) = true ∧ l.give who token now = (⟨0, 0, 0⟩, e)) ∨
    (l.give who token now = (⟨0, now, l.token⟩, 0) ∧ l.checkE = 0 ∧ tm now = true ∧ who ≠ 0 ∧ token = l.token) := by
  by_cases h : l.checkE = 0 ∧ tm now = true
  · by_cases h2 : who = 0 ∨ l.held now ≠ who ∨ token ≠ l.token
    · exact .inl ⟨4, rfl, by simp only [give, if_pos h, if_pos h2]⟩
    · exact .inr ⟨by simp only [give, if_pos h, if_neg h2], h.1, h.2, fun e => h2 (.inl e), Decidable.byContradiction fun e => h2 (.inr (.inr e))⟩
  · exact .inl ⟨3, rfl, by simp only [give, if_neg h]⟩
end Lease
theorem pass_up {a b : Int} (ha : 0 ≤ a) (hab : a ≤ b) (hb : b ≤ 1000000) : passP ⟨a⟩ b = (⟨b⟩, 0) := by
  show (if tm a = true ∧ tm b = true then (if b < a then ((⟨0⟩ : Fence), (4 : Int)) else (⟨b⟩, 0)) else (⟨0⟩, 3)) = _
  rw [if_pos ⟨wi_yes ⟨ha, by omega⟩, wi_yes ⟨by omega, hb⟩⟩, if_neg (by omega)]
theorem pass_down {a b : Int} (ha : 0 ≤ b) (hab : b < a) (hb : a ≤ 1000000) : passP ⟨a⟩ b = (⟨0⟩, 4) := by
  show (if tm a = true ∧ tm b = true then (if b < a then ((⟨0⟩ : Fence), (4 : Int)) else (⟨b⟩, 0)) else (⟨0⟩, 3)) = _
  rw [if_pos ⟨wi_yes ⟨by omega, by omega⟩, wi_yes ⟨by omega, by omega⟩⟩, if_pos hab]
end Go.Proofs.Ytlekhgmoamhgnaa
