/- What the references for quorums and bids answer. No condition. -/
import Derived.Test.YtejilglnpdjepaaDoorPSeatE
set_option maxRecDepth 100000
set_option maxHeartbeats 4000000
set_option linter.unusedVariables false
set_option linter.unusedSimpArgs false
namespace Go.Proofs.YtejilglnpdjepaaDoor
theorem or_sub {x : U64} {k n : Nat} (hx : x.n < 2 ^ n) (hk : k < n) (hn : n ≤ 12) : (orU x k).n < 2 ^ n := by
  have hl : x.n ||| 2 ^ k < 2 ^ n := Nat.or_lt_two_pow hx (Nat.pow_lt_pow_right (by decide) hk)
  show (x.n ||| 2 ^ k) % 18446744073709551616 < 2 ^ n
  exact Nat.lt_of_le_of_lt (Nat.mod_le _ _) hl
theorem qc_nodes {ws : List Int} {need : Int} (h : qcheckP ws need = 0) : (nodesP ws).2 = 0 := by
  unfold qcheckP at h
  by_cases hn : (nodesP ws).2 = 0
  · exact hn
  · rw [if_pos hn] at h; exact absurd h hn
theorem qc_len {ws : List Int} {need : Int} (h : qcheckP ws need = 0) : ws.length ≤ 12 := (nodes_bd (qc_nodes h)).2.2.2.1
def Copy.zero : Copy := ⟨⟨0, 0⟩, ⟨#[]⟩⟩
theorem bid_ok {v : Voters} {b : Bid} (h : b.checkE v.weights v.need = 0) : qcheckP v.weights v.need = 0 ∧ b.best.checkE = 0 ∧ b.heard.n < 2 ^ v.weights.length ∧ (1 ≤ b.time ∧ b.time ≤ 1000000) ∧ (1 ≤ b.phase ∧ b.phase ≤ 3) := by
  unfold Bid.checkE at h
  by_cases h1 : qcheckP v.weights v.need = 0
  · rw [if_neg (fun hh => hh h1)] at h
    by_cases h2 : 1 ≤ b.time ∧ b.time ≤ 1000000
    · rw [if_neg (fun hh => hh h2)] at h
      by_cases h3 : 1 ≤ b.phase ∧ b.phase ≤ 3
      · rw [if_neg (fun hh => hh h3)] at h
        by_cases h4 : b.own.size > 64 ∨ b.value.size > 64
        · rw [if_pos h4] at h; simp at h
        · rw [if_neg h4] at h
          by_cases h5 : b.best.checkE = 0
          · rw [if_neg (fun hh => hh h5)] at h
            by_cases h6 : (len64 b.heard.n : Int) > v.weights.length
            · rw [if_pos h6] at h; simp at h
            · refine ⟨h1, h5, Nat.not_le.1 fun hh => h6 ?_, h2, h3⟩
              have := len64_gt.2 hh; omega
          · rw [if_pos h5] at h; exact absurd h h5
      · rw [if_pos h3] at h; simp at h
    · rw [if_pos h2] at h; simp at h
  · rw [if_pos h1] at h; exact absurd h h1
end Go.Proofs.YtejilglnpdjepaaDoor
