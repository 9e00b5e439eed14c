/- The lowest bit of a number; sums over sets of bits. Plain. No condition. -/
import Derived.Test.YtgepadjkegfokaaDoorPAv
namespace Go.Proofs.YtgepadjkegfokaaDoor
set_option linter.unusedSimpArgs false
set_option linter.unusedVariables false
/-- Where the lowest bit stands; 64: there is none. -/
def tz (n : Nat) : Nat := if n = 0 then 64 else if n % 2 = 1 then 0 else tz (n / 2) + 1
termination_by n
decreasing_by omega
theorem tz_odd {n : Nat} (h : n % 2 = 1) : tz n = 0 := by
  rw [tz, if_neg (by omega), if_pos h]
theorem tz_even {n : Nat} (h0 : n ≠ 0) (h : n % 2 = 0) : tz n = tz (n / 2) + 1 := by
  rw [tz, if_neg h0, if_neg (by omega)]
theorem land_two (a b i k : Nat) (hi : i < 2) (hk : k < 2) : (2 * a + i) &&& (2 * b + k) = 2 * (a &&& b) + (i &&& k) := by
  apply Nat.eq_of_testBit_eq
  intro j
  have hik : i &&& k < 2 := Nat.lt_of_le_of_lt Nat.and_le_left hi
  cases j with
  | zero =>
    rw [Nat.testBit_and, Nat.testBit_zero, Nat.testBit_zero, Nat.testBit_zero]
    have : i = 0 ∨ i = 1 := by omega
    have : k = 0 ∨ k = 1 := by omega
    rcases ‹i = 0 ∨ i = 1› with rfl | rfl <;> rcases ‹k = 0 ∨ k = 1› with rfl | rfl <;> simp <;> omega
  | succ j =>
    rw [Nat.testBit_and, Nat.testBit_succ, Nat.testBit_succ, Nat.testBit_succ, show (2 * a + i) / 2 = a by omega, show (2 * b + k) / 2 = b by omega, show (2 * (a &&& b) + (i &&& k)) / 2 = (a &&& b) by omega, Nat.testBit_and]
theorem compl_land : ∀ (v y : Nat), y < 2 ^ v → y &&& (2 ^ v - 1 - y) = 0
  | 0, y, h => by have : y = 0 := by simpa using h
                  subst this; simp
  | v + 1, y, h => by
    have hp : 2 ^ (v + 1) = 2 * 2 ^ v := by rw [Nat.pow_succ]; omega
    have ih := compl_land v (y / 2) (by omega)
    have e1 : y = 2 * (y / 2) + y % 2 := by omega
    have e2 : 2 ^ (v + 1) - 1 - y = 2 * (2 ^ v - 1 - y / 2) + (1 - y % 2) := by omega
    rw [e2]
    conv => lhs; lhs; rw [e1]
    rw [land_two _ _ _ _ (by omega) (by omega), ih]
    have : y % 2 = 0 ∨ y % 2 = 1 := by omega
    rcases this with h | h <;> rw [h] <;> rfl
/-- The lowest bit by itself. -/
theorem neg_land : ∀ (v x : Nat), 0 < x → x < 2 ^ v → x &&& (2 ^ v - x) = 2 ^ tz x
  | 0, x, h, h2 => by simp at h2; omega
  | v + 1, x, h, h2 => by
    have hp : 2 ^ (v + 1) = 2 * 2 ^ v := by rw [Nat.pow_succ]; omega
    by_cases ho : x % 2 = 1
    · have e1 : x = 2 * (x / 2) + 1 := by omega
      have e2 : 2 ^ (v + 1) - x = 2 * (2 ^ v - 1 - x / 2) + 1 := by omega
      rw [tz_odd ho, e2]
      conv => lhs; lhs; rw [e1]
      rw [land_two _ _ _ _ (by omega) (by omega), compl_land v (x / 2) (by omega)]; rfl
    · have he : x % 2 = 0 := by omega
      have e1 : x = 2 * (x / 2) + 0 := by omega
      have e2 : 2 ^ (v + 1) - x = 2 * (2 ^ v - x / 2) + 0 := by omega
      rw [tz_even (by omega) he, e2, Nat.pow_succ]
      conv => lhs; lhs; rw [e1]
      rw [land_two _ _ _ _ (by omega) (by omega), neg_land v (x / 2) (by omega) (by omega)]
      simp; omega
/-- All but the lowest bit. -/
theorem pred_odd {x : Nat} (h : x % 2 = 1) : x &&& (x - 1) = 2 * (x / 2) := by
  have e1 : x = 2 * (x / 2) + 1 := by omega
  have e2 : x - 1 = 2 * (x / 2) + 0 := by omega
  rw [e2]
  conv => lhs; lhs; rw [e1]
  rw [land_two _ _ _ _ (by omega) (by omega), Nat.and_self]; rfl
theorem pred_even {x : Nat} (h0 : x ≠ 0) (h : x % 2 = 0) : x &&& (x - 1) = 2 * ((x / 2) &&& (x / 2 - 1)) := by
  have e1 : x = 2 * (x / 2) + 0 := by omega
  have e2 : x - 1 = 2 * (x / 2 - 1) + 1 := by omega
  rw [e2]
  conv => lhs; lhs; rw [e1]
  rw [land_two _ _ _ _ (by omega) (by omega)]; simp
theorem pred_lt {x : Nat} (h0 : x ≠ 0) : x &&& (x - 1) < x := Nat.lt_of_le_of_lt Nat.and_le_right (by omega)
theorem tz_lt : ∀ (v x : Nat), x ≠ 0 → x < 2 ^ v → tz x < v
  | 0, x, h, h2 => by simp at h2; omega
  | v + 1, x, h, h2 => by
    have hp : 2 ^ (v + 1) = 2 * 2 ^ v := by rw [Nat.pow_succ]; omega
    by_cases ho : x % 2 = 1
    · rw [tz_odd ho]; omega
    · rw [tz_even h (by omega)]
      have := tz_lt v (x / 2) (by omega) (by omega); omega
/-- The sum of the weights of a set. -/
def bsum : List Int → Nat → Int
  | [], _ => 0
  | w :: ws, x => (if x % 2 = 1 then w else 0) + bsum ws (x / 2)
theorem bsum_zero : ∀ ws : List Int, bsum ws 0 = 0
  | [] => rfl
  | w :: ws => by simp [bsum, bsum_zero ws]
theorem bsum_low : ∀ (ws : List Int) (x : Nat), x ≠ 0 → x < 2 ^ ws.length → ∃ w, ws[tz x]? = some w ∧ bsum ws x = w + bsum ws (x &&& (x - 1))
  | [], x, h, h2 => by simp at h2; omega
  | w :: ws, x, h, h2 => by
    have hp : 2 ^ (ws.length + 1) = 2 * 2 ^ ws.length := by rw [Nat.pow_succ]; omega
    rw [List.length_cons] at h2
    by_cases ho : x % 2 = 1
    · refine ⟨w, by rw [tz_odd ho]; rfl, ?_⟩
      rw [pred_odd ho]
      simp only [bsum, ho, if_true]
      rw [if_neg (by omega), show 2 * (x / 2) / 2 = x / 2 by omega]; omega
    · have he : x % 2 = 0 := by omega
      obtain ⟨w', k1, k2⟩ := bsum_low ws (x / 2) (by omega) (by omega)
      refine ⟨w', by rw [tz_even h he]; simpa using k1, ?_⟩
      rw [pred_even h he]
      simp only [bsum]
      rw [if_neg ho, if_neg (by omega), k2, show 2 * (x / 2 &&& (x / 2 - 1)) / 2 = (x / 2 &&& (x / 2 - 1)) by omega]; omega
end Go.Proofs.YtgepadjkegfokaaDoor
