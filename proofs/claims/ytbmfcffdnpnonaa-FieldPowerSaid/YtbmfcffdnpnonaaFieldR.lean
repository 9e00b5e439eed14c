/- The reference's schoolbook product of two bytes, reduced, is the field's product. No condition. -/
import Derived.Test.YtbmfcffdnpnonaaFieldM
namespace Go.Proofs.Ytbmfcffdnpnonaa
/-- A row of the product: k bits of b, moved by i. -/
def rowTo (a b i p : Nat) : Nat → Nat
  | 0 => p
  | k+1 => if a / 2 ^ i % 2 = 1 ∧ b / 2 ^ k % 2 = 1 then rowTo a b i p k ^^^ 2 ^ (i + k) else rowTo a b i p k
def clTo (a b : Nat) : Nat → Nat
  | 0 => 0
  | i+1 => rowTo a b i (clTo a b i) 8
def redStep (p n : Nat) : Nat := if p / 2 ^ n % 2 = 1 then p ^^^ 285 * 2 ^ (n - 8) else p
/-- m steps of the reduction, from bit 14 downwards. -/
def redTo (p : Nat) : Nat → Nat
  | 0 => p
  | m+1 => redStep (redTo p m) (14 - m)

theorem bit_iff (p n : Nat) : (p / 2 ^ n % 2 = 1) ↔ p.testBit n = true := by
  rw [Nat.testBit_eq_decide_div_mod_eq]; simp
theorem redStep_xor (p q n : Nat) : redStep (p ^^^ q) n = redStep p n ^^^ redStep q n := by
  have h1 : ∀ x y z : Nat, (x ^^^ y) ^^^ z = (x ^^^ z) ^^^ y := fun x y z => by rw [Nat.xor_assoc, Nat.xor_comm y, ← Nat.xor_assoc]
  unfold redStep
  simp only [bit_iff, Nat.testBit_xor]
  generalize 285 * 2 ^ (n - 8) = c
  cases p.testBit n <;> cases q.testBit n <;> simp
  · rw [Nat.xor_assoc]
  · rw [h1]
  · rw [Nat.xor_assoc, Nat.xor_comm c (q ^^^ c), Nat.xor_assoc q, Nat.xor_self, Nat.xor_zero]
theorem redTo_xor (p q m : Nat) : redTo (p ^^^ q) m = redTo p m ^^^ redTo q m := by
  induction m with
  | zero => rfl
  | succ m ih => rw [redTo, redTo, redTo, ih, redStep_xor]
theorem redTo_zero (m : Nat) : redTo 0 m = 0 := by
  have := redTo_xor 0 0 m
  rw [Nat.xor_self, Nat.xor_self] at this; exact this
theorem rowTo_from (a b i p : Nat) (k : Nat) : rowTo a b i p k = p ^^^ rowTo a b i 0 k := by
  induction k with
  | zero => simp [rowTo]
  | succ k ih => rw [rowTo, rowTo, ih]; split <;> simp [Nat.xor_assoc]
theorem rowTo_no (a b i p : Nat) (k : Nat) (h : a / 2 ^ i % 2 ≠ 1) : rowTo a b i p k = p := by
  induction k with
  | zero => rfl
  | succ k ih => rw [rowTo, if_neg (fun h2 => h h2.1), ih]
theorem rowTo_yes (a a' b i : Nat) (k : Nat) (h : a / 2 ^ i % 2 = 1) (h' : a' / 2 ^ i % 2 = 1) : rowTo a b i 0 k = rowTo a' b i 0 k := by
  induction k with
  | zero => rfl
  | succ k ih => rw [rowTo, rowTo, ih]; simp only [h, h', true_and]
theorem row_red (b : UInt8) (i : Nat) (hi : i < 8) : redTo (rowTo 255 b.toNat i 0 8) 7 = (xts i b).toNat := by
  have h := all8 (fun b => (List.range 8).all fun i => redTo (rowTo 255 b.toNat i 0 8) 7 == (xts i b).toNat) (by decide +kernel) b
  rw [List.all_eq_true] at h
  simpa using h i (List.mem_range.2 hi)
/-- The first n bits of a. -/
def lowSum (a b : UInt8) : Nat → UInt8
  | 0 => 0
  | n+1 => if a.toNat / 2 ^ n % 2 = 1 then lowSum a b n ^^^ xts n b else lowSum a b n
theorem cl_low (a b : UInt8) (n : Nat) (hn : n ≤ 8) : redTo (clTo a.toNat b.toNat n) 7 = (lowSum a b n).toNat := by
  induction n with
  | zero => exact redTo_zero 7
  | succ n ih =>
    rw [clTo, lowSum]
    by_cases h : a.toNat / 2 ^ n % 2 = 1
    · have h5 : ∀ n, n < 8 → 255 / 2 ^ n % 2 = 1 := by decide
      rw [rowTo_from, redTo_xor, ih (by omega), if_pos h, UInt8.toNat_xor, rowTo_yes _ 255 _ _ _ h (h5 n (by omega)), row_red b n (by omega)]
    · rw [rowTo_no _ _ _ _ _ h, if_neg h, ih (by omega)]
theorem low_mul (a b : UInt8) : lowSum a b 8 = gmul a b := by
  have hs : ∀ n, n ≤ 8 → lowSum a b n = gmul (lowSum a 1 n) b := by
    intro n hn
    induction n with
    | zero => exact (zero_gmul b).symm
    | succ n ih =>
      rw [lowSum, lowSum]
      split
      · rw [gmul_add_left, xts_one, ih (by omega)]
      · exact ih (by omega)
  rw [hs 8 (Nat.le_refl _)]
  congr 1
  have := all8 (fun a => lowSum a 1 8 == a) (by decide +kernel) a
  simpa using this
theorem mulOf_eq (a b : UInt8) : redTo (clTo a.toNat b.toNat 8) 7 = (gmul a b).toNat := by rw [cl_low a b 8 (Nat.le_refl _), low_mul]
/-- The product, as long as it is one: below 2 ^ 15. -/
theorem rowTo_lt (a b i p : Nat) (hi : i < 8) (hp : p < 32768) (k : Nat) (hk : k ≤ 8) : rowTo a b i p k < 32768 := by
  induction k with
  | zero => exact hp
  | succ k ih =>
    rw [rowTo]
    split
    · have h2 : 2 ^ (i + k) < 2 ^ 15 := Nat.pow_lt_pow_right (by omega) (by omega)
      exact Nat.xor_lt_two_pow (n := 15) (ih (by omega)) h2
    · exact ih (by omega)
theorem clTo_lt (a b : Nat) (i : Nat) (hi : i ≤ 8) : clTo a b i < 32768 := by
  induction i with
  | zero => simp [clTo]
  | succ i ih => exact rowTo_lt _ _ _ _ (by omega) (ih (by omega)) _ (by omega)
theorem redTo_lt (p : Nat) (hp : p < 32768) (m : Nat) (hm : m ≤ 7) : redTo p m < 32768 := by
  induction m with
  | zero => exact hp
  | succ m ih =>
    rw [redTo, redStep]
    split
    · have h1 : 2 ^ (14 - m - 8) ≤ 2 ^ 6 := Nat.pow_le_pow_right (by omega) (by omega)
      exact Nat.xor_lt_two_pow (n := 15) (ih (by omega)) (by omega)
    · exact ih (by omega)
end Go.Proofs.Ytbmfcffdnpnonaa
