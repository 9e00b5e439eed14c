/- Sets of nodes as uint64: the walk's spelling of bits, in plain numbers. No condition. -/
import Derived.Test.YtnfffbgnjobkfaaGoT
import Derived.Laws.Bits64
import Derived.Laws.Bits64b
namespace Go.Proofs.Ytnfffbgnjobkfaa
set_option linter.unusedSimpArgs false
set_option linter.unusedVariables false
open Go.RowKit
theorem u64_pow {k : Nat} (hk : k < 64) : IntKind.u64.wrap ((2 : Int) ^ k) = ((2 ^ k : Nat) : Int) := by
  have h : (2 : Nat) ^ k < 2 ^ 64 := Nat.pow_lt_pow_right (by decide) hk
  have e : ((2 : Int) ^ k) = ((2 ^ k : Nat) : Int) := by push_cast; rfl
  rw [e, IntKind.wrap_u64]
  generalize (2 : Nat) ^ k = p at *
  omega
theorem or_pow {s k : Nat} (hk : k < 64) (hs : s < 2 ^ 64) : bits .or .u64 (s : Int) (IntKind.u64.wrap (2 ^ k)) = ((s ||| 2 ^ k : Nat) : Int) := by
  have h : (2 : Nat) ^ k < 2 ^ 64 := Nat.pow_lt_pow_right (by decide) hk
  rw [u64_pow hk, bits_or_u64_nat _ _ hs h]
theorem xor_pow {s k : Nat} (hk : k < 64) (hs : s < 2 ^ 64) : bits .xor .u64 (s : Int) (IntKind.u64.wrap (2 ^ k)) = ((s ^^^ 2 ^ k : Nat) : Int) := by
  have h : (2 : Nat) ^ k < 2 ^ 64 := Nat.pow_lt_pow_right (by decide) hk
  rw [u64_pow hk, bits_xor_u64_nat _ _ hs h]
theorem add_pow {s k : Nat} (h : s + 2 ^ k < 2 ^ 64) (hk : k < 64) : IntKind.u64.wrap ((s : Int) + IntKind.u64.wrap (2 ^ k)) = ((s + 2 ^ k : Nat) : Int) := by
  rw [u64_pow hk, IntKind.wrap_u64]
  generalize (2 : Nat) ^ k = p at *
  omega
theorem bit_of {s k : Nat} : ((s : Int) / 2 ^ k).tmod 2 = ((s / 2 ^ k % 2 : Nat) : Int) := by
  have e : ((s : Int) / 2 ^ k) = ((s / 2 ^ k : Nat) : Int) := by push_cast; rfl
  rw [e]
  generalize s / 2 ^ k = q
  rw [Int.tmod_eq_emod_of_nonneg (by omega)]
  omega
theorem testBit_div {s k : Nat} : (decide (s / 2 ^ k % 2 = 1)) = s.testBit k := by
  rw [Nat.testBit_eq_decide_div_mod_eq]
/-- Nothing is in s from place k on: to add the bit is to put it in. -/
theorem or_eq_add {s k : Nat} (h : s < 2 ^ k) : s ||| 2 ^ k = s + 2 ^ k := by
  have := Nat.two_pow_add_eq_or_of_lt h 1
  rw [Nat.mul_one] at this
  rw [Nat.add_comm, this, Nat.or_comm]
theorem or_lt {s k n : Nat} (hs : s < 2 ^ n) (hk : k < n) : s ||| 2 ^ k < 2 ^ n := Nat.or_lt_two_pow hs (Nat.pow_lt_pow_right (by decide) hk)
end Go.Proofs.Ytnfffbgnjobkfaa
