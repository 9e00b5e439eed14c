/- What the references of package quorum answer; what must be in any case. No condition. -/
import Derived.Test.YtfgjfghljhldfaaDoorPQuorA
set_option maxRecDepth 100000
set_option maxHeartbeats 4000000
set_option linter.unusedVariables false
set_option linter.unusedSimpArgs false
namespace Go.Proofs.YtfgjfghljhldfaaDoor
theorem pow_lt64 {k : Nat} (h : k < 64) : 2 ^ k < 18446744073709551616 := by
  have := Nat.pow_lt_pow_right (a := 2) (by decide) h; simpa using this
theorem shl1 {d : Int} (h : 0 ≤ d ∧ d < 64) : IntKind.u64.wrap (1 * 2 ^ (min (Int.toNat d) IntKind.u64.bits)) = ((2 ^ (Int.toNat d) : Nat) : Int) := by
  have e : min (Int.toNat d) IntKind.u64.bits = Int.toNat d := by
    have : IntKind.u64.bits = 64 := rfl
    omega
  have hp := pow_lt64 (k := Int.toNat d) (by omega)
  rw [e, Int.one_mul, show ((2 : Int) ^ (Int.toNat d)) = ((2 ^ (Int.toNat d) : Nat) : Int) by push_cast; rfl, IntKind.wrap_u64]
  generalize (2 : Nat) ^ (Int.toNat d) = p at *
  omega
end Go.Proofs.YtfgjfghljhldfaaDoor
