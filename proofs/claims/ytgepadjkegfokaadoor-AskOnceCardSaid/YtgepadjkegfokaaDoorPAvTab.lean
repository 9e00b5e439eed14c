/- Tables: bytes of a text by index, cells of a table of the library by index. No condition. -/
import Derived.Test.YtgepadjkegfokaaDoorPAvDel
import Derived.Test.YtgepadjkegfokaaDoorPLowM
import Derived.Laws.Bits64
import Derived.Laws.Bits64b
set_option linter.unusedSimpArgs false
set_option linter.unusedVariables false
namespace Go.Proofs.YtgepadjkegfokaaDoor
set_option linter.unusedSimpArgs false
set_option linter.unusedVariables false
open Go.RowKit
section
variable {o : AOper} {x : L3}
theorem six_ex {s : ByteArray} {m : Int} (h : 0 ≤ m ∧ m < s.size) : ∃ b, s[Int.toNat m]? = some b := by
  have : Int.toNat m < s.size := by omega
  exact ⟨_, getElem?_pos s (Int.toNat m) this⟩
/-- A byte of a text. -/
theorem opE_six (s : ByteArray) (a i : Arg) (q : IntKind) (m : Int) (b : UInt8) (ho : o.ao = .six a i) (hg : guardA (slot x.t) o.guard = some true) (ha : argσ (slot x.t) a = .v (.string s)) (hi : argσ (slot x.t) i = .v (.int q m)) (h0 : 0 ≤ m) (hb : s[Int.toNat m]? = some b) :
    opE o x = .done (.v (.int .u8 b.toNat)) [] [] := by
  have hs : (AO.six a i).sem x.m.length (argσ (slot x.t)) = .opt (s[Int.toNat m]?.map fun b => .done (.v (.int .u8 b.toNat)) []) := by simp [AO.sem, ha, hi, natOf, h0]
  exact opE_sem _ (acc := []) (see := []) ho hg (by rw [hs]; simp [RM.run, hb, RM.opt]) (by rw [hs]; simp [RM.acc, hb, RM.opt]) (by rw [hs]; simp [RM.see, hb, RM.opt])
/-- The address of a cell of a table. -/
theorem opE_iapP (sz ln : Nat) (a i : Arg) (cs : List AV) (off : Nat) (q : IntKind) (m : Int) (ho : o.ao = .iap sz ln a i) (hg : guardA (slot x.t) o.guard = some true) (ha : argσ (slot x.t) a = .pim cs off) (hi : argσ (slot x.t) i = .v (.int q m)) (h0 : 0 ≤ m ∧ m < ln) : opE o x = .done (.pim cs (off + Int.toNat m * sz)) [] [] := by
  have hs : (AO.iap sz ln a i).sem x.m.length (argσ (slot x.t)) = .ret (.done (.pim cs (off + Int.toNat m * sz)) []) := by simp [AO.sem, ha, hi, h0]
  exact opE_sem _ (acc := []) (see := []) ho hg (by rw [hs]; simp [RM.run]) (by rw [hs]; simp [RM.acc]) (by rw [hs]; simp [RM.see])
/-- A cell of a table. -/
theorem opE_ldP (mm : Option Nat) (a : Arg) (cs : List AV) (off : Nat) (v : AV) (ho : o.ao = .load mm a) (hg : guardA (slot x.t) o.guard = some true) (ha : argσ (slot x.t) a = .pim cs off) (hv : getCells cs off mm = some v) : opE o x = .done v [] [] := by
  have hs : (AO.load mm a).sem x.m.length (argσ (slot x.t)) = .opt ((getCells cs off mm).map fun a => .done a []) := by simp [AO.sem, ha]
  exact opE_sem _ (acc := []) (see := []) ho hg (by rw [hs]; simp [RM.run, hv, RM.opt]) (by rw [hs]; simp [RM.acc, hv, RM.opt]) (by rw [hs]; simp [RM.see, hv, RM.opt])
end
/-- How many bits a byte takes. -/
def len8 (m : Nat) : Nat := if m = 0 then 0 else Nat.log2 m + 1
def l8s : ByteArray := ⟨#[0, 1, 2, 2, 3, 3, 3, 3, 4, 4, 4, 4, 4, 4, 4, 4, 5, 5, 5, 5, 5, 5, 5, 5, 5, 5, 5, 5, 5, 5, 5, 5, 6, 6, 6, 6, 6, 6, 6, 6, 6, 6, 6, 6, 6, 6, 6, 6, 6, 6, 6, 6, 6, 6, 6, 6, 6, 6, 6, 6, 6, 6, 6, 6, 7, 7, 7, 7, 7, 7, 7, 7, 7, 7, 7, 7, 7, 7, 7, 7, 7, 7, 7, 7, 7, 7, 7, 7, 7, 7, 7, 7, 7, 7, 7, 7, 7, 7, 7, 7, 7, 7, 7, 7, 7, 7, 7, 7, 7, 7, 7, 7, 7, 7, 7, 7, 7, 7, 7, 7, 7, 7, 7, 7, 7, 7, 7, 7, 8, 8, 8, 8, 8, 8, 8, 8, 8, 8, 8, 8, 8, 8, 8, 8, 8, 8, 8, 8, 8, 8, 8, 8, 8, 8, 8, 8, 8, 8, 8, 8, 8, 8, 8, 8, 8, 8, 8, 8, 8, 8, 8, 8, 8, 8, 8, 8, 8, 8, 8, 8, 8, 8, 8, 8, 8, 8, 8, 8, 8, 8, 8, 8, 8, 8, 8, 8, 8, 8, 8, 8, 8, 8, 8, 8, 8, 8, 8, 8, 8, 8, 8, 8, 8, 8, 8, 8, 8, 8, 8, 8, 8, 8, 8, 8, 8, 8, 8, 8, 8, 8, 8, 8, 8, 8, 8, 8, 8, 8, 8, 8, 8, 8, 8, 8, 8, 8, 8, 8, 8, 8, 8, 8, 8, 8, 8, 8]⟩
set_option maxRecDepth 100000 in
theorem l8_all : ((List.range 256).all fun m => (l8s.data[m]?.map UInt8.toNat) == some (len8 m)) = true := by kernel_rfl
theorem l8_get {m : Nat} (h : m < 256) {b : UInt8} (hb : l8s[m]? = some b) : b.toNat = len8 m := by
  have h1 := List.all_eq_true.1 l8_all m (List.mem_range.2 h)
  have h2 : l8s.data[m]? = some b := by
    have hs : m < l8s.size := by
      by_cases hh : m < l8s.size
      · exact hh
      · rw [getElem?_neg l8s m hh] at hb; simp at hb
    rw [getElem?_pos l8s m hs] at hb
    rw [Array.getElem?_eq_getElem (by exact hs)]
    exact hb
  rw [h2] at h1
  simpa using h1
/-- How many bits a number takes. -/
def len64 (n : Nat) : Nat := if n = 0 then 0 else Nat.log2 n + 1
theorem len64_gt {n k : Nat} : k < len64 n ↔ 2 ^ k ≤ n := by
  unfold len64
  by_cases h : n = 0
  · subst h; simp
  · rw [if_neg h, Nat.lt_succ_iff, Nat.le_log2 h]
theorem len64_shift {n k : Nat} (h : 2 ^ k ≤ n) : len64 n = len64 (n / 2 ^ k) + k := by
  have hp := Nat.two_pow_pos k
  have h0 : n ≠ 0 := by omega
  have h1 : n / 2 ^ k ≠ 0 := by have := Nat.div_pos h hp; omega
  have e : ∀ j, j < len64 n ↔ j < len64 (n / 2 ^ k) + k := fun j => by
    rw [len64_gt]
    by_cases hj : j < k
    · have := Nat.pow_le_pow_right (n := 2) (by omega) (Nat.le_of_lt hj)
      constructor <;> intro _ <;> omega
    · obtain ⟨i, rfl⟩ : ∃ i, j = i + k := ⟨j - k, by omega⟩
      rw [Nat.add_lt_add_iff_right, len64_gt, Nat.le_div_iff_mul_le hp, Nat.pow_add]
  have a := e (len64 n)
  have b := e (len64 (n / 2 ^ k) + k)
  omega
theorem gl_ld {i : Nat} (h : i < glZ.length) : getCells glC (0 + i * 1) none = some (.v (.int .u8 (glZ.getD i 0))) := by
  rw [Nat.zero_add, Nat.mul_one]; exact glT_get h
set_option maxRecDepth 100000 in
theorem gl_all : ((List.range 64).all fun k => decide ((IntKind.u64.wrap (((2 ^ k : Nat) : Int) * 285870213051353865)).fdiv (2 ^ (min 58 IntKind.u64.bits)) < 64) && decide (0 ≤ (IntKind.u64.wrap (((2 ^ k : Nat) : Int) * 285870213051353865)).fdiv (2 ^ (min 58 IntKind.u64.bits))) && glZ.getD (Int.toNat ((IntKind.u64.wrap (((2 ^ k : Nat) : Int) * 285870213051353865)).fdiv (2 ^ (min 58 IntKind.u64.bits)))) 0 == (k : Int)) = true := by kernel_rfl
theorem gl_at {k : Nat} (h : k < 64) : (0 ≤ (IntKind.u64.wrap (((2 ^ k : Nat) : Int) * 285870213051353865)).fdiv (2 ^ (min 58 IntKind.u64.bits)) ∧ (IntKind.u64.wrap (((2 ^ k : Nat) : Int) * 285870213051353865)).fdiv (2 ^ (min 58 IntKind.u64.bits)) < 64) ∧ glZ.getD (Int.toNat ((IntKind.u64.wrap (((2 ^ k : Nat) : Int) * 285870213051353865)).fdiv (2 ^ (min 58 IntKind.u64.bits)))) 0 = (k : Int) := by
  have h1 := List.all_eq_true.1 gl_all k (List.mem_range.2 h)
  simp only [Bool.and_eq_true, decide_eq_true_eq, beq_iff_eq] at h1
  exact ⟨⟨h1.1.2, h1.1.1⟩, h1.2⟩
/-- The lowest bit by itself, in the code's spelling. -/
theorem neg_bits {x : Nat} (h0 : x ≠ 0) (h : x < 18446744073709551616) : bits .and .u64 (x : Int) (IntKind.u64.wrap (0 - (x : Int))) = ((2 ^ tz x : Nat) : Int) := by
  have e : IntKind.u64.wrap (0 - (x : Int)) = ((18446744073709551616 - x : Nat) : Int) := by rw [IntKind.wrap_u64]; omega
  rw [e, bits_and_u64_nat x _ h (by omega)]
  have := neg_land 64 x (by omega) (by simpa using h)
  rw [show (2 : Nat) ^ 64 = 18446744073709551616 by decide] at this
  rw [this]
/-- All but the lowest bit, in the code's spelling. -/
theorem pred_bits {x : Nat} (h0 : x ≠ 0) (h : x < 18446744073709551616) : bits .and .u64 (x : Int) (IntKind.u64.wrap ((x : Int) - 1)) = ((x &&& (x - 1) : Nat) : Int) := by
  have e : IntKind.u64.wrap ((x : Int) - 1) = ((x - 1 : Nat) : Int) := by rw [IntKind.wrap_u64]; omega
  rw [e, bits_and_u64_nat x _ h (by omega)]
end Go.Proofs.YtgepadjkegfokaaDoor
