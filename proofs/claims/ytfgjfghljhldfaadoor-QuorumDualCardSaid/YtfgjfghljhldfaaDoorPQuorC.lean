/- Plain laws of sums of sets; what must be in any case. No condition. -/
import Derived.Test.YtfgjfghljhldfaaDoorPQuorB
set_option maxRecDepth 100000
set_option maxHeartbeats 4000000
set_option linter.unusedVariables false
set_option linter.unusedSimpArgs false
namespace Go.Proofs.YtfgjfghljhldfaaDoor
def uDiff (a b : U64) : U64 := ⟨(a.n - (a.n &&& b.n)) % 18446744073709551616, Nat.mod_lt _ (by decide)⟩
def uMsk (k : Nat) : U64 := ⟨(2 ^ k - 1) % 18446744073709551616, Nat.mod_lt _ (by decide)⟩
theorem uMsk_n {k : Nat} (h : k < 64) : (uMsk k).n = 2 ^ k - 1 := by
  have := pow_lt64 h
  exact Nat.mod_eq_of_lt (by omega)
theorem uMsk_sub {k : Nat} (h : k < 64) : IntKind.u64.wrap (((2 ^ k : Nat) : Int) - 1) = ((uMsk k).n : Int) := by
  have := pow_lt64 h
  have hp := Nat.two_pow_pos k
  rw [uMsk_n h, IntKind.wrap_u64]
  generalize (2 : Nat) ^ k = p at *
  omega
/-- What Enough says, where it says something. -/
theorem enough_ok {ws : List Int} {need : Int} {x : Nat} (h : (enoughP ws need x).2 = 0) : qcheckP ws need = 0 ∧ x < 2 ^ ws.length ∧ sumP ws x = (bsum ws x, 0) ∧ ((enoughP ws need x).1 = true ↔ need ≤ bsum ws x) := by
  by_cases hq : qcheckP ws need = 0
  · unfold enoughP at h ⊢
    rw [if_neg (fun hh => hh hq)] at h ⊢
    have hx : x < 2 ^ ws.length := by
      by_cases hx : x < 2 ^ ws.length
      · exact hx
      · unfold sumP at h; rw [if_neg (fun hh => hh (qc_nodes hq)), if_pos (by omega)] at h; simp at h
    have hs := sumP_0 (qc_nodes hq) hx
    refine ⟨hq, hx, hs, ?_⟩
    rw [hs]; simp
  · unfold enoughP at h; rw [if_pos hq] at h; exact absurd h hq
theorem enough_of {ws : List Int} {need : Int} {x : Nat} (hq : qcheckP ws need = 0) (hx : x < 2 ^ ws.length) : (enoughP ws need x).2 = 0 ∧ sumP ws x = (bsum ws x, 0) ∧ ((enoughP ws need x).1 = true ↔ need ≤ bsum ws x) := by
  have hs := sumP_0 (qc_nodes hq) hx
  have h : (enoughP ws need x).2 = 0 := by unfold enoughP; rw [if_neg (fun hh => hh hq), hs]
  exact ⟨h, hs, (enough_ok h).2.2.2⟩
theorem sum_bd (ws : List Int) (x : Nat) : 0 ≤ (sumP ws x).1 ∧ (sumP ws x).1 ≤ 1200 := by
  unfold sumP
  by_cases h : (nodesP ws).2 = 0
  · rw [if_neg (fun hh => hh h)]
    have hb := nodes_bd h
    have := bsum_bd ws x hb.2.2.2.2
    split <;> simp <;> omega
  · rw [if_pos h]; simp
theorem uDiff_n {a b : U64} : (uDiff a b).n = a.n - (a.n &&& b.n) := Nat.mod_eq_of_lt (by have := a.lt; omega)
theorem and_compl : ∀ (v a b : Nat), a < 2 ^ v → b < 2 ^ v → (a &&& (2 ^ v - 1 - b)) + (a &&& b) = a
  | 0, a, b, h, _ => by have : a = 0 := by simpa using h
                        subst this; simp
  | v + 1, a, b, h, h2 => by
    have hp : 2 ^ (v + 1) = 2 * 2 ^ v := by rw [Nat.pow_succ]; omega
    have ih := and_compl v (a / 2) (b / 2) (by omega) (by omega)
    have e1 : a = 2 * (a / 2) + a % 2 := by omega
    have e2 : 2 ^ (v + 1) - 1 - b = 2 * (2 ^ v - 1 - b / 2) + (1 - b % 2) := by omega
    have e3 : b = 2 * (b / 2) + b % 2 := by omega
    have k1 : a &&& (2 ^ (v + 1) - 1 - b) = 2 * (a / 2 &&& (2 ^ v - 1 - b / 2)) + (a % 2 &&& (1 - b % 2)) := by
      rw [e2]; conv => lhs; lhs; rw [e1]
      exact land_two _ _ _ _ (by omega) (by omega)
    have k2 : a &&& b = 2 * (a / 2 &&& b / 2) + (a % 2 &&& b % 2) := by
      conv => lhs; rw [e1, e3]
      exact land_two _ _ _ _ (by omega) (by omega)
    rw [k1, k2]
    have h1 : a % 2 = 0 ∨ a % 2 = 1 := by omega
    have h2 : b % 2 = 0 ∨ b % 2 = 1 := by omega
    rcases h1 with h1 | h1 <;> rcases h2 with h2 | h2 <;> rw [h1, h2] <;> simp <;> omega
theorem uDiff_bits {a b : U64} (_ : (0 : Int) ≤ 0) : bits .andNot .u64 (a.n : Int) (b.n : Int) = ((uDiff a b).n : Int) := by
  have h1 : (BitVec.ofInt 64 (a.n : Int)).toNat = a.n := by
    rw [BitVec.ofInt_natCast, BitVec.toNat_ofNat]; exact Nat.mod_eq_of_lt (by have := a.lt; omega)
  have h2 : (BitVec.ofInt 64 (b.n : Int)).toNat = b.n := by
    rw [BitVec.ofInt_natCast, BitVec.toNat_ofNat]; exact Nat.mod_eq_of_lt (by have := b.lt; omega)
  show IntKind.u64.wrap ((BitVec.ofInt 64 (a.n : Int) &&& ~~~(BitVec.ofInt 64 (b.n : Int))).toNat : Int) = _
  rw [BitVec.toNat_and, BitVec.toNat_not, h1, h2, IntKind.wrap_u64, uDiff_n]
  have := and_compl 64 a.n b.n (by simpa using a.lt) (by simpa using b.lt)
  have := a.lt
  generalize a.n &&& (2 ^ 64 - 1 - b.n) = p at *
  generalize a.n &&& b.n = q at *
  omega
theorem and_msk {x k : Nat} : x &&& (2 ^ k - 1) = x % 2 ^ k := Nat.and_two_pow_sub_one_eq_mod x k
/-- The nodes that are not away. -/
theorem others_n {L : Nat} {x : U64} (hL : L < 64) (hx : x.n < 2 ^ L) : (uDiff (uMsk L) x).n = 2 ^ L - 1 - x.n := by
  rw [uDiff_n, uMsk_n hL, Nat.and_comm, and_msk, Nat.mod_eq_of_lt hx]
theorem dual_err {ws : List Int} {need : Int} {x : Nat} (h : ¬ (enoughP ws need x).2 = 0) : (enoughP ws need x).1 = false := by
  unfold enoughP at h ⊢
  by_cases hq : qcheckP ws need = 0
  · rw [if_neg (fun hh => hh hq)] at h ⊢
    have : ((sumP ws x).2 == 0) = false := by simpa using h
    simp [this]
  · rw [if_pos hq]
theorem dual_law {ws : List Int} {need : Int} {set : U64} (h : (enoughP ws need set.n).2 = 0) :
    (enoughP ws need (uDiff (uMsk (Int.toNat (ws.length : Int))) set).n).2 = 0 ∧ (sumP ws set.n).2 = 0 ∧ (sumP ws (uDiff (uMsk (Int.toNat (ws.length : Int))) set).n).2 = 0 ∧
    ¬ ((enoughP ws need set.n).1 = true ∧ (enoughP ws need (uDiff (uMsk (Int.toNat (ws.length : Int))) set).n).1 = true) ∧ (sumP ws set.n).1 + (sumP ws (uDiff (uMsk (Int.toNat (ws.length : Int))) set).n).1 = lsum ws := by
  obtain ⟨hq, hx, hs, he⟩ := enough_ok h
  have hL := qc_len hq
  have hn := qc_need hq
  rw [show Int.toNat (ws.length : Int) = ws.length from rfl]
  have eo := others_n (L := ws.length) (x := set) (by omega) hx
  generalize uDiff (uMsk ws.length) set = o at eo ⊢
  have ho : o.n < 2 ^ ws.length := by rw [eo]; have := Nat.two_pow_pos ws.length; omega
  have hc := bsum_compl ws set.n hx
  rw [← eo] at hc
  obtain ⟨a1, a2, a3⟩ := enough_of hq ho
  refine ⟨a1, by rw [hs], by rw [a2], fun hh => ?_, by rw [hs, a2]; omega⟩
  have := he.1 hh.1
  have := a3.1 hh.2
  omega
theorem qbegun_fn : Fn Tryd.prog 17 [] (.v (.bool true)) := by
  refine fn_walkW F17_ok (of_decide_eq_true (by kernel_rfl)) ?_
  refine EL.sreg ?_
  refine OW.last 1 [] (x' := ⟨[], []⟩) (by kernel_rfl) (by kernel_rfl) ?_
  refine EL.sreg ?_
  refine OW.last 2 [1] (x' := ⟨[(1, .own 0 1 0 4)], [some ⟨1, [[VI 3], [VI 1], [VI 1], [VI 2]]⟩]⟩) (by kernel_rfl) (by kernel_rfl) ?_
  refine EL.sreg ?_
  refine OW.run 1 (x' := ⟨[(14, .own 0 1 0 4), (1, .own 0 1 0 4)], [some ⟨1, [[VI 3], [VI 1], [VI 1], [VI 2]]⟩]⟩) (by kernel_rfl) ?_
  refine OW.fn (ar := [.own 0 1 0 4, .v (.int .u64 5)]) (x' := ⟨[(15, .tup [VI ((sumP ([3, 1, 1, 2]) (⟨5, by decide⟩ : U64).n).1), VI ((sumP ([3, 1, 1, 2]) (⟨5, by decide⟩ : U64).n).2)]), (14, .own 0 1 0 4), (1, .own 0 1 0 4)], [some ⟨1, [[VI 3], [VI 1], [VI 1], [VI 2]]⟩]⟩) (by kernel_rfl) (by kernel_rfl) F9_call (sum_fn ([3, 1, 1, 2]) (⟨5, by decide⟩ : U64) (by decide)) (by kernel_rfl) (by kernel_rfl) ?_
  refine OW.last 5 [1, 2, 3] (x' := ⟨[(3, VI ((sumP ([3, 1, 1, 2]) (⟨5, by decide⟩ : U64).n).2)), (2, VI ((sumP ([3, 1, 1, 2]) (⟨5, by decide⟩ : U64).n).1)), (1, .own 0 1 0 4)], [some ⟨1, [[VI 3], [VI 1], [VI 1], [VI 2]]⟩]⟩) (by kernel_rfl) (by kernel_rfl) ?_
  refine EL.sreg ?_
  refine OW.run 1 (x' := ⟨[(19, .own 0 1 0 4), (3, VI ((sumP ([3, 1, 1, 2]) (⟨5, by decide⟩ : U64).n).2)), (2, VI ((sumP ([3, 1, 1, 2]) (⟨5, by decide⟩ : U64).n).1)), (1, .own 0 1 0 4)], [some ⟨1, [[VI 3], [VI 1], [VI 1], [VI 2]]⟩]⟩) (by kernel_rfl) ?_
  refine OW.fn (ar := [.own 0 1 0 4, VI 4, .v (.int .u64 9)]) (x' := ⟨[(20, .tup [.v (.bool ((enoughP ([3, 1, 1, 2]) 4 (⟨9, by decide⟩ : U64).n).1)), VI ((enoughP ([3, 1, 1, 2]) 4 (⟨9, by decide⟩ : U64).n).2)]), (19, .own 0 1 0 4), (3, VI ((sumP ([3, 1, 1, 2]) (⟨5, by decide⟩ : U64).n).2)), (2, VI ((sumP ([3, 1, 1, 2]) (⟨5, by decide⟩ : U64).n).1)), (1, .own 0 1 0 4)], [some ⟨1, [[VI 3], [VI 1], [VI 1], [VI 2]]⟩]⟩) (by kernel_rfl) (by kernel_rfl) F10_call (enough_fn ([3, 1, 1, 2]) 4 (⟨9, by decide⟩ : U64) (by decide)) (by kernel_rfl) (by kernel_rfl) ?_
  refine OW.last 5 [1, 2, 3, 4, 5] (x' := ⟨[(5, VI ((enoughP ([3, 1, 1, 2]) 4 (⟨9, by decide⟩ : U64).n).2)), (4, .v (.bool ((enoughP ([3, 1, 1, 2]) 4 (⟨9, by decide⟩ : U64).n).1))), (3, VI ((sumP ([3, 1, 1, 2]) (⟨5, by decide⟩ : U64).n).2)), (2, VI ((sumP ([3, 1, 1, 2]) (⟨5, by decide⟩ : U64).n).1)), (1, .own 0 1 0 4)], [some ⟨1, [[VI 3], [VI 1], [VI 1], [VI 2]]⟩]⟩) (by kernel_rfl) (by kernel_rfl) ?_
  refine EL.sreg ?_
  refine OW.run 1 (x' := ⟨[(24, .own 0 1 0 4), (5, VI ((enoughP ([3, 1, 1, 2]) 4 (⟨9, by decide⟩ : U64).n).2)), (4, .v (.bool ((enoughP ([3, 1, 1, 2]) 4 (⟨9, by decide⟩ : U64).n).1))), (3, VI ((sumP ([3, 1, 1, 2]) (⟨5, by decide⟩ : U64).n).2)), (2, VI ((sumP ([3, 1, 1, 2]) (⟨5, by decide⟩ : U64).n).1)), (1, .own 0 1 0 4)], [some ⟨1, [[VI 3], [VI 1], [VI 1], [VI 2]]⟩]⟩) (by kernel_rfl) ?_
  refine OW.fn (ar := [.own 0 1 0 4, VI 4]) (x' := ⟨[(25, .tup [VI ((leastP ([3, 1, 1, 2]) 4).1), VI ((leastP ([3, 1, 1, 2]) 4).2)]), (24, .own 0 1 0 4), (5, VI ((enoughP ([3, 1, 1, 2]) 4 (⟨9, by decide⟩ : U64).n).2)), (4, .v (.bool ((enoughP ([3, 1, 1, 2]) 4 (⟨9, by decide⟩ : U64).n).1))), (3, VI ((sumP ([3, 1, 1, 2]) (⟨5, by decide⟩ : U64).n).2)), (2, VI ((sumP ([3, 1, 1, 2]) (⟨5, by decide⟩ : U64).n).1)), (1, .own 0 1 0 4)], [some ⟨1, [[VI 3], [VI 1], [VI 1], [VI 2]]⟩]⟩) (by kernel_rfl) (by kernel_rfl) F11_call (least_fn ([3, 1, 1, 2]) 4 (by decide)) (by kernel_rfl) (by kernel_rfl) ?_
  refine OW.last 5 [1, 2, 3, 4, 5, 6, 7] (x' := ⟨[(7, VI ((leastP ([3, 1, 1, 2]) 4).2)), (6, VI ((leastP ([3, 1, 1, 2]) 4).1)), (5, VI ((enoughP ([3, 1, 1, 2]) 4 (⟨9, by decide⟩ : U64).n).2)), (4, .v (.bool ((enoughP ([3, 1, 1, 2]) 4 (⟨9, by decide⟩ : U64).n).1))), (3, VI ((sumP ([3, 1, 1, 2]) (⟨5, by decide⟩ : U64).n).2)), (2, VI ((sumP ([3, 1, 1, 2]) (⟨5, by decide⟩ : U64).n).1)), (1, .own 0 1 0 4)], [some ⟨1, [[VI 3], [VI 1], [VI 1], [VI 2]]⟩]⟩) (by kernel_rfl) (by kernel_rfl) ?_
  refine EL.sreg ?_
  refine OW.run 1 (x' := ⟨[(29, .own 0 1 0 4), (7, VI ((leastP ([3, 1, 1, 2]) 4).2)), (6, VI ((leastP ([3, 1, 1, 2]) 4).1)), (5, VI ((enoughP ([3, 1, 1, 2]) 4 (⟨9, by decide⟩ : U64).n).2)), (4, .v (.bool ((enoughP ([3, 1, 1, 2]) 4 (⟨9, by decide⟩ : U64).n).1))), (3, VI ((sumP ([3, 1, 1, 2]) (⟨5, by decide⟩ : U64).n).2)), (2, VI ((sumP ([3, 1, 1, 2]) (⟨5, by decide⟩ : U64).n).1)), (1, .own 0 1 0 4)], [some ⟨1, [[VI 3], [VI 1], [VI 1], [VI 2]]⟩]⟩) (by kernel_rfl) ?_
  refine OW.fn (ar := [.own 0 1 0 4, VI 4]) (x' := ⟨[(30, .tup [VI ((spareP ([3, 1, 1, 2]) 4).1), VI ((spareP ([3, 1, 1, 2]) 4).2)]), (29, .own 0 1 0 4), (7, VI ((leastP ([3, 1, 1, 2]) 4).2)), (6, VI ((leastP ([3, 1, 1, 2]) 4).1)), (5, VI ((enoughP ([3, 1, 1, 2]) 4 (⟨9, by decide⟩ : U64).n).2)), (4, .v (.bool ((enoughP ([3, 1, 1, 2]) 4 (⟨9, by decide⟩ : U64).n).1))), (3, VI ((sumP ([3, 1, 1, 2]) (⟨5, by decide⟩ : U64).n).2)), (2, VI ((sumP ([3, 1, 1, 2]) (⟨5, by decide⟩ : U64).n).1)), (1, .own 0 1 0 4)], [some ⟨1, [[VI 3], [VI 1], [VI 1], [VI 2]]⟩]⟩) (by kernel_rfl) (by kernel_rfl) F12_call (spare_fn ([3, 1, 1, 2]) 4 (by decide)) (by kernel_rfl) (by kernel_rfl) ?_
  refine OW.last 5 [1, 2, 3, 4, 5, 6, 7, 8, 9] (x' := ⟨[(9, VI ((spareP ([3, 1, 1, 2]) 4).2)), (8, VI ((spareP ([3, 1, 1, 2]) 4).1)), (7, VI ((leastP ([3, 1, 1, 2]) 4).2)), (6, VI ((leastP ([3, 1, 1, 2]) 4).1)), (5, VI ((enoughP ([3, 1, 1, 2]) 4 (⟨9, by decide⟩ : U64).n).2)), (4, .v (.bool ((enoughP ([3, 1, 1, 2]) 4 (⟨9, by decide⟩ : U64).n).1))), (3, VI ((sumP ([3, 1, 1, 2]) (⟨5, by decide⟩ : U64).n).2)), (2, VI ((sumP ([3, 1, 1, 2]) (⟨5, by decide⟩ : U64).n).1)), (1, .own 0 1 0 4)], [some ⟨1, [[VI 3], [VI 1], [VI 1], [VI 2]]⟩]⟩) (by kernel_rfl) (by kernel_rfl) ?_
  refine EL.sreg ?_
  refine OW.run 1 (x' := ⟨[(34, .own 0 1 0 4), (9, VI ((spareP ([3, 1, 1, 2]) 4).2)), (8, VI ((spareP ([3, 1, 1, 2]) 4).1)), (7, VI ((leastP ([3, 1, 1, 2]) 4).2)), (6, VI ((leastP ([3, 1, 1, 2]) 4).1)), (5, VI ((enoughP ([3, 1, 1, 2]) 4 (⟨9, by decide⟩ : U64).n).2)), (4, .v (.bool ((enoughP ([3, 1, 1, 2]) 4 (⟨9, by decide⟩ : U64).n).1))), (3, VI ((sumP ([3, 1, 1, 2]) (⟨5, by decide⟩ : U64).n).2)), (2, VI ((sumP ([3, 1, 1, 2]) (⟨5, by decide⟩ : U64).n).1)), (1, .own 0 1 0 4)], [some ⟨1, [[VI 3], [VI 1], [VI 1], [VI 2]]⟩]⟩) (by kernel_rfl) ?_
  refine OW.fn (ar := [.own 0 1 0 4, .v (.int .u64 16)]) (x' := ⟨[(35, .tup [VI ((sumP ([3, 1, 1, 2]) (⟨16, by decide⟩ : U64).n).1), VI ((sumP ([3, 1, 1, 2]) (⟨16, by decide⟩ : U64).n).2)]), (34, .own 0 1 0 4), (9, VI ((spareP ([3, 1, 1, 2]) 4).2)), (8, VI ((spareP ([3, 1, 1, 2]) 4).1)), (7, VI ((leastP ([3, 1, 1, 2]) 4).2)), (6, VI ((leastP ([3, 1, 1, 2]) 4).1)), (5, VI ((enoughP ([3, 1, 1, 2]) 4 (⟨9, by decide⟩ : U64).n).2)), (4, .v (.bool ((enoughP ([3, 1, 1, 2]) 4 (⟨9, by decide⟩ : U64).n).1))), (3, VI ((sumP ([3, 1, 1, 2]) (⟨5, by decide⟩ : U64).n).2)), (2, VI ((sumP ([3, 1, 1, 2]) (⟨5, by decide⟩ : U64).n).1)), (1, .own 0 1 0 4)], [some ⟨1, [[VI 3], [VI 1], [VI 1], [VI 2]]⟩]⟩) (by kernel_rfl) (by kernel_rfl) F9_call (sum_fn ([3, 1, 1, 2]) (⟨16, by decide⟩ : U64) (by decide)) (by kernel_rfl) (by kernel_rfl) ?_
  refine OW.last 5 [1, 2, 3, 4, 5, 6, 7, 8, 9, 11] (x' := ⟨[(11, VI ((sumP ([3, 1, 1, 2]) (⟨16, by decide⟩ : U64).n).2)), (9, VI ((spareP ([3, 1, 1, 2]) 4).2)), (8, VI ((spareP ([3, 1, 1, 2]) 4).1)), (7, VI ((leastP ([3, 1, 1, 2]) 4).2)), (6, VI ((leastP ([3, 1, 1, 2]) 4).1)), (5, VI ((enoughP ([3, 1, 1, 2]) 4 (⟨9, by decide⟩ : U64).n).2)), (4, .v (.bool ((enoughP ([3, 1, 1, 2]) 4 (⟨9, by decide⟩ : U64).n).1))), (3, VI ((sumP ([3, 1, 1, 2]) (⟨5, by decide⟩ : U64).n).2)), (2, VI ((sumP ([3, 1, 1, 2]) (⟨5, by decide⟩ : U64).n).1)), (1, .own 0 1 0 4)], [some ⟨1, [[VI 3], [VI 1], [VI 1], [VI 2]]⟩]⟩) (by kernel_rfl) (by kernel_rfl) ?_
  refine EL.sreg ?_
  refine OW.run 3 (x' := ⟨[(40, .v (.bool (((sumP ([3, 1, 1, 2]) (⟨5, by decide⟩ : U64).n).1) == 4))), (39, .v (.bool (((sumP ([3, 1, 1, 2]) (⟨5, by decide⟩ : U64).n).1) == 4))), (38, VI ((sumP ([3, 1, 1, 2]) (⟨5, by decide⟩ : U64).n).1)), (11, VI ((sumP ([3, 1, 1, 2]) (⟨16, by decide⟩ : U64).n).2)), (9, VI ((spareP ([3, 1, 1, 2]) 4).2)), (8, VI ((spareP ([3, 1, 1, 2]) 4).1)), (7, VI ((leastP ([3, 1, 1, 2]) 4).2)), (6, VI ((leastP ([3, 1, 1, 2]) 4).1)), (5, VI ((enoughP ([3, 1, 1, 2]) 4 (⟨9, by decide⟩ : U64).n).2)), (4, .v (.bool ((enoughP ([3, 1, 1, 2]) 4 (⟨9, by decide⟩ : U64).n).1))), (3, VI ((sumP ([3, 1, 1, 2]) (⟨5, by decide⟩ : U64).n).2)), (2, VI ((sumP ([3, 1, 1, 2]) (⟨5, by decide⟩ : U64).n).1)), (1, .own 0 1 0 4)], [some ⟨1, [[VI 3], [VI 1], [VI 1], [VI 2]]⟩]⟩) (by kernel_rfl) ?_
  have h1 : (((sumP ([3, 1, 1, 2]) (⟨5, by decide⟩ : U64).n).1) == 4) = true := by first | kernel_rfl | decide
  rw [h1]
  refine OW.run 4 (x' := ⟨[(44, .v (.bool (((sumP ([3, 1, 1, 2]) (⟨5, by decide⟩ : U64).n).2) == 0))), (43, .v (.bool (((sumP ([3, 1, 1, 2]) (⟨5, by decide⟩ : U64).n).2) == 0))), (42, .v (.bool (((sumP ([3, 1, 1, 2]) (⟨5, by decide⟩ : U64).n).2) == 0))), (41, VI ((sumP ([3, 1, 1, 2]) (⟨5, by decide⟩ : U64).n).2)), (40, .v (.bool true)), (39, .v (.bool true)), (38, VI ((sumP ([3, 1, 1, 2]) (⟨5, by decide⟩ : U64).n).1)), (11, VI ((sumP ([3, 1, 1, 2]) (⟨16, by decide⟩ : U64).n).2)), (9, VI ((spareP ([3, 1, 1, 2]) 4).2)), (8, VI ((spareP ([3, 1, 1, 2]) 4).1)), (7, VI ((leastP ([3, 1, 1, 2]) 4).2)), (6, VI ((leastP ([3, 1, 1, 2]) 4).1)), (5, VI ((enoughP ([3, 1, 1, 2]) 4 (⟨9, by decide⟩ : U64).n).2)), (4, .v (.bool ((enoughP ([3, 1, 1, 2]) 4 (⟨9, by decide⟩ : U64).n).1))), (3, VI ((sumP ([3, 1, 1, 2]) (⟨5, by decide⟩ : U64).n).2)), (2, VI ((sumP ([3, 1, 1, 2]) (⟨5, by decide⟩ : U64).n).1)), (1, .own 0 1 0 4)], [some ⟨1, [[VI 3], [VI 1], [VI 1], [VI 2]]⟩]⟩) (by kernel_rfl) ?_
  have h2 : (((sumP ([3, 1, 1, 2]) (⟨5, by decide⟩ : U64).n).2) == 0) = true := by first | kernel_rfl | decide
  rw [h2]
  refine OW.run 3 (x' := ⟨[(47, .v (.bool ((enoughP ([3, 1, 1, 2]) 4 (⟨9, by decide⟩ : U64).n).1))), (46, .v (.bool ((enoughP ([3, 1, 1, 2]) 4 (⟨9, by decide⟩ : U64).n).1))), (45, .v (.bool ((enoughP ([3, 1, 1, 2]) 4 (⟨9, by decide⟩ : U64).n).1))), (44, .v (.bool true)), (43, .v (.bool true)), (42, .v (.bool true)), (41, VI ((sumP ([3, 1, 1, 2]) (⟨5, by decide⟩ : U64).n).2)), (40, .v (.bool true)), (39, .v (.bool true)), (38, VI ((sumP ([3, 1, 1, 2]) (⟨5, by decide⟩ : U64).n).1)), (11, VI ((sumP ([3, 1, 1, 2]) (⟨16, by decide⟩ : U64).n).2)), (9, VI ((spareP ([3, 1, 1, 2]) 4).2)), (8, VI ((spareP ([3, 1, 1, 2]) 4).1)), (7, VI ((leastP ([3, 1, 1, 2]) 4).2)), (6, VI ((leastP ([3, 1, 1, 2]) 4).1)), (5, VI ((enoughP ([3, 1, 1, 2]) 4 (⟨9, by decide⟩ : U64).n).2)), (4, .v (.bool ((enoughP ([3, 1, 1, 2]) 4 (⟨9, by decide⟩ : U64).n).1))), (3, VI ((sumP ([3, 1, 1, 2]) (⟨5, by decide⟩ : U64).n).2)), (2, VI ((sumP ([3, 1, 1, 2]) (⟨5, by decide⟩ : U64).n).1)), (1, .own 0 1 0 4)], [some ⟨1, [[VI 3], [VI 1], [VI 1], [VI 2]]⟩]⟩) (by kernel_rfl) ?_
  have h3 : (enoughP ([3, 1, 1, 2]) 4 (⟨9, by decide⟩ : U64).n).1 = true := by first | kernel_rfl | decide
  rw [h3]
  refine OW.run 4 (x' := ⟨[(51, .v (.bool (((enoughP ([3, 1, 1, 2]) 4 (⟨9, by decide⟩ : U64).n).2) == 0))), (50, .v (.bool (((enoughP ([3, 1, 1, 2]) 4 (⟨9, by decide⟩ : U64).n).2) == 0))), (49, .v (.bool (((enoughP ([3, 1, 1, 2]) 4 (⟨9, by decide⟩ : U64).n).2) == 0))), (48, VI ((enoughP ([3, 1, 1, 2]) 4 (⟨9, by decide⟩ : U64).n).2)), (47, .v (.bool true)), (46, .v (.bool true)), (45, .v (.bool true)), (44, .v (.bool true)), (43, .v (.bool true)), (42, .v (.bool true)), (41, VI ((sumP ([3, 1, 1, 2]) (⟨5, by decide⟩ : U64).n).2)), (40, .v (.bool true)), (39, .v (.bool true)), (38, VI ((sumP ([3, 1, 1, 2]) (⟨5, by decide⟩ : U64).n).1)), (11, VI ((sumP ([3, 1, 1, 2]) (⟨16, by decide⟩ : U64).n).2)), (9, VI ((spareP ([3, 1, 1, 2]) 4).2)), (8, VI ((spareP ([3, 1, 1, 2]) 4).1)), (7, VI ((leastP ([3, 1, 1, 2]) 4).2)), (6, VI ((leastP ([3, 1, 1, 2]) 4).1)), (5, VI ((enoughP ([3, 1, 1, 2]) 4 (⟨9, by decide⟩ : U64).n).2)), (4, .v (.bool true)), (3, VI ((sumP ([3, 1, 1, 2]) (⟨5, by decide⟩ : U64).n).2)), (2, VI ((sumP ([3, 1, 1, 2]) (⟨5, by decide⟩ : U64).n).1)), (1, .own 0 1 0 4)], [some ⟨1, [[VI 3], [VI 1], [VI 1], [VI 2]]⟩]⟩) (by kernel_rfl) ?_
  have h4 : (((enoughP ([3, 1, 1, 2]) 4 (⟨9, by decide⟩ : U64).n).2) == 0) = true := by first | kernel_rfl | decide
  rw [h4]
  refine OW.run 4 (x' := ⟨[(55, .v (.bool (((leastP ([3, 1, 1, 2]) 4).1) == 2))), (54, .v (.bool (((leastP ([3, 1, 1, 2]) 4).1) == 2))), (53, .v (.bool (((leastP ([3, 1, 1, 2]) 4).1) == 2))), (52, VI ((leastP ([3, 1, 1, 2]) 4).1)), (51, .v (.bool true)), (50, .v (.bool true)), (49, .v (.bool true)), (48, VI ((enoughP ([3, 1, 1, 2]) 4 (⟨9, by decide⟩ : U64).n).2)), (47, .v (.bool true)), (46, .v (.bool true)), (45, .v (.bool true)), (44, .v (.bool true)), (43, .v (.bool true)), (42, .v (.bool true)), (41, VI ((sumP ([3, 1, 1, 2]) (⟨5, by decide⟩ : U64).n).2)), (40, .v (.bool true)), (39, .v (.bool true)), (38, VI ((sumP ([3, 1, 1, 2]) (⟨5, by decide⟩ : U64).n).1)), (11, VI ((sumP ([3, 1, 1, 2]) (⟨16, by decide⟩ : U64).n).2)), (9, VI ((spareP ([3, 1, 1, 2]) 4).2)), (8, VI ((spareP ([3, 1, 1, 2]) 4).1)), (7, VI ((leastP ([3, 1, 1, 2]) 4).2)), (6, VI ((leastP ([3, 1, 1, 2]) 4).1)), (5, VI ((enoughP ([3, 1, 1, 2]) 4 (⟨9, by decide⟩ : U64).n).2)), (4, .v (.bool true)), (3, VI ((sumP ([3, 1, 1, 2]) (⟨5, by decide⟩ : U64).n).2)), (2, VI ((sumP ([3, 1, 1, 2]) (⟨5, by decide⟩ : U64).n).1)), (1, .own 0 1 0 4)], [some ⟨1, [[VI 3], [VI 1], [VI 1], [VI 2]]⟩]⟩) (by kernel_rfl) ?_
  have h5 : (((leastP ([3, 1, 1, 2]) 4).1) == 2) = true := by first | kernel_rfl | decide
  rw [h5]
  refine OW.run 4 (x' := ⟨[(59, .v (.bool (((leastP ([3, 1, 1, 2]) 4).2) == 0))), (58, .v (.bool (((leastP ([3, 1, 1, 2]) 4).2) == 0))), (57, .v (.bool (((leastP ([3, 1, 1, 2]) 4).2) == 0))), (56, VI ((leastP ([3, 1, 1, 2]) 4).2)), (55, .v (.bool true)), (54, .v (.bool true)), (53, .v (.bool true)), (52, VI ((leastP ([3, 1, 1, 2]) 4).1)), (51, .v (.bool true)), (50, .v (.bool true)), (49, .v (.bool true)), (48, VI ((enoughP ([3, 1, 1, 2]) 4 (⟨9, by decide⟩ : U64).n).2)), (47, .v (.bool true)), (46, .v (.bool true)), (45, .v (.bool true)), (44, .v (.bool true)), (43, .v (.bool true)), (42, .v (.bool true)), (41, VI ((sumP ([3, 1, 1, 2]) (⟨5, by decide⟩ : U64).n).2)), (40, .v (.bool true)), (39, .v (.bool true)), (38, VI ((sumP ([3, 1, 1, 2]) (⟨5, by decide⟩ : U64).n).1)), (11, VI ((sumP ([3, 1, 1, 2]) (⟨16, by decide⟩ : U64).n).2)), (9, VI ((spareP ([3, 1, 1, 2]) 4).2)), (8, VI ((spareP ([3, 1, 1, 2]) 4).1)), (7, VI ((leastP ([3, 1, 1, 2]) 4).2)), (6, VI ((leastP ([3, 1, 1, 2]) 4).1)), (5, VI ((enoughP ([3, 1, 1, 2]) 4 (⟨9, by decide⟩ : U64).n).2)), (4, .v (.bool true)), (3, VI ((sumP ([3, 1, 1, 2]) (⟨5, by decide⟩ : U64).n).2)), (2, VI ((sumP ([3, 1, 1, 2]) (⟨5, by decide⟩ : U64).n).1)), (1, .own 0 1 0 4)], [some ⟨1, [[VI 3], [VI 1], [VI 1], [VI 2]]⟩]⟩) (by kernel_rfl) ?_
  have h6 : (((leastP ([3, 1, 1, 2]) 4).2) == 0) = true := by first | kernel_rfl | decide
  rw [h6]
  refine OW.run 4 (x' := ⟨[(63, .v (.bool (((spareP ([3, 1, 1, 2]) 4).1) == 1))), (62, .v (.bool (((spareP ([3, 1, 1, 2]) 4).1) == 1))), (61, .v (.bool (((spareP ([3, 1, 1, 2]) 4).1) == 1))), (60, VI ((spareP ([3, 1, 1, 2]) 4).1)), (59, .v (.bool true)), (58, .v (.bool true)), (57, .v (.bool true)), (56, VI ((leastP ([3, 1, 1, 2]) 4).2)), (55, .v (.bool true)), (54, .v (.bool true)), (53, .v (.bool true)), (52, VI ((leastP ([3, 1, 1, 2]) 4).1)), (51, .v (.bool true)), (50, .v (.bool true)), (49, .v (.bool true)), (48, VI ((enoughP ([3, 1, 1, 2]) 4 (⟨9, by decide⟩ : U64).n).2)), (47, .v (.bool true)), (46, .v (.bool true)), (45, .v (.bool true)), (44, .v (.bool true)), (43, .v (.bool true)), (42, .v (.bool true)), (41, VI ((sumP ([3, 1, 1, 2]) (⟨5, by decide⟩ : U64).n).2)), (40, .v (.bool true)), (39, .v (.bool true)), (38, VI ((sumP ([3, 1, 1, 2]) (⟨5, by decide⟩ : U64).n).1)), (11, VI ((sumP ([3, 1, 1, 2]) (⟨16, by decide⟩ : U64).n).2)), (9, VI ((spareP ([3, 1, 1, 2]) 4).2)), (8, VI ((spareP ([3, 1, 1, 2]) 4).1)), (7, VI ((leastP ([3, 1, 1, 2]) 4).2)), (6, VI ((leastP ([3, 1, 1, 2]) 4).1)), (5, VI ((enoughP ([3, 1, 1, 2]) 4 (⟨9, by decide⟩ : U64).n).2)), (4, .v (.bool true)), (3, VI ((sumP ([3, 1, 1, 2]) (⟨5, by decide⟩ : U64).n).2)), (2, VI ((sumP ([3, 1, 1, 2]) (⟨5, by decide⟩ : U64).n).1)), (1, .own 0 1 0 4)], [some ⟨1, [[VI 3], [VI 1], [VI 1], [VI 2]]⟩]⟩) (by kernel_rfl) ?_
  have h7 : (((spareP ([3, 1, 1, 2]) 4).1) == 1) = true := by first | kernel_rfl | decide
  rw [h7]
  refine OW.run 4 (x' := ⟨[(67, .v (.bool (((spareP ([3, 1, 1, 2]) 4).2) == 0))), (66, .v (.bool (((spareP ([3, 1, 1, 2]) 4).2) == 0))), (65, .v (.bool (((spareP ([3, 1, 1, 2]) 4).2) == 0))), (64, VI ((spareP ([3, 1, 1, 2]) 4).2)), (63, .v (.bool true)), (62, .v (.bool true)), (61, .v (.bool true)), (60, VI ((spareP ([3, 1, 1, 2]) 4).1)), (59, .v (.bool true)), (58, .v (.bool true)), (57, .v (.bool true)), (56, VI ((leastP ([3, 1, 1, 2]) 4).2)), (55, .v (.bool true)), (54, .v (.bool true)), (53, .v (.bool true)), (52, VI ((leastP ([3, 1, 1, 2]) 4).1)), (51, .v (.bool true)), (50, .v (.bool true)), (49, .v (.bool true)), (48, VI ((enoughP ([3, 1, 1, 2]) 4 (⟨9, by decide⟩ : U64).n).2)), (47, .v (.bool true)), (46, .v (.bool true)), (45, .v (.bool true)), (44, .v (.bool true)), (43, .v (.bool true)), (42, .v (.bool true)), (41, VI ((sumP ([3, 1, 1, 2]) (⟨5, by decide⟩ : U64).n).2)), (40, .v (.bool true)), (39, .v (.bool true)), (38, VI ((sumP ([3, 1, 1, 2]) (⟨5, by decide⟩ : U64).n).1)), (11, VI ((sumP ([3, 1, 1, 2]) (⟨16, by decide⟩ : U64).n).2)), (9, VI ((spareP ([3, 1, 1, 2]) 4).2)), (8, VI ((spareP ([3, 1, 1, 2]) 4).1)), (7, VI ((leastP ([3, 1, 1, 2]) 4).2)), (6, VI ((leastP ([3, 1, 1, 2]) 4).1)), (5, VI ((enoughP ([3, 1, 1, 2]) 4 (⟨9, by decide⟩ : U64).n).2)), (4, .v (.bool true)), (3, VI ((sumP ([3, 1, 1, 2]) (⟨5, by decide⟩ : U64).n).2)), (2, VI ((sumP ([3, 1, 1, 2]) (⟨5, by decide⟩ : U64).n).1)), (1, .own 0 1 0 4)], [some ⟨1, [[VI 3], [VI 1], [VI 1], [VI 2]]⟩]⟩) (by kernel_rfl) ?_
  have h8 : (((spareP ([3, 1, 1, 2]) 4).2) == 0) = true := by first | kernel_rfl | decide
  rw [h8]
  refine OW.run 4 (x' := ⟨[(71, .v (.bool (((sumP ([3, 1, 1, 2]) (⟨16, by decide⟩ : U64).n).2) == 3))), (70, .v (.bool (((sumP ([3, 1, 1, 2]) (⟨16, by decide⟩ : U64).n).2) == 3))), (69, .v (.bool (((sumP ([3, 1, 1, 2]) (⟨16, by decide⟩ : U64).n).2) == 3))), (68, VI ((sumP ([3, 1, 1, 2]) (⟨16, by decide⟩ : U64).n).2)), (67, .v (.bool true)), (66, .v (.bool true)), (65, .v (.bool true)), (64, VI ((spareP ([3, 1, 1, 2]) 4).2)), (63, .v (.bool true)), (62, .v (.bool true)), (61, .v (.bool true)), (60, VI ((spareP ([3, 1, 1, 2]) 4).1)), (59, .v (.bool true)), (58, .v (.bool true)), (57, .v (.bool true)), (56, VI ((leastP ([3, 1, 1, 2]) 4).2)), (55, .v (.bool true)), (54, .v (.bool true)), (53, .v (.bool true)), (52, VI ((leastP ([3, 1, 1, 2]) 4).1)), (51, .v (.bool true)), (50, .v (.bool true)), (49, .v (.bool true)), (48, VI ((enoughP ([3, 1, 1, 2]) 4 (⟨9, by decide⟩ : U64).n).2)), (47, .v (.bool true)), (46, .v (.bool true)), (45, .v (.bool true)), (44, .v (.bool true)), (43, .v (.bool true)), (42, .v (.bool true)), (41, VI ((sumP ([3, 1, 1, 2]) (⟨5, by decide⟩ : U64).n).2)), (40, .v (.bool true)), (39, .v (.bool true)), (38, VI ((sumP ([3, 1, 1, 2]) (⟨5, by decide⟩ : U64).n).1)), (11, VI ((sumP ([3, 1, 1, 2]) (⟨16, by decide⟩ : U64).n).2)), (9, VI ((spareP ([3, 1, 1, 2]) 4).2)), (8, VI ((spareP ([3, 1, 1, 2]) 4).1)), (7, VI ((leastP ([3, 1, 1, 2]) 4).2)), (6, VI ((leastP ([3, 1, 1, 2]) 4).1)), (5, VI ((enoughP ([3, 1, 1, 2]) 4 (⟨9, by decide⟩ : U64).n).2)), (4, .v (.bool true)), (3, VI ((sumP ([3, 1, 1, 2]) (⟨5, by decide⟩ : U64).n).2)), (2, VI ((sumP ([3, 1, 1, 2]) (⟨5, by decide⟩ : U64).n).1)), (1, .own 0 1 0 4)], [some ⟨1, [[VI 3], [VI 1], [VI 1], [VI 2]]⟩]⟩) (by kernel_rfl) ?_
  have h9 : (((sumP ([3, 1, 1, 2]) (⟨16, by decide⟩ : U64).n).2) == 3) = true := by first | kernel_rfl | decide
  rw [h9]
  refine OW.run 1 (x' := ⟨[(72, .own 0 1 0 4), (71, .v (.bool true)), (70, .v (.bool true)), (69, .v (.bool true)), (68, VI ((sumP ([3, 1, 1, 2]) (⟨16, by decide⟩ : U64).n).2)), (67, .v (.bool true)), (66, .v (.bool true)), (65, .v (.bool true)), (64, VI ((spareP ([3, 1, 1, 2]) 4).2)), (63, .v (.bool true)), (62, .v (.bool true)), (61, .v (.bool true)), (60, VI ((spareP ([3, 1, 1, 2]) 4).1)), (59, .v (.bool true)), (58, .v (.bool true)), (57, .v (.bool true)), (56, VI ((leastP ([3, 1, 1, 2]) 4).2)), (55, .v (.bool true)), (54, .v (.bool true)), (53, .v (.bool true)), (52, VI ((leastP ([3, 1, 1, 2]) 4).1)), (51, .v (.bool true)), (50, .v (.bool true)), (49, .v (.bool true)), (48, VI ((enoughP ([3, 1, 1, 2]) 4 (⟨9, by decide⟩ : U64).n).2)), (47, .v (.bool true)), (46, .v (.bool true)), (45, .v (.bool true)), (44, .v (.bool true)), (43, .v (.bool true)), (42, .v (.bool true)), (41, VI ((sumP ([3, 1, 1, 2]) (⟨5, by decide⟩ : U64).n).2)), (40, .v (.bool true)), (39, .v (.bool true)), (38, VI ((sumP ([3, 1, 1, 2]) (⟨5, by decide⟩ : U64).n).1)), (11, VI ((sumP ([3, 1, 1, 2]) (⟨16, by decide⟩ : U64).n).2)), (9, VI ((spareP ([3, 1, 1, 2]) 4).2)), (8, VI ((spareP ([3, 1, 1, 2]) 4).1)), (7, VI ((leastP ([3, 1, 1, 2]) 4).2)), (6, VI ((leastP ([3, 1, 1, 2]) 4).1)), (5, VI ((enoughP ([3, 1, 1, 2]) 4 (⟨9, by decide⟩ : U64).n).2)), (4, .v (.bool true)), (3, VI ((sumP ([3, 1, 1, 2]) (⟨5, by decide⟩ : U64).n).2)), (2, VI ((sumP ([3, 1, 1, 2]) (⟨5, by decide⟩ : U64).n).1)), (1, .own 0 1 0 4)], [some ⟨1, [[VI 3], [VI 1], [VI 1], [VI 2]]⟩]⟩) (by kernel_rfl) ?_
  refine OW.fn (ar := [.own 0 1 0 4, VI 3]) (x' := ⟨[(73, VI (qcheckP ([3, 1, 1, 2]) 3)), (72, .own 0 1 0 4), (71, .v (.bool true)), (70, .v (.bool true)), (69, .v (.bool true)), (68, VI ((sumP ([3, 1, 1, 2]) (⟨16, by decide⟩ : U64).n).2)), (67, .v (.bool true)), (66, .v (.bool true)), (65, .v (.bool true)), (64, VI ((spareP ([3, 1, 1, 2]) 4).2)), (63, .v (.bool true)), (62, .v (.bool true)), (61, .v (.bool true)), (60, VI ((spareP ([3, 1, 1, 2]) 4).1)), (59, .v (.bool true)), (58, .v (.bool true)), (57, .v (.bool true)), (56, VI ((leastP ([3, 1, 1, 2]) 4).2)), (55, .v (.bool true)), (54, .v (.bool true)), (53, .v (.bool true)), (52, VI ((leastP ([3, 1, 1, 2]) 4).1)), (51, .v (.bool true)), (50, .v (.bool true)), (49, .v (.bool true)), (48, VI ((enoughP ([3, 1, 1, 2]) 4 (⟨9, by decide⟩ : U64).n).2)), (47, .v (.bool true)), (46, .v (.bool true)), (45, .v (.bool true)), (44, .v (.bool true)), (43, .v (.bool true)), (42, .v (.bool true)), (41, VI ((sumP ([3, 1, 1, 2]) (⟨5, by decide⟩ : U64).n).2)), (40, .v (.bool true)), (39, .v (.bool true)), (38, VI ((sumP ([3, 1, 1, 2]) (⟨5, by decide⟩ : U64).n).1)), (11, VI ((sumP ([3, 1, 1, 2]) (⟨16, by decide⟩ : U64).n).2)), (9, VI ((spareP ([3, 1, 1, 2]) 4).2)), (8, VI ((spareP ([3, 1, 1, 2]) 4).1)), (7, VI ((leastP ([3, 1, 1, 2]) 4).2)), (6, VI ((leastP ([3, 1, 1, 2]) 4).1)), (5, VI ((enoughP ([3, 1, 1, 2]) 4 (⟨9, by decide⟩ : U64).n).2)), (4, .v (.bool true)), (3, VI ((sumP ([3, 1, 1, 2]) (⟨5, by decide⟩ : U64).n).2)), (2, VI ((sumP ([3, 1, 1, 2]) (⟨5, by decide⟩ : U64).n).1)), (1, .own 0 1 0 4)], [some ⟨1, [[VI 3], [VI 1], [VI 1], [VI 2]]⟩]⟩) (by kernel_rfl) (by kernel_rfl) F18_call (qcheck_fn ([3, 1, 1, 2]) 3 (by decide)) (by kernel_rfl) (by kernel_rfl) ?_
  refine OW.last 3 [0] (x' := ⟨[(0, .v (.bool ((qcheckP ([3, 1, 1, 2]) 3) == 4)))], [some ⟨1, [[VI 3], [VI 1], [VI 1], [VI 2]]⟩]⟩) (by kernel_rfl) (by kernel_rfl) ?_
  refine EL.ret ?_
  refine ⟨.inr rfl, .v (.bool ((qcheckP ([3, 1, 1, 2]) 3) == 4)), by kernel_rfl, Ale.of_eq ?_⟩
  focus (rfl)
end Go.Proofs.YtfgjfghljhldfaaDoor
