/- What the references for quorums and bids answer. No condition. -/
import Derived.Test.YtejilglnpdjepaaDoorPSeatE
set_option maxRecDepth 100000
set_option maxHeartbeats 4000000
set_option linter.unusedVariables false
set_option linter.unusedSimpArgs false
namespace Go.Proofs.YtejilglnpdjepaaDoor
theorem shr_n {n : Nat} {d : Int} (h : 0 ≤ d ∧ n < 18446744073709551616) : ((n : Int)).fdiv (2 ^ (min (Int.toNat d) IntKind.u64.bits)) = ((n / 2 ^ Int.toNat d : Nat) : Int) := by
  have hb : IntKind.u64.bits = 64 := rfl
  rw [hb, Int.fdiv_eq_ediv_of_nonneg _ (Int.le_of_lt (Int.pow_pos (by decide)))]
  by_cases h2 : Int.toNat d ≤ 64
  · rw [Nat.min_eq_left h2, show ((2 : Int) ^ (Int.toNat d)) = ((2 ^ (Int.toNat d) : Nat) : Int) by push_cast; rfl]; rfl
  · have hp : 2 ^ 64 ≤ 2 ^ Int.toNat d := Nat.pow_le_pow_right (by decide) (by omega)
    rw [Nat.min_eq_right (by omega), Nat.div_eq_of_lt (Nat.lt_of_lt_of_le h.2 (by simpa using hp))]
    show (n : Int) / 18446744073709551616 = 0
    omega
/-- Node k is in the set x. -/
def inS (x k : Nat) : Bool := x / 2 ^ k % 2 == 1
theorem inS_b {x k : Nat} : ((((x / 2 ^ k : Nat) : Int) % 2 == 1) : Bool) = inS x k := by
  unfold inS; generalize x / 2 ^ k = q
  rw [Bool.eq_iff_iff]; simp; omega
/-- What is left of a set from node k on. -/
def shN (x k : Nat) : Nat := x / 2 ^ k
theorem shN_0 {x : Nat} : shN x 0 = x := by simp [shN]
theorem bsum_step {w : Int} {r : List Int} {x k : Nat} : bsum (w :: r) (shN x k) = (if inS x k = true then w else 0) + bsum r (shN x (k + 1)) := by
  unfold shN inS
  rw [bsum, Nat.pow_succ, Nat.div_div_eq_div_mul]
  simp
theorem bsum_at {ws : List Int} {x k : Nat} (h : k < ws.length) : bsum (ws.drop k) (shN x k) = (if inS x k = true then (ws[k]?).getD 0 else 0) + bsum (ws.drop (k + 1)) (shN x (k + 1)) := by
  rw [List.drop_eq_getElem_cons h, bsum_step]; simp [h]
theorem or_two (a b i : Nat) (hi : i < 2) : (2 * a + i) ||| (2 * b) = 2 * (a ||| b) + i := by
  apply Nat.eq_of_testBit_eq
  intro j
  cases j with
  | zero =>
    rw [Nat.testBit_or, Nat.testBit_zero, Nat.testBit_zero, Nat.testBit_zero]
    rw [Bool.eq_iff_iff]; simp
  | succ j =>
    rw [Nat.testBit_or, Nat.testBit_succ, Nat.testBit_succ, Nat.testBit_succ, show (2 * a + i) / 2 = a by omega, show 2 * b / 2 = b by omega, show (2 * (a ||| b) + i) / 2 = (a ||| b) by omega, Nat.testBit_or]
theorem or_bit : ∀ (k x : Nat), x / 2 ^ k % 2 = 0 → x ||| 2 ^ k = x + 2 ^ k
  | 0, x, h => by
    have e : x = 2 * (x / 2) := by simp at h; omega
    apply Nat.eq_of_testBit_eq
    intro j
    cases j with
    | zero => rw [Nat.testBit_or, Nat.testBit_zero, Nat.testBit_zero, Nat.testBit_zero, Bool.eq_iff_iff]; simp at h ⊢; omega
    | succ j => rw [Nat.testBit_or, Nat.testBit_succ, Nat.testBit_succ, Nat.testBit_succ, show (x + 2 ^ 0) / 2 = x / 2 by simp; omega]; simp
  | k + 1, x, h => by
    have hp : 2 ^ (k + 1) = 2 * 2 ^ k := by rw [Nat.pow_succ]; omega
    have ih := or_bit k (x / 2) (by rw [Nat.div_div_eq_div_mul, Nat.mul_comm, ← Nat.pow_succ]; exact h)
    have e : x = 2 * (x / 2) + x % 2 := by omega
    rw [hp]
    conv => lhs; lhs; rw [e]
    rw [or_two _ _ _ (by omega), ih]; omega
theorem addU {x : U64} {k : Nat} (h : k < 64 ∧ inS x.n k = false) : IntKind.u64.wrap ((x.n : Int) + ((2 ^ k : Nat) : Int)) = ((orU x k).n : Int) := by
  have hb : x.n / 2 ^ k % 2 = 0 := by have := h.2; unfold inS at this; simp at this; omega
  have e := or_bit k x.n hb
  have hl : x.n ||| 2 ^ k < 18446744073709551616 := by
    have := Nat.or_lt_two_pow (n := 64) (by simpa using x.lt) (by simpa using pow_lt64 h.1); simpa using this
  show _ = (((x.n ||| 2 ^ k) % 18446744073709551616 : Nat) : Int)
  rw [Nat.mod_eq_of_lt hl, e, IntKind.wrap_u64]
  rw [e] at hl
  generalize (2 : Nat) ^ k = p at *
  omega
theorem and_bit' : ∀ (k x : Nat), x &&& 2 ^ k = 0 ↔ x / 2 ^ k % 2 = 0
  | 0, x => by simp
  | k + 1, x => by
    have hp : 2 ^ (k + 1) = 2 * 2 ^ k + 0 := by rw [Nat.pow_succ]; omega
    have e : x = 2 * (x / 2) + x % 2 := by omega
    have ih := and_bit' k (x / 2)
    rw [Nat.div_div_eq_div_mul, Nat.mul_comm 2, ← Nat.pow_succ] at ih
    rw [← ih, hp]
    conv => lhs; lhs; lhs; rw [e]
    rw [land_two _ _ _ _ (by omega) (by omega)]; simp; omega
theorem and_bit {x : U64} {k : Nat} : (andU x k).n = 0 ↔ inS x.n k = false := by
  have hl : x.n &&& 2 ^ k < 18446744073709551616 := Nat.lt_of_le_of_lt Nat.and_le_left x.lt
  show (x.n &&& 2 ^ k) % 18446744073709551616 = 0 ↔ _
  rw [Nat.mod_eq_of_lt hl, and_bit']
  unfold inS; simp
theorem or_sub {x : U64} {k n : Nat} (hx : x.n < 2 ^ n) (hk : k < n) (hn : n ≤ 12) : (orU x k).n < 2 ^ n := by
  have hl : x.n ||| 2 ^ k < 2 ^ n := Nat.or_lt_two_pow hx (Nat.pow_lt_pow_right (by decide) hk)
  show (x.n ||| 2 ^ k) % 18446744073709551616 < 2 ^ n
  exact Nat.lt_of_le_of_lt (Nat.mod_le _ _) hl
theorem qc_nodes {ws : List Int} {need : Int} (h : qcheckP ws need = 0) : (nodesP ws).2 = 0 := by
  unfold qcheckP at h
  by_cases hn : (nodesP ws).2 = 0
  · exact hn
  · rw [if_pos hn] at h; exact absurd h hn
theorem qc_len {ws : List Int} {need : Int} (h : qcheckP ws need = 0) : ws.length ≤ 12 := (nodes_bd (qc_nodes h)).2.2.2.1
abbrev sfq0 (k : Int) (x : U64) : LS := [(6, VI k), (5, .v (.int .u64 (x.n : Int))), (0, .v (.int .u64 (x.n : Int))), (1, VI k)]
abbrev sfq1 (x : U64) (k : Int) : LS := (7, .v (.int .u64 ((x.n / 2 ^ Int.toNat k : Nat) : Int))) :: (sfq0 k x)
theorem inset_fn (x : U64) (k : Int) (hk0 : 0 ≤ k) : Fn Tryd.prog 40 [.v (.int .u64 (x.n : Int)), VI k] (.v (.bool (inS x.n (Int.toNat k)))) := by
  refine fn_walkW F40_ok (of_decide_eq_true (by kernel_rfl)) ?_
  refine EL.sreg ?_
  refine OW.last 1 [0, 1] (x' := ⟨[(0, .v (.int .u64 (x.n : Int))), (1, VI k)], []⟩) (by kernel_rfl) (by kernel_rfl) ?_
  refine EL.sreg ?_
  refine OW.run 2 (x' := ⟨(sfq0 k x), []⟩) (by kernel_rfl) ?_
  refine OW.ope (v := .v (.int .u64 (((x.n : Int)).fdiv (2 ^ (min (Int.toNat k) IntKind.u64.bits))))) (u := []) (acc := []) (x' := ⟨(7, .v (.int .u64 (((x.n : Int)).fdiv (2 ^ (min (Int.toNat k) IntKind.u64.bits))))) :: (sfq0 k x), []⟩) (by kernel_rfl) (opE_shr (.s 5) (.s 6) .u64 .i64 (x.n : Int) k (by kernel_rfl) (by kernel_rfl) (by kernel_rfl) (by kernel_rfl) (by omega)) (by kernel_rfl) ?_
  have e1 : ((x.n : Int)).fdiv (2 ^ (min (Int.toNat k) IntKind.u64.bits)) = ((x.n / 2 ^ Int.toNat k : Nat) : Int) := shr_n (by exact ⟨hk0, x.lt⟩)
  rw [e1]
  refine OW.run 3 (x' := ⟨(4, .v (.bool (((((x.n / 2 ^ Int.toNat k : Nat) : Int)).tmod 2) == 1))) :: (9, .v (.bool (((((x.n / 2 ^ Int.toNat k : Nat) : Int)).tmod 2) == 1))) :: (8, .v (.int .u64 ((((x.n / 2 ^ Int.toNat k : Nat) : Int)).tmod 2))) :: (sfq1 x k), []⟩) (by kernel_rfl) ?_
  have e2 : (((x.n / 2 ^ Int.toNat k : Nat) : Int)).tmod 2 = ((x.n / 2 ^ Int.toNat k : Nat) : Int) % 2 := rem64 (by generalize x.n / 2 ^ Int.toNat k = q; omega)
  rw [e2]
  refine OW.last 0 [4] (x' := ⟨[(4, .v (.bool ((((x.n / 2 ^ Int.toNat k : Nat) : Int) % 2) == 1)))], []⟩) (by kernel_rfl) (by kernel_rfl) ?_
  refine EL.ret ?_
  refine ⟨.inr rfl, .v (.bool ((((x.n / 2 ^ Int.toNat k : Nat) : Int) % 2) == 1)), by kernel_rfl, Ale.of_eq ?_⟩
  focus (exact congrArg (fun b => AV.v (Value.bool b)) inS_b)
abbrev sfq2 (ws : List Int) : LS := [(7, VI (List.length ws : Int)), (6, .lst 1 (ws.map cI)), (0, .lst 1 (ws.map cI))]
abbrev sfq3 (ws : List Int) : LS := [(9, .lst 1 (ws.map cI)), (8, .v (.bool false)), (0, .lst 1 (ws.map cI))]
abbrev sfq4 (ws : List Int) : LS := [(5, VI 0), (4, VI 0), (0, .lst 1 (ws.map cI))]
abbrev sfq5 (ws : List Int) (a : Int) (k : Nat) : LS := [(0, .lst 1 (ws.map cI)), (4, VI a), (5, VI (k : Int))]
abbrev sfq6 (ws : List Int) (k : Nat) (a : Int) : LS := (13, .lst 1 (ws.map cI)) :: (12, VI (k : Int)) :: (sfq5 ws a k)
abbrev sfq7 (k : Nat) (ws : List Int) (a : Int) : LS := (19, VI (k : Int)) :: (18, .lst 1 (ws.map cI)) :: (15, .v (.bool true)) :: (sfq5 ws a k)
abbrev sfq8 (k : Nat) (ws : List Int) (a6 : Int) (a : Int) : LS := (25, VI (k : Int)) :: (24, .lst 1 (ws.map cI)) :: (23, .v (.bool false)) :: (22, .v (.bool false)) :: (21, VI a6) :: (20, .pim [VI a6] 0) :: (sfq7 k ws a)
abbrev sfq9 (k : Nat) (ws : List Int) (a : Int) : LS := (32, VI (k : Int)) :: (31, .lst 1 (ws.map cI)) :: (30, VI a) :: (29, .v (.bool false)) :: (sfq5 ws a k)
abbrev sfq10 (a6 : Int) (k : Nat) (ws : List Int) (a : Int) : LS := [(34, VI a6), (33, .pim [VI a6] 0), (32, VI (k : Int)), (31, .lst 1 (ws.map cI)), (30, VI a), (29, .v (.bool false)), (0, .lst 1 (ws.map cI)), (5, VI (k : Int))]
abbrev sfq11 (k : Nat) (a : Int) (a6 : Int) (ws : List Int) : LS := [(16, VI (k : Int)), (4, VI (a + a6)), (35, VI (a + a6)), (34, VI a6), (33, .pim [VI a6] 0), (32, VI (k : Int)), (31, .lst 1 (ws.map cI)), (30, VI a), (29, .v (.bool false)), (0, .lst 1 (ws.map cI))]
abbrev sfq12 (k : Nat) (a : Int) (a6 : Int) (ws : List Int) : LS := (5, VI ((k : Int) + 1)) :: (17, VI ((k : Int) + 1)) :: (sfq11 k a a6 ws)
theorem weights_fn (ws : List Int) (hx : ws.length ≤ 9223372036854775807) : Fn Tryd.prog 51 [.lst 1 (ws.map cI)] (.tup [VI ((nodesP ws).1), VI ((nodesP ws).2)]) := by
  refine fn_walkW F51_ok (of_decide_eq_true (by kernel_rfl)) ?_
  refine EL.sreg ?_
  refine OW.last 2 [0] (x' := ⟨[(0, .lst 1 (ws.map cI))], []⟩) (by kernel_rfl) (by kernel_rfl) ?_
  refine EL.seq ?_
  refine EL.sreg ?_
  refine OW.run 1 (x' := ⟨[(6, .lst 1 (ws.map cI)), (0, .lst 1 (ws.map cI))], []⟩) (by kernel_rfl) ?_
  refine OW.ope (v := VI (List.length ws : Int)) (u := []) (acc := []) (x' := ⟨(sfq2 ws), []⟩) (by kernel_rfl) (opE_len cI ws (.s 6) 1 (by kernel_rfl) (by kernel_rfl) (.inl rfl)) (by kernel_rfl) ?_
  refine OW.last 1 [0, 8] (x' := ⟨[(8, .v (.bool ((List.length ws : Int) == 0))), (0, .lst 1 (ws.map cI))], []⟩) (by kernel_rfl) (by kernel_rfl) ?_
  rcases Bool.eq_false_or_eq_true (((List.length ws : Int) == 0)) with h1 | h1
  rw [h1]
  have g1 : ((List.length ws : Int) = 0) := by simpa using h1
  have n1 : ((List.length ws) = 0) := by omega
  refine EL.condT (by kernel_rfl) ?_
  refine EL.sreg ?_
  refine OW.last 2 [2, 3] (x' := ⟨[(3, VI 8), (2, VI 0)], []⟩) (by kernel_rfl) (by kernel_rfl) ?_
  refine EL.ret ?_
  refine thenL_ret ?_
  refine ⟨.inr rfl, .tup [VI 0, VI 8], by kernel_rfl, Ale.of_eq ?_⟩
  focus (first | (rw [nodesP, if_pos (by omega)]; done) | (rw [nodesP, if_neg (by omega), if_pos (by omega)]; done) | (rw [nodesP, if_neg (by omega), if_neg (by omega), hs]; first | (rw [List.drop_eq_nil_of_le (by omega)]; rfl) | (rw [‹ws.drop k = _›, nodesGo, if_neg (by omega)]; done)) | trace_state)
  rw [h1]
  have g1 : ¬ ((List.length ws : Int) = 0) := by simpa using h1
  have n1 : ¬ ((List.length ws) = 0) := by omega
  refine EL.condF (by kernel_rfl) ?_
  refine EL.skip ?_
  refine thenL_norm ?_
  refine EL.seq ?_
  refine EL.sreg ?_
  refine OW.run 1 (x' := ⟨(sfq3 ws), []⟩) (by kernel_rfl) ?_
  refine OW.ope (v := VI (List.length ws : Int)) (u := []) (acc := []) (x' := ⟨(10, VI (List.length ws : Int)) :: (sfq3 ws), []⟩) (by kernel_rfl) (opE_len cI ws (.s 9) 1 (by kernel_rfl) (by kernel_rfl) (.inl rfl)) (by kernel_rfl) ?_
  refine OW.last 1 [0, 11] (x' := ⟨[(11, .v (.bool (decide ((List.length ws : Int) > 12)))), (0, .lst 1 (ws.map cI))], []⟩) (by kernel_rfl) (by kernel_rfl) ?_
  rcases Bool.eq_false_or_eq_true (decide ((List.length ws : Int) > 12)) with h2 | h2
  rw [h2]
  have g2 : ((List.length ws : Int) > 12) := of_decide_eq_true h2
  have n2 : ((List.length ws) > 12) := by omega
  refine EL.condT (by kernel_rfl) ?_
  refine EL.sreg ?_
  refine OW.last 2 [2, 3] (x' := ⟨[(3, VI 2), (2, VI 0)], []⟩) (by kernel_rfl) (by kernel_rfl) ?_
  refine EL.ret ?_
  refine thenL_ret ?_
  refine ⟨.inr rfl, .tup [VI 0, VI 2], by kernel_rfl, Ale.of_eq ?_⟩
  focus (first | (rw [nodesP, if_pos (by omega)]; done) | (rw [nodesP, if_neg (by omega), if_pos (by omega)]; done) | (rw [nodesP, if_neg (by omega), if_neg (by omega), hs]; first | (rw [List.drop_eq_nil_of_le (by omega)]; rfl) | (rw [‹ws.drop k = _›, nodesGo, if_neg (by omega)]; done)) | trace_state)
  rw [h2]
  have g2 : ¬ ((List.length ws : Int) > 12) := of_decide_eq_false h2
  have n2 : ¬ ((List.length ws) > 12) := by omega
  refine EL.condF (by kernel_rfl) ?_
  refine EL.skip ?_
  refine thenL_norm ?_
  refine EL.sreg ?_
  refine OW.last 1 [0, 4] (x' := ⟨[(4, VI 0), (0, .lst 1 (ws.map cI))], []⟩) (by kernel_rfl) (by kernel_rfl) ?_
  refine EL.seq ?_
  refine EL.sreg ?_
  refine OW.last 1 [0, 4, 5] (x' := ⟨(sfq4 ws), []⟩) (by kernel_rfl) (by kernel_rfl) ?_
  refine EL.block ?_
  refine EL.loopN (fun mM xX => ∃ (k : Nat) (a : Int), mM = ws.length - k ∧ (k ≤ ws.length ∧ 1 ≤ ws.length ∧ ws.length ≤ 12 ∧ 0 ≤ a ∧ a ≤ 100 * k ∧ nodesGo ws 0 = nodesGo (ws.drop k) a) ∧ xX = ⟨(sfq5 ws a k), []⟩) (y := (fun (k : Nat) (a : Int) => (⟨(sfq5 ws a k), []⟩ : L3)) 0 0) [0, 4, 5] [] [] (by kernel_rfl) trivial ⟨0, 0, rfl, by simp; omega, rfl⟩ ?_
  rintro _ _ ⟨k, a, rfl, hI3, rfl⟩
  obtain ⟨hk, hl1, hl2, ha0, ha1, hs⟩ := hI3
  refine EL.seq ?_
  refine EL.sreg ?_
  refine OW.run 2 (x' := ⟨(sfq6 ws k a), []⟩) (by kernel_rfl) ?_
  refine OW.ope (v := VI (List.length ws : Int)) (u := []) (acc := []) (x' := ⟨(14, VI (List.length ws : Int)) :: (sfq6 ws k a), []⟩) (by kernel_rfl) (opE_len cI ws (.s 13) 1 (by kernel_rfl) (by kernel_rfl) (.inl rfl)) (by kernel_rfl) ?_
  refine OW.last 1 [0, 4, 5, 15] (x' := ⟨(15, .v (.bool (decide ((k : Int) < (List.length ws : Int))))) :: (sfq5 ws a k), []⟩) (by kernel_rfl) (by kernel_rfl) ?_
  rcases Bool.eq_false_or_eq_true (decide ((k : Int) < (List.length ws : Int))) with h4 | h4
  rw [h4]
  have g4 : ((k : Int) < (List.length ws : Int)) := of_decide_eq_true h4
  have n4 : ((k) < (List.length ws)) := by omega
  refine EL.condT (by kernel_rfl) ?_
  refine EL.skip ?_
  refine thenL_norm ?_
  refine EL.seq ?_
  refine EL.block ?_
  refine EL.seq ?_
  refine EL.sreg ?_
  refine OW.run 2 (x' := ⟨(sfq7 k ws a), []⟩) (by kernel_rfl) ?_
  obtain ⟨a6, ha6⟩ : ∃ y, ws[((k : Int) : Int).toNat]? = some y := idx_ex ⟨by omega, by omega⟩
  have iha6 : ws[k]? = some a6 := by simpa using ha6
  have dha6 := drop_get iha6
  refine OW.ope (v := .pim [VI a6] 0) (u := []) (acc := []) (x' := ⟨(20, .pim [VI a6] 0) :: (sfq7 k ws a), []⟩) (by kernel_rfl) (opE_iad cI ws (.s 18) (.s 19) 1 .i64 (k : Int) a6 (by kernel_rfl) (by kernel_rfl) (.inl rfl) rfl (by omega) ha6) (by kernel_rfl) ?_
  refine OW.run 3 (x' := ⟨(23, .v (.bool (decide (a6 < 0)))) :: (22, .v (.bool (decide (a6 < 0)))) :: (21, VI a6) :: (20, .pim [VI a6] 0) :: (sfq7 k ws a), []⟩) (by kernel_rfl) ?_
  rcases Bool.eq_false_or_eq_true (decide (a6 < 0)) with h7 | h7
  rw [h7]
  have g7 : (a6 < 0) := of_decide_eq_true h7
  refine OW.last 6 [0, 4, 5, 29] (x' := ⟨(29, .v (.bool true)) :: (sfq5 ws a k), []⟩) (by kernel_rfl) (by kernel_rfl) ?_
  refine EL.condT (by kernel_rfl) ?_
  refine EL.sreg ?_
  refine OW.last 2 [2, 3] (x' := ⟨[(3, VI 3), (2, VI 0)], []⟩) (by kernel_rfl) (by kernel_rfl) ?_
  refine EL.ret ?_
  refine thenL_ret ?_
  refine inBlk_ret ?_
  refine thenL_ret ?_
  refine thenL_ret ?_
  refine inBlk_ret ?_
  refine thenL_ret ?_
  refine ⟨.inr rfl, .tup [VI 0, VI 3], by kernel_rfl, Ale.of_eq ?_⟩
  focus (first | (rw [nodesP, if_pos (by omega)]; done) | (rw [nodesP, if_neg (by omega), if_pos (by omega)]; done) | (rw [nodesP, if_neg (by omega), if_neg (by omega), hs]; first | (rw [List.drop_eq_nil_of_le (by omega)]; rfl) | (rw [‹ws.drop k = _›, nodesGo, if_neg (by omega)]; done)) | trace_state)
  rw [h7]
  have g7 : ¬ (a6 < 0) := of_decide_eq_false h7
  refine OW.run 2 (x' := ⟨(sfq8 k ws a6 a), []⟩) (by kernel_rfl) ?_
  refine OW.ope (v := .pim [VI a6] 0) (u := []) (acc := []) (x' := ⟨(26, .pim [VI a6] 0) :: (sfq8 k ws a6 a), []⟩) (by kernel_rfl) (opE_iad cI ws (.s 24) (.s 25) 1 .i64 (k : Int) a6 (by kernel_rfl) (by kernel_rfl) (.inl rfl) rfl (by omega) ha6) (by kernel_rfl) ?_
  refine OW.last 3 [0, 4, 5, 29] (x' := ⟨(29, .v (.bool (decide (a6 > 100)))) :: (sfq5 ws a k), []⟩) (by kernel_rfl) (by kernel_rfl) ?_
  rcases Bool.eq_false_or_eq_true (decide (a6 > 100)) with h8 | h8
  rw [h8]
  have g8 : (a6 > 100) := of_decide_eq_true h8
  refine EL.condT (by kernel_rfl) ?_
  refine EL.sreg ?_
  refine OW.last 2 [2, 3] (x' := ⟨[(3, VI 3), (2, VI 0)], []⟩) (by kernel_rfl) (by kernel_rfl) ?_
  refine EL.ret ?_
  refine thenL_ret ?_
  refine inBlk_ret ?_
  refine thenL_ret ?_
  refine thenL_ret ?_
  refine inBlk_ret ?_
  refine thenL_ret ?_
  refine ⟨.inr rfl, .tup [VI 0, VI 3], by kernel_rfl, Ale.of_eq ?_⟩
  focus (first | (rw [nodesP, if_pos (by omega)]; done) | (rw [nodesP, if_neg (by omega), if_pos (by omega)]; done) | (rw [nodesP, if_neg (by omega), if_neg (by omega), hs]; first | (rw [List.drop_eq_nil_of_le (by omega)]; rfl) | (rw [‹ws.drop k = _›, nodesGo, if_neg (by omega)]; done)) | trace_state)
  rw [h8]
  have g8 : ¬ (a6 > 100) := of_decide_eq_false h8
  refine EL.condF (by kernel_rfl) ?_
  refine EL.skip ?_
  refine thenL_norm ?_
  refine EL.reg0 ?_
  refine OW.run 3 (x' := ⟨(sfq9 k ws a), []⟩) (by kernel_rfl) ?_
  refine OW.ope (v := .pim [VI a6] 0) (u := []) (acc := []) (x' := ⟨(33, .pim [VI a6] 0) :: (sfq9 k ws a), []⟩) (by kernel_rfl) (opE_iad cI ws (.s 31) (.s 32) 1 .i64 (k : Int) a6 (by kernel_rfl) (by kernel_rfl) (.inl rfl) rfl (by omega) ha6) (by kernel_rfl) ?_
  refine OW.run 3 (x' := ⟨(4, VI (IntKind.i64.wrap (a + a6))) :: (35, VI (IntKind.i64.wrap (a + a6))) :: (sfq10 a6 k ws a), []⟩) (by kernel_rfl) ?_
  have e9 : IntKind.i64.wrap (a + a6) = a + a6 := wr64 (by omega)
  rw [e9]
  refine OW.end 0 (x' := ⟨(4, VI (a + a6)) :: (35, VI (a + a6)) :: (sfq10 a6 k ws a), []⟩) (by kernel_rfl) (by kernel_rfl) ?_
  refine inBlk_norm ?_
  refine thenL_norm ?_
  refine EL.reg0 ?_
  refine OW.run 3 (x' := ⟨(5, VI (IntKind.i64.wrap ((k : Int) + 1))) :: (17, VI (IntKind.i64.wrap ((k : Int) + 1))) :: (sfq11 k a a6 ws), []⟩) (by kernel_rfl) ?_
  have e10 : IntKind.i64.wrap ((k : Int) + 1) = (k : Int) + 1 := wr64 (by omega)
  rw [e10]
  refine OW.end 0 (x' := ⟨(sfq12 k a a6 ws), []⟩) (by kernel_rfl) (by kernel_rfl) ?_
  refine thenL_norm ?_
  refine round_end (live := [0, 4, 5]) (src := []) (es := []) (y := (fun (k : Nat) (a : Int) => (⟨(sfq5 ws a k), []⟩ : L3)) (k + 1) (a + a6)) ?_ trivial ?_ ⟨(k + 1), (a + a6), rfl, ?_, rfl⟩
  kernel_rfl
  omega
  focus (refine ⟨by omega, hl1, hl2, by omega, by omega, ?_⟩; rw [hs, ‹ws.drop k = _›, nodesGo, if_pos (by omega)])
  rw [h4]
  have g4 : ¬ ((k : Int) < (List.length ws : Int)) := of_decide_eq_false h4
  have n4 : ¬ ((k) < (List.length ws)) := by omega
  refine EL.condF (by kernel_rfl) ?_
  refine EL.exit ?_
  refine thenL_exit ?_
  refine thenL_exit ?_
  refine inBlk_hit ?_
  refine thenL_norm ?_
  refine EL.sreg ?_
  refine OW.last 3 [2, 3] (x' := ⟨[(3, VI 0), (2, VI a)], []⟩) (by kernel_rfl) (by kernel_rfl) ?_
  refine EL.ret ?_
  refine ⟨.inr rfl, .tup [VI a, VI 0], by kernel_rfl, Ale.of_eq ?_⟩
  focus (first | (rw [nodesP, if_pos (by omega)]; done) | (rw [nodesP, if_neg (by omega), if_pos (by omega)]; done) | (rw [nodesP, if_neg (by omega), if_neg (by omega), hs]; first | (rw [List.drop_eq_nil_of_le (by omega)]; rfl) | (rw [‹ws.drop k = _›, nodesGo, if_neg (by omega)]; done)) | trace_state)
abbrev sfq13 (ws : List Int) (need : Int) : LS := [(8, .lst 1 (ws.map cI)), (0, .lst 1 (ws.map cI)), (1, VI need)]
abbrev sfq14 (ws : List Int) (need : Int) : LS := (9, .tup [VI ((nodesP ws).1), VI ((nodesP ws).2)]) :: (sfq13 ws need)
abbrev sfq15 (ws : List Int) (need : Int) : LS := [(6, VI ((nodesP ws).2)), (5, VI ((nodesP ws).1)), (1, VI need)]
abbrev sfq16 (ws : List Int) (need : Int) : LS := [(21, .v (.bool true)), (5, VI ((nodesP ws).1)), (1, VI need)]
abbrev sfq17 (need : Int) (ws : List Int) : LS := [(22, VI need), (21, .v (.bool false)), (5, VI ((nodesP ws).1)), (1, VI need)]
theorem rqcheck_fn (ws : List Int) (need : Int) (hx : ws.length ≤ 9223372036854775807) : Fn Tryd.prog 46 [.lst 1 (ws.map cI), VI need] (VI (qcheckP ws need)) := by
  refine fn_walkW F46_ok (of_decide_eq_true (by kernel_rfl)) ?_
  refine EL.sreg ?_
  refine OW.last 1 [0, 1] (x' := ⟨[(0, .lst 1 (ws.map cI)), (1, VI need)], []⟩) (by kernel_rfl) (by kernel_rfl) ?_
  refine EL.sreg ?_
  refine OW.run 1 (x' := ⟨(sfq13 ws need), []⟩) (by kernel_rfl) ?_
  refine OW.fn (ar := [.lst 1 (ws.map cI)]) (x' := ⟨(sfq14 ws need), []⟩) (by kernel_rfl) (by kernel_rfl) F51_call (weights_fn ws (by first | omega | (simp; omega))) (by kernel_rfl) (by kernel_rfl) ?_
  refine OW.last 5 [1, 5, 6] (x' := ⟨(sfq15 ws need), []⟩) (by kernel_rfl) (by kernel_rfl) ?_
  refine EL.seq ?_
  refine EL.sreg ?_
  refine OW.last 2 [1, 5, 6, 13] (x' := ⟨(13, .v (.bool (((nodesP ws).2) != 0))) :: (sfq15 ws need), []⟩) (by kernel_rfl) (by kernel_rfl) ?_
  rcases Bool.eq_false_or_eq_true ((((nodesP ws).2) != 0)) with h1 | h1
  rw [h1]
  have g1 : ¬ (((nodesP ws).2) = 0) := by simpa using h1
  refine EL.condT (by kernel_rfl) ?_
  refine EL.sreg ?_
  refine OW.last 2 [4] (x' := ⟨[(4, VI ((nodesP ws).2))], []⟩) (by kernel_rfl) (by kernel_rfl) ?_
  refine EL.ret ?_
  refine thenL_ret ?_
  refine ⟨.inr rfl, VI ((nodesP ws).2), by kernel_rfl, Ale.of_eq ?_⟩
  focus ((refine congrArg (fun n => VI n) ?_; simp only [qcheckP]; (repeat' split) <;> first | rfl | omega | (exfalso; omega) | contradiction | trace_state))
  rw [h1]
  have g1 : (((nodesP ws).2) = 0) := by simpa using h1
  refine EL.condF (by kernel_rfl) ?_
  refine EL.skip ?_
  refine thenL_norm ?_
  refine EL.seq ?_
  refine EL.sreg ?_
  refine OW.run 3 (x' := ⟨(17, .v (.bool (decide (need < 1)))) :: (16, .v (.bool (decide (need < 1)))) :: (15, VI need) :: (13, .v (.bool false)) :: (sfq15 ws need), []⟩) (by kernel_rfl) ?_
  rcases Bool.eq_false_or_eq_true (decide (need < 1)) with h2 | h2
  rw [h2]
  have g2 : (need < 1) := of_decide_eq_true h2
  refine OW.last 4 [1, 5, 21] (x' := ⟨(sfq16 ws need), []⟩) (by kernel_rfl) (by kernel_rfl) ?_
  refine EL.condT (by kernel_rfl) ?_
  refine EL.sreg ?_
  refine OW.last 1 [4] (x' := ⟨[(4, VI 3)], []⟩) (by kernel_rfl) (by kernel_rfl) ?_
  refine EL.ret ?_
  refine thenL_ret ?_
  refine ⟨.inr rfl, VI 3, by kernel_rfl, Ale.of_eq ?_⟩
  focus ((refine congrArg (fun n => VI n) ?_; simp only [qcheckP]; (repeat' split) <;> first | rfl | omega | (exfalso; omega) | contradiction | trace_state))
  rw [h2]
  have g2 : ¬ (need < 1) := of_decide_eq_false h2
  refine OW.last 4 [1, 5, 21] (x' := ⟨[(21, .v (.bool (decide (need > (nodesP ws).1)))), (5, VI ((nodesP ws).1)), (1, VI need)], []⟩) (by kernel_rfl) (by kernel_rfl) ?_
  rcases Bool.eq_false_or_eq_true (decide (need > (nodesP ws).1)) with h3 | h3
  rw [h3]
  have g3 : (need > (nodesP ws).1) := of_decide_eq_true h3
  refine EL.condT (by kernel_rfl) ?_
  refine EL.sreg ?_
  refine OW.last 1 [4] (x' := ⟨[(4, VI 3)], []⟩) (by kernel_rfl) (by kernel_rfl) ?_
  refine EL.ret ?_
  refine thenL_ret ?_
  refine ⟨.inr rfl, VI 3, by kernel_rfl, Ale.of_eq ?_⟩
  focus ((refine congrArg (fun n => VI n) ?_; simp only [qcheckP]; (repeat' split) <;> first | rfl | omega | (exfalso; omega) | contradiction | trace_state))
  rw [h3]
  have g3 : ¬ (need > (nodesP ws).1) := of_decide_eq_false h3
  refine EL.condF (by kernel_rfl) ?_
  refine EL.skip ?_
  refine thenL_norm ?_
  refine EL.seq ?_
  refine EL.sreg ?_
  refine OW.run 4 (x' := ⟨(25, .v (.bool (decide ((IntKind.i64.wrap (need * 2)) ≤ (nodesP ws).1)))) :: (24, VI ((nodesP ws).1)) :: (23, VI (IntKind.i64.wrap (need * 2))) :: (sfq17 need ws), []⟩) (by kernel_rfl) ?_
  have e4 : IntKind.i64.wrap (need * 2) = need * 2 := wr64 (by have hb := nodes_bd (ws := ws) (by assumption); omega)
  rw [e4]
  refine OW.last 0 [25] (x' := ⟨[(25, .v (.bool (decide ((need * 2) ≤ (nodesP ws).1))))], []⟩) (by kernel_rfl) (by kernel_rfl) ?_
  rcases Bool.eq_false_or_eq_true (decide ((need * 2) ≤ (nodesP ws).1)) with h5 | h5
  rw [h5]
  have g5 : ((need * 2) ≤ (nodesP ws).1) := of_decide_eq_true h5
  refine EL.condT (by kernel_rfl) ?_
  refine EL.sreg ?_
  refine OW.last 1 [4] (x' := ⟨[(4, VI 4)], []⟩) (by kernel_rfl) (by kernel_rfl) ?_
  refine EL.ret ?_
  refine thenL_ret ?_
  refine ⟨.inr rfl, VI 4, by kernel_rfl, Ale.of_eq ?_⟩
  focus ((refine congrArg (fun n => VI n) ?_; simp only [qcheckP]; (repeat' split) <;> first | rfl | omega | (exfalso; omega) | contradiction | trace_state))
  rw [h5]
  have g5 : ¬ ((need * 2) ≤ (nodesP ws).1) := of_decide_eq_false h5
  refine EL.condF (by kernel_rfl) ?_
  refine EL.skip ?_
  refine thenL_norm ?_
  refine EL.sreg ?_
  refine OW.last 1 [4] (x' := ⟨[(4, VI 0)], []⟩) (by kernel_rfl) (by kernel_rfl) ?_
  refine EL.ret ?_
  refine ⟨.inr rfl, VI 0, by kernel_rfl, Ale.of_eq ?_⟩
  focus ((refine congrArg (fun n => VI n) ?_; simp only [qcheckP]; (repeat' split) <;> first | rfl | omega | (exfalso; omega) | contradiction | trace_state))
abbrev sfq18 (ws : List Int) (u : U64) : LS := [(5, VI 0), (0, .lst 1 (ws.map cI)), (1, .v (.int .u64 (u.n : Int)))]
abbrev sfq19 (ws : List Int) (u : U64) (n : Int) (k : Nat) : LS := [(0, .lst 1 (ws.map cI)), (1, .v (.int .u64 (u.n : Int))), (5, VI n), (6, VI (k : Int))]
abbrev sfq20 (ws : List Int) (k : Nat) (u : U64) (n : Int) : LS := (8, .lst 1 (ws.map cI)) :: (7, VI (k : Int)) :: (sfq19 ws u n k)
abbrev sfq21 (k : Nat) (u : U64) (ws : List Int) (n : Int) : LS := (14, VI (k : Int)) :: (13, .v (.int .u64 (u.n : Int))) :: (10, .v (.bool true)) :: (sfq19 ws u n k)
abbrev sfq22 (k : Nat) (ws : List Int) (n : Int) (u : U64) : LS := (18, VI (k : Int)) :: (17, .lst 1 (ws.map cI)) :: (16, VI n) :: (15, .v (.bool true)) :: (sfq19 ws u n k)
abbrev sfq23 (a5 : Int) (k : Nat) (ws : List Int) (n : Int) (u : U64) : LS := [(20, VI a5), (19, .pim [VI a5] 0), (18, VI (k : Int)), (17, .lst 1 (ws.map cI)), (16, VI n), (15, .v (.bool true)), (0, .lst 1 (ws.map cI)), (1, .v (.int .u64 (u.n : Int))), (6, VI (k : Int))]
abbrev sfq24 (k : Nat) (n : Int) (a5 : Int) (ws : List Int) (u : U64) : LS := [(11, VI (k : Int)), (5, VI (n + a5)), (21, VI (n + a5)), (20, VI a5), (19, .pim [VI a5] 0), (18, VI (k : Int)), (17, .lst 1 (ws.map cI)), (16, VI n), (15, .v (.bool true)), (0, .lst 1 (ws.map cI)), (1, .v (.int .u64 (u.n : Int)))]
abbrev sfq25 (k : Nat) (n : Int) (a5 : Int) (ws : List Int) (u : U64) : LS := (6, VI ((k : Int) + 1)) :: (12, VI ((k : Int) + 1)) :: (sfq24 k n a5 ws u)
abbrev sfq26 (k : Nat) (ws : List Int) (u : U64) (n : Int) : LS := [(11, VI (k : Int)), (15, .v (.bool false)), (0, .lst 1 (ws.map cI)), (1, .v (.int .u64 (u.n : Int))), (5, VI n)]
abbrev sfq27 (k : Nat) (ws : List Int) (u : U64) (n : Int) : LS := (6, VI ((k : Int) + 1)) :: (12, VI ((k : Int) + 1)) :: (sfq26 k ws u n)
theorem sumof_fn (ws : List Int) (u : U64) (hw : (nodesP ws).2 = 0) : Fn Tryd.prog 42 [.lst 1 (ws.map cI), .v (.int .u64 (u.n : Int))] (VI (bsum ws u.n)) := by
  have hnb := nodes_bd hw
  refine fn_walkW F42_ok (of_decide_eq_true (by kernel_rfl)) ?_
  refine EL.sreg ?_
  refine OW.last 1 [0, 1] (x' := ⟨[(0, .lst 1 (ws.map cI)), (1, .v (.int .u64 (u.n : Int)))], []⟩) (by kernel_rfl) (by kernel_rfl) ?_
  refine EL.sreg ?_
  refine OW.last 1 [0, 1, 5] (x' := ⟨(sfq18 ws u), []⟩) (by kernel_rfl) (by kernel_rfl) ?_
  refine EL.seq ?_
  refine EL.sreg ?_
  refine OW.last 1 [0, 1, 5, 6] (x' := ⟨(6, VI 0) :: (sfq18 ws u), []⟩) (by kernel_rfl) (by kernel_rfl) ?_
  refine EL.block ?_
  refine EL.loopN (fun mM xX => ∃ (k : Nat) (n : Int), mM = ws.length - k ∧ (k ≤ ws.length ∧ n + bsum (ws.drop k) (shN u.n k) = bsum ws u.n ∧ 0 ≤ n) ∧ xX = ⟨(sfq19 ws u n k), []⟩) (y := (fun (k : Nat) (n : Int) => (⟨(sfq19 ws u n k), []⟩ : L3)) 0 0) [0, 1, 5, 6] [] [] (by kernel_rfl) trivial ⟨0, 0, rfl, by rw [shN_0]; simp, rfl⟩ ?_
  rintro _ _ ⟨k, n, rfl, hI1, rfl⟩
  obtain ⟨hk, hs, hn0⟩ := hI1
  have hb1 := bsum_bd (ws.drop k) (shN u.n k) (fun w hw => hnb.2.2.2.2 w (List.mem_of_mem_drop hw))
  refine EL.seq ?_
  refine EL.sreg ?_
  refine OW.run 2 (x' := ⟨(sfq20 ws k u n), []⟩) (by kernel_rfl) ?_
  refine OW.ope (v := VI (List.length ws : Int)) (u := []) (acc := []) (x' := ⟨(9, VI (List.length ws : Int)) :: (sfq20 ws k u n), []⟩) (by kernel_rfl) (opE_len cI ws (.s 8) 1 (by kernel_rfl) (by kernel_rfl) (.inl rfl)) (by kernel_rfl) ?_
  refine OW.last 1 [0, 1, 5, 6, 10] (x' := ⟨(10, .v (.bool (decide ((k : Int) < (List.length ws : Int))))) :: (sfq19 ws u n k), []⟩) (by kernel_rfl) (by kernel_rfl) ?_
  rcases Bool.eq_false_or_eq_true (decide ((k : Int) < (List.length ws : Int))) with h2 | h2
  rw [h2]
  have g2 : ((k : Int) < (List.length ws : Int)) := of_decide_eq_true h2
  have n2 : ((k) < (List.length ws)) := by omega
  refine EL.condT (by kernel_rfl) ?_
  refine EL.skip ?_
  refine thenL_norm ?_
  refine EL.seq ?_
  refine EL.block ?_
  refine EL.sreg ?_
  refine OW.run 2 (x' := ⟨(sfq21 k u ws n), []⟩) (by kernel_rfl) ?_
  refine OW.fn (ar := [.v (.int .u64 (u.n : Int)), VI (k : Int)]) (x' := ⟨(15, .v (.bool (inS u.n (Int.toNat (k : Int))))) :: (sfq21 k u ws n), []⟩) (by kernel_rfl) (by kernel_rfl) F40_call (inset_fn u (k : Int) (by omega)) (by kernel_rfl) (by kernel_rfl) ?_
  refine OW.last 0 [0, 1, 5, 6, 15] (x' := ⟨(15, .v (.bool (inS u.n (Int.toNat (k : Int))))) :: (sfq19 ws u n k), []⟩) (by kernel_rfl) (by kernel_rfl) ?_
  rcases Bool.eq_false_or_eq_true (inS u.n (Int.toNat (k : Int))) with h3 | h3
  rw [h3]
  refine EL.condT (by kernel_rfl) ?_
  refine EL.reg0 ?_
  refine OW.run 3 (x' := ⟨(sfq22 k ws n u), []⟩) (by kernel_rfl) ?_
  obtain ⟨a5, ha5⟩ : ∃ y, ws[((k : Int) : Int).toNat]? = some y := idx_ex ⟨by omega, by omega⟩
  have iha5 : ws[k]? = some a5 := by simpa using ha5
  have dha5 := drop_get iha5
  refine OW.ope (v := .pim [VI a5] 0) (u := []) (acc := []) (x' := ⟨(19, .pim [VI a5] 0) :: (sfq22 k ws n u), []⟩) (by kernel_rfl) (opE_iad cI ws (.s 17) (.s 18) 1 .i64 (k : Int) a5 (by kernel_rfl) (by kernel_rfl) (.inl rfl) rfl (by omega) ha5) (by kernel_rfl) ?_
  refine OW.run 3 (x' := ⟨(5, VI (IntKind.i64.wrap (n + a5))) :: (21, VI (IntKind.i64.wrap (n + a5))) :: (sfq23 a5 k ws n u), []⟩) (by kernel_rfl) ?_
  have e6 : IntKind.i64.wrap (n + a5) = n + a5 := wr64 (by have hw9 := hnb.2.2.2.2 a5 (List.mem_of_getElem? ha5); have hb3 := bsum_bd ws u.n hnb.2.2.2.2; omega)
  rw [e6]
  refine OW.end 0 (x' := ⟨(5, VI (n + a5)) :: (21, VI (n + a5)) :: (sfq23 a5 k ws n u), []⟩) (by kernel_rfl) (by kernel_rfl) ?_
  refine inBlk_norm ?_
  refine thenL_norm ?_
  refine EL.reg0 ?_
  refine OW.run 3 (x' := ⟨(6, VI (IntKind.i64.wrap ((k : Int) + 1))) :: (12, VI (IntKind.i64.wrap ((k : Int) + 1))) :: (sfq24 k n a5 ws u), []⟩) (by kernel_rfl) ?_
  have e7 : IntKind.i64.wrap ((k : Int) + 1) = (k : Int) + 1 := wr64 (by omega)
  rw [e7]
  refine OW.end 0 (x' := ⟨(sfq25 k n a5 ws u), []⟩) (by kernel_rfl) (by kernel_rfl) ?_
  refine thenL_norm ?_
  refine round_end (live := [0, 1, 5, 6]) (src := []) (es := []) (y := (fun (k : Nat) (n : Int) => (⟨(sfq19 ws u n k), []⟩ : L3)) (k + 1) (n + a5)) ?_ trivial ?_ ⟨(k + 1), (n + a5), rfl, ?_, rfl⟩
  kernel_rfl
  omega
  focus ((have hq := bsum_at (ws := ws) (x := u.n) (k := k) (by omega); first | (rw [if_pos (by assumption), iha5, Option.getD_some] at hq; have hw9 := hnb.2.2.2.2 a5 (List.mem_of_getElem? ha5); refine ⟨by omega, by omega, by omega⟩) | (rw [if_neg (by simp_all)] at hq; refine ⟨by omega, by omega, by omega⟩)))
  rw [h3]
  refine EL.condF (by kernel_rfl) ?_
  refine EL.skip ?_
  refine inBlk_norm ?_
  refine thenL_norm ?_
  refine EL.reg0 ?_
  refine OW.run 3 (x' := ⟨(6, VI (IntKind.i64.wrap ((k : Int) + 1))) :: (12, VI (IntKind.i64.wrap ((k : Int) + 1))) :: (sfq26 k ws u n), []⟩) (by kernel_rfl) ?_
  have e8 : IntKind.i64.wrap ((k : Int) + 1) = (k : Int) + 1 := wr64 (by omega)
  rw [e8]
  refine OW.end 0 (x' := ⟨(sfq27 k ws u n), []⟩) (by kernel_rfl) (by kernel_rfl) ?_
  refine thenL_norm ?_
  refine round_end (live := [0, 1, 5, 6]) (src := []) (es := []) (y := (fun (k : Nat) (n : Int) => (⟨(sfq19 ws u n k), []⟩ : L3)) (k + 1) n) ?_ trivial ?_ ⟨(k + 1), n, rfl, ?_, rfl⟩
  kernel_rfl
  omega
  focus ((have hq := bsum_at (ws := ws) (x := u.n) (k := k) (by omega); first | (rw [if_pos (by assumption), iha5, Option.getD_some] at hq; have hw9 := hnb.2.2.2.2 a5 (List.mem_of_getElem? ha5); refine ⟨by omega, by omega, by omega⟩) | (rw [if_neg (by simp_all)] at hq; refine ⟨by omega, by omega, by omega⟩)))
  rw [h2]
  have g2 : ¬ ((k : Int) < (List.length ws : Int)) := of_decide_eq_false h2
  have n2 : ¬ ((k) < (List.length ws)) := by omega
  refine EL.condF (by kernel_rfl) ?_
  refine EL.exit ?_
  refine thenL_exit ?_
  refine thenL_exit ?_
  refine inBlk_hit ?_
  refine thenL_norm ?_
  refine EL.sreg ?_
  refine OW.last 2 [4] (x' := ⟨[(4, VI n)], []⟩) (by kernel_rfl) (by kernel_rfl) ?_
  refine EL.ret ?_
  refine ⟨.inr rfl, VI n, by kernel_rfl, Ale.of_eq ?_⟩
  focus ((refine congrArg (fun n => VI n) ?_; rw [List.drop_eq_nil_of_le (by omega)] at hs; simp only [bsum] at hs; omega))
abbrev sfq28 (m : Vote) : OB := some ⟨6, [[VI m.kind, VI m.bid, VI m.node, VI m.copy.at_.time, VI m.copy.at_.who, .v (.string m.copy.data)]]⟩
abbrev sfq29 (nodes : Int) : LS := [(6, VI 0), (5, .emp), (3, .ref 0 6 0 0), (0, VI nodes)]
abbrev sfq30 (p : Vote) : OB := some ⟨6, [[VI p.kind, VI p.bid, VI p.node, VI p.copy.at_.time, VI p.copy.at_.who, .v (.string p.copy.data)]]⟩
abbrev sfq31 (nodes : Int) (out : List Vote) (k : Nat) : LS := [(0, VI nodes), (3, .ref 1 6 0 0), (5, .own 0 6 0 (List.length out)), (6, VI (k : Int))]
abbrev sfq32 (p : Vote) (k : Nat) : OB := some ⟨6, [[VI p.kind, VI p.bid, VI (k : Int), VI p.copy.at_.time, VI p.copy.at_.who, .v (.string p.copy.data)]]⟩
abbrev sfq33 (p : Vote) (k : Nat) : AV := .agg [VI p.kind, VI p.bid, VI (k : Int), VI p.copy.at_.time, VI p.copy.at_.who, .v (.string p.copy.data)]
abbrev sfq34 (p : Vote) (k : Nat) (out : List Vote) (nodes : Int) : LS := (16, .own 2 6 0 1) :: (15, (sfq33 p k)) :: (14, .own 0 6 0 (List.length out)) :: (sfq31 nodes out k)
abbrev sfq35 (out : List Vote) (p : Vote) (k : Nat) : OB := some ⟨6, ((out ++ ([(⟨p.kind, p.bid, (k : Int), p.copy⟩ : Vote)])).map Vote.cs)⟩
abbrev sfq36 (out : List Vote) (p : Vote) (k : Nat) (nodes : Int) : LS := (17, .own 3 6 0 (List.length (out ++ ([(⟨p.kind, p.bid, (k : Int), p.copy⟩ : Vote)])))) :: (sfq34 p k out nodes)
abbrev sfq37 (out : List Vote) (p : Vote) (k : Nat) (nodes : Int) : LS := [(5, .own 3 6 0 (List.length (out ++ ([(⟨p.kind, p.bid, (k : Int), p.copy⟩ : Vote)])))), (17, .own 3 6 0 (List.length (out ++ ([(⟨p.kind, p.bid, (k : Int), p.copy⟩ : Vote)])))), (16, .own 2 6 0 1), (15, (sfq33 p k)), (14, .own 0 6 0 (List.length out)), (0, VI nodes), (3, .ref 1 6 0 0), (6, VI (k : Int))]
abbrev sfq38 (k : Nat) (out : List Vote) (p : Vote) (nodes : Int) : LS := [(10, VI (k : Int)), (5, .own 3 6 0 (List.length (out ++ ([(⟨p.kind, p.bid, (k : Int), p.copy⟩ : Vote)])))), (17, .own 3 6 0 (List.length (out ++ ([(⟨p.kind, p.bid, (k : Int), p.copy⟩ : Vote)])))), (16, .own 2 6 0 1), (15, (sfq33 p k)), (14, .own 0 6 0 (List.length out)), (0, VI nodes), (3, .ref 1 6 0 0)]
abbrev sfq39 (k : Nat) (out : List Vote) (p : Vote) (nodes : Int) : LS := (6, VI ((k : Int) + 1)) :: (11, VI ((k : Int) + 1)) :: (sfq38 k out p nodes)
theorem rtoAll_fn (nodes : Int) (m : Vote) (hx : 0 ≤ nodes ∧ nodes ≤ 12) : Fn Tryd.prog 43 [VI nodes, .agg [VI m.kind, VI m.bid, VI m.node, VI m.copy.at_.time, VI m.copy.at_.who, .v (.string m.copy.data)]] (.lst 6 ((toAllP nodes.toNat m).map Vote.cs)) := by
  refine fn_walkW F43_ok (of_decide_eq_true (by kernel_rfl)) ?_
  refine EL.sreg ?_
  refine OW.last 2 [0, 3] (x' := ⟨[(3, .ref 0 6 0 0), (0, VI nodes)], [(sfq28 m)]⟩) (by kernel_rfl) (by kernel_rfl) ?_
  refine EL.sreg ?_
  refine OW.last 1 [0, 3, 5] (x' := ⟨[(5, .emp), (3, .ref 0 6 0 0), (0, VI nodes)], [(sfq28 m)]⟩) (by kernel_rfl) (by kernel_rfl) ?_
  refine EL.seq ?_
  refine EL.sreg ?_
  refine OW.last 1 [0, 3, 5, 6] (x' := ⟨(sfq29 nodes), [(sfq28 m)]⟩) (by kernel_rfl) (by kernel_rfl) ?_
  refine EL.block ?_
  refine EL.loopN (fun mM xX => ∃ (k : Nat) (p : Vote) (out : List Vote), mM = nodes.toNat - k ∧ ((k : Int) ≤ nodes ∧ (p.kind = m.kind ∧ p.bid = m.bid ∧ p.copy = m.copy) ∧ out = toAllP k m) ∧ xX = ⟨(sfq31 nodes out k), [some ⟨6, (out.map Vote.cs)⟩, (sfq30 p)]⟩) (y := (fun (k : Nat) (p : Vote) (out : List Vote) => (⟨(sfq31 nodes out k), [some ⟨6, (out.map Vote.cs)⟩, (sfq30 p)]⟩ : L3)) 0 m []) [0, 3, 5, 6] [.new 6, .old 0 false] [(5, 0)] (by kernel_rfl) trivial ⟨0, m, [], rfl, by exact ⟨by omega, ⟨rfl, rfl, rfl⟩, rfl⟩, rfl⟩ ?_
  rintro _ _ ⟨k, p, out, rfl, hI1, rfl⟩
  obtain ⟨hk, ⟨e1', e2', e3'⟩, ho⟩ := hI1
  have hol : out.length = k := by rw [ho]; simp [toAllP]
  refine EL.seq ?_
  refine EL.sreg ?_
  refine OW.last 3 [0, 3, 5, 6, 9] (x' := ⟨(9, .v (.bool (decide ((k : Int) < nodes)))) :: (sfq31 nodes out k), [some ⟨6, (out.map Vote.cs)⟩, (sfq30 p)]⟩) (by kernel_rfl) (by kernel_rfl) ?_
  rcases Bool.eq_false_or_eq_true (decide ((k : Int) < nodes)) with h2 | h2
  rw [h2]
  have g2 : ((k : Int) < nodes) := of_decide_eq_true h2
  refine EL.condT (by kernel_rfl) ?_
  refine EL.skip ?_
  refine thenL_norm ?_
  refine EL.seq ?_
  refine EL.block ?_
  refine EL.sreg ?_
  refine OW.last 3 [0, 3, 5, 6] (x' := ⟨(sfq31 nodes out k), [some ⟨6, (out.map Vote.cs)⟩, (sfq32 p k)]⟩) (by kernel_rfl) (by kernel_rfl) ?_
  refine EL.reg0 ?_
  refine OW.run 3 (x' := ⟨(sfq34 p k out nodes), [some ⟨6, (out.map Vote.cs)⟩, (sfq32 p k), (sfq32 p k)]⟩) (by kernel_rfl) ?_
  refine OW.ope (v := .own 3 6 0 (List.length (out ++ ([(⟨p.kind, p.bid, (k : Int), p.copy⟩ : Vote)])))) (u := [(0, none), (3, some ⟨6, ((out ++ ([(⟨p.kind, p.bid, (k : Int), p.copy⟩ : Vote)])).map Vote.cs)⟩)]) (acc := [2, 0]) (x' := ⟨(sfq36 out p k nodes), [none, (sfq32 p k), (sfq32 p k), (sfq35 out p k)]⟩) (by kernel_rfl) (opE_appO Vote.cs out ([(⟨p.kind, p.bid, (k : Int), p.copy⟩ : Vote)]) (.s 14) (.s 16) 6 56 0 (.own 2 6 0 1) _ (by kernel_rfl) (by kernel_rfl) rfl (by kernel_rfl) rfl (.own (els := [[VI p.kind, VI p.bid, VI (k : Int), VI p.copy.at_.time, VI p.copy.at_.who, .v (.string p.copy.data)]]) (by kernel_rfl) (by kernel_rfl) (of_decide_eq_true (by kernel_rfl))) (by simp; omega)) (by kernel_rfl) ?_
  refine OW.end 1 (x' := ⟨(sfq37 out p k nodes), [none, (sfq32 p k), (sfq32 p k), (sfq35 out p k)]⟩) (by kernel_rfl) (by kernel_rfl) ?_
  refine inBlk_norm ?_
  refine thenL_norm ?_
  refine EL.reg0 ?_
  refine OW.run 3 (x' := ⟨(6, VI (IntKind.i64.wrap ((k : Int) + 1))) :: (11, VI (IntKind.i64.wrap ((k : Int) + 1))) :: (sfq38 k out p nodes), [none, (sfq32 p k), (sfq32 p k), (sfq35 out p k)]⟩) (by kernel_rfl) ?_
  have e3 : IntKind.i64.wrap ((k : Int) + 1) = (k : Int) + 1 := wr64 (by omega)
  rw [e3]
  refine OW.end 0 (x' := ⟨(sfq39 k out p nodes), [none, (sfq32 p k), (sfq32 p k), (sfq35 out p k)]⟩) (by kernel_rfl) (by kernel_rfl) ?_
  refine thenL_norm ?_
  refine round_end (live := [0, 3, 5, 6]) (src := [.old 3 true, .old 1 false]) (es := []) (y := (fun (k : Nat) (p : Vote) (out : List Vote) => (⟨(sfq31 nodes out k), [some ⟨6, (out.map Vote.cs)⟩, (sfq30 p)]⟩ : L3)) (k + 1) (⟨p.kind, p.bid, (k : Int), p.copy⟩ : Vote) (out ++ ([(⟨p.kind, p.bid, (k : Int), p.copy⟩ : Vote)]))) ?_ ⟨pu 6 Vote.cs (out ++ ([(⟨p.kind, p.bid, (k : Int), p.copy⟩ : Vote)])) (by kernel_rfl) (by intro y; kernel_rfl), trivial⟩ ?_ ⟨(k + 1), (⟨p.kind, p.bid, (k : Int), p.copy⟩ : Vote), (out ++ ([(⟨p.kind, p.bid, (k : Int), p.copy⟩ : Vote)])), rfl, ?_, rfl⟩
  kernel_rfl
  omega
  focus ((refine ⟨by omega, ⟨e1', e2', e3'⟩, ?_⟩; rw [ho, e1', e2', e3']; simp [toAllP, List.range_succ]))
  rw [h2]
  have g2 : ¬ ((k : Int) < nodes) := of_decide_eq_false h2
  refine EL.condF (by kernel_rfl) ?_
  refine EL.exit ?_
  refine thenL_exit ?_
  refine thenL_exit ?_
  refine inBlk_hit ?_
  refine thenL_norm ?_
  refine EL.sreg ?_
  refine OW.last 2 [4] (x' := ⟨[(4, .own 0 6 0 (List.length out))], [some ⟨6, (out.map Vote.cs)⟩, (sfq30 p)]⟩) (by kernel_rfl) (by kernel_rfl) ?_
  refine EL.ret ?_
  refine ⟨.inr rfl, .lst 6 (out.map Vote.cs), run_snap (r0 := .own 0 6 0 (List.length out)) (by kernel_rfl) (snapA_map Vote.cs out (by kernel_rfl) (by intro y; kernel_rfl) (by simp)), Ale.of_eq ?_⟩
  focus (first | (rw [ho, show k = nodes.toNat by omega]; done) | trace_state)
theorem beg_no {v : Voters} {no time : Int} {own : ByteArray} (h : ¬ (0 ≤ no ∧ no ≤ 30)) : beginP v no time own = (Bid.zero, [], 3) := by unfold beginP; rw [if_pos h]
theorem beg_bad {v : Voters} {no time : Int} {own : ByteArray} (h : 0 ≤ no ∧ no ≤ 30) (h2 : ¬ (Bid.new time own).checkE v.weights v.need = 0) : beginP v no time own = (Bid.zero, [], (Bid.new time own).checkE v.weights v.need) := by unfold beginP; rw [if_neg (fun hh => hh h), if_pos h2]
theorem beg_ok {v : Voters} {no time : Int} {own : ByteArray} (h : 0 ≤ no ∧ no ≤ 30) (h2 : (Bid.new time own).checkE v.weights v.need = 0) : beginP v no time own = (Bid.new time own, toAllP v.weights.length ⟨1, no, 0, ⟨⟨time, no⟩, ⟨#[]⟩⟩⟩, 0) := by unfold beginP; rw [if_neg (fun hh => hh h), if_neg (fun hh => hh h2)]
theorem len_ge {n : U64} {l : Nat} : ((n.n : Int) ≥ ((2 ^ Int.toNat (l : Int) : Nat) : Int)) ↔ (len64 n.n : Int) > l := by
  have := len64_gt (n := n.n) (k := l)
  rw [show Int.toNat (l : Int) = l from rfl]
  omega
abbrev sfq40 (b : Bid) : OB := some ⟨8, [[VI b.time, VI b.phase, .v (.string b.own), .v (.string b.value), VI b.best.at_.time, VI b.best.at_.who, .v (.string b.best.data), .v (.int .u64 (b.heard.n : Int))]]⟩
abbrev sfq41 (v : Voters) (b : Bid) : LB := [some ⟨2, [[.lst 1 (v.weights.map cI), VI v.need]]⟩, (sfq40 b)]
abbrev sfq42 (v : Voters) : LS := [(9, VI v.need), (8, .ref 0 2 0 1), (7, .lst 1 (v.weights.map cI)), (6, .ref 0 2 0 0), (3, .ref 1 8 0 0), (2, .ref 0 2 0 0)]
abbrev sfq43 (v : Voters) : LS := [(5, VI (qcheckP v.weights v.need)), (3, .ref 1 8 0 0), (2, .ref 0 2 0 0)]
abbrev sfq44 (b : Bid) (v : Voters) : LS := (15, VI b.time) :: (14, .ref 1 8 0 0) :: (12, .v (.bool false)) :: (sfq43 v)
abbrev sfq45 : LS := [(21, .v (.bool true)), (3, .ref 1 8 0 0), (2, .ref 0 2 0 0)]
abbrev sfq46 (b : Bid) : LS := [(23, VI b.phase), (22, .ref 1 8 0 1), (21, .v (.bool false)), (3, .ref 1 8 0 0), (2, .ref 0 2 0 0)]
abbrev sfq47 : LS := [(29, .v (.bool true)), (3, .ref 1 8 0 0), (2, .ref 0 2 0 0)]
abbrev sfq48 (b : Bid) : LS := [(32, VI (ByteArray.size b.own : Int)), (31, .v (.string b.own)), (30, .ref 1 8 0 2), (29, .v (.bool false)), (3, .ref 1 8 0 0), (2, .ref 0 2 0 0)]
abbrev sfq49 : LS := [(39, .v (.bool true)), (3, .ref 1 8 0 0), (2, .ref 0 2 0 0)]
abbrev sfq50 (b : Bid) : AV := .agg [VI b.best.at_.time, VI b.best.at_.who, .v (.string b.best.data)]
abbrev sfq51 (b : Bid) : LS := [(41, (sfq50 b)), (40, .ref 1 8 0 4), (39, .v (.bool false)), (3, .ref 1 8 0 0), (2, .ref 0 2 0 0)]
abbrev sfq52 (b : Bid) : LS := [(5, VI b.best.checkE), (3, .ref 1 8 0 0), (2, .ref 0 2 0 0)]
abbrev sfq53 (v : Voters) (b : Bid) : LS := (49, .lst 1 (v.weights.map cI)) :: (48, .ref 0 2 0 0) :: (47, .v (.int .u64 (b.heard.n : Int))) :: (46, .ref 1 8 0 7) :: (44, .v (.bool false)) :: (sfq52 b)
theorem rbcheck_fn (v : Voters) (b : Bid) (hx : v.weights.length ≤ 9223372036854775807) : Fn Tryd.prog 21 [.agg [.lst 1 (v.weights.map cI), VI v.need], .agg [VI b.time, VI b.phase, .v (.string b.own), .v (.string b.value), VI b.best.at_.time, VI b.best.at_.who, .v (.string b.best.data), .v (.int .u64 (b.heard.n : Int))]] (VI (b.checkE v.weights v.need)) := by
  refine fn_walkW F21_ok (of_decide_eq_true (by kernel_rfl)) ?_
  refine EL.sreg ?_
  refine OW.last 3 [2, 3] (x' := ⟨[(3, .ref 1 8 0 0), (2, .ref 0 2 0 0)], (sfq41 v b)⟩) (by kernel_rfl) (by kernel_rfl) ?_
  refine EL.sreg ?_
  refine OW.run 4 (x' := ⟨(sfq42 v), (sfq41 v b)⟩) (by kernel_rfl) ?_
  refine OW.fn (ar := [.lst 1 (v.weights.map cI), VI v.need]) (x' := ⟨(10, VI (qcheckP v.weights v.need)) :: (sfq42 v), (sfq41 v b)⟩) (by kernel_rfl) (by kernel_rfl) F46_call (rqcheck_fn v.weights v.need (by first | omega | (simp; omega))) (by kernel_rfl) (by kernel_rfl) ?_
  refine OW.last 1 [2, 3, 5] (x' := ⟨(sfq43 v), (sfq41 v b)⟩) (by kernel_rfl) (by kernel_rfl) ?_
  refine EL.seq ?_
  refine EL.sreg ?_
  refine OW.last 2 [2, 3, 5, 12] (x' := ⟨(12, .v (.bool ((qcheckP v.weights v.need) != 0))) :: (sfq43 v), (sfq41 v b)⟩) (by kernel_rfl) (by kernel_rfl) ?_
  rcases Bool.eq_false_or_eq_true (((qcheckP v.weights v.need) != 0)) with h1 | h1
  rw [h1]
  have g1 : ¬ ((qcheckP v.weights v.need) = 0) := by simpa using h1
  refine EL.condT (by kernel_rfl) ?_
  refine EL.sreg ?_
  refine OW.last 2 [4] (x' := ⟨[(4, VI (qcheckP v.weights v.need))], (sfq41 v b)⟩) (by kernel_rfl) (by kernel_rfl) ?_
  refine EL.ret ?_
  refine thenL_ret ?_
  refine ⟨.inr rfl, VI (qcheckP v.weights v.need), by kernel_rfl, Ale.of_eq ?_⟩
  focus ((refine congrArg (fun n => VI n) ?_; (try simp only [len_ge] at *); simp only [Bid.checkE]; (repeat' split) <;> first | rfl | omega | (exfalso; omega) | contradiction | (simp_all; done) | (simp_all; omega) | trace_state))
  rw [h1]
  have g1 : ((qcheckP v.weights v.need) = 0) := by simpa using h1
  refine EL.condF (by kernel_rfl) ?_
  refine EL.skip ?_
  refine thenL_norm ?_
  refine EL.seq ?_
  refine EL.sreg ?_
  refine OW.run 4 (x' := ⟨(17, .v (.bool (decide (b.time < 1)))) :: (16, .v (.bool (decide (b.time < 1)))) :: (sfq44 b v), (sfq41 v b)⟩) (by kernel_rfl) ?_
  rcases Bool.eq_false_or_eq_true (decide (b.time < 1)) with h2 | h2
  rw [h2]
  have g2 : (b.time < 1) := of_decide_eq_true h2
  refine OW.last 4 [2, 3, 21] (x' := ⟨sfq45, (sfq41 v b)⟩) (by kernel_rfl) (by kernel_rfl) ?_
  refine EL.condT (by kernel_rfl) ?_
  refine EL.sreg ?_
  refine OW.last 1 [4] (x' := ⟨[(4, VI 3)], (sfq41 v b)⟩) (by kernel_rfl) (by kernel_rfl) ?_
  refine EL.ret ?_
  refine thenL_ret ?_
  refine ⟨.inr rfl, VI 3, by kernel_rfl, Ale.of_eq ?_⟩
  focus ((refine congrArg (fun n => VI n) ?_; (try simp only [len_ge] at *); simp only [Bid.checkE]; (repeat' split) <;> first | rfl | omega | (exfalso; omega) | contradiction | (simp_all; done) | (simp_all; omega) | trace_state))
  rw [h2]
  have g2 : ¬ (b.time < 1) := of_decide_eq_false h2
  refine OW.last 4 [2, 3, 21] (x' := ⟨[(21, .v (.bool (decide (b.time > 1000000)))), (3, .ref 1 8 0 0), (2, .ref 0 2 0 0)], (sfq41 v b)⟩) (by kernel_rfl) (by kernel_rfl) ?_
  rcases Bool.eq_false_or_eq_true (decide (b.time > 1000000)) with h3 | h3
  rw [h3]
  have g3 : (b.time > 1000000) := of_decide_eq_true h3
  refine EL.condT (by kernel_rfl) ?_
  refine EL.sreg ?_
  refine OW.last 1 [4] (x' := ⟨[(4, VI 3)], (sfq41 v b)⟩) (by kernel_rfl) (by kernel_rfl) ?_
  refine EL.ret ?_
  refine thenL_ret ?_
  refine ⟨.inr rfl, VI 3, by kernel_rfl, Ale.of_eq ?_⟩
  focus ((refine congrArg (fun n => VI n) ?_; (try simp only [len_ge] at *); simp only [Bid.checkE]; (repeat' split) <;> first | rfl | omega | (exfalso; omega) | contradiction | (simp_all; done) | (simp_all; omega) | trace_state))
  rw [h3]
  have g3 : ¬ (b.time > 1000000) := of_decide_eq_false h3
  refine EL.condF (by kernel_rfl) ?_
  refine EL.skip ?_
  refine thenL_norm ?_
  refine EL.seq ?_
  refine EL.sreg ?_
  refine OW.run 4 (x' := ⟨(25, .v (.bool (decide (b.phase < 1)))) :: (24, .v (.bool (decide (b.phase < 1)))) :: (sfq46 b), (sfq41 v b)⟩) (by kernel_rfl) ?_
  rcases Bool.eq_false_or_eq_true (decide (b.phase < 1)) with h4 | h4
  rw [h4]
  have g4 : (b.phase < 1) := of_decide_eq_true h4
  refine OW.last 4 [2, 3, 29] (x' := ⟨sfq47, (sfq41 v b)⟩) (by kernel_rfl) (by kernel_rfl) ?_
  refine EL.condT (by kernel_rfl) ?_
  refine EL.sreg ?_
  refine OW.last 1 [4] (x' := ⟨[(4, VI 7)], (sfq41 v b)⟩) (by kernel_rfl) (by kernel_rfl) ?_
  refine EL.ret ?_
  refine thenL_ret ?_
  refine ⟨.inr rfl, VI 7, by kernel_rfl, Ale.of_eq ?_⟩
  focus ((refine congrArg (fun n => VI n) ?_; (try simp only [len_ge] at *); simp only [Bid.checkE]; (repeat' split) <;> first | rfl | omega | (exfalso; omega) | contradiction | (simp_all; done) | (simp_all; omega) | trace_state))
  rw [h4]
  have g4 : ¬ (b.phase < 1) := of_decide_eq_false h4
  refine OW.last 4 [2, 3, 29] (x' := ⟨[(29, .v (.bool (decide (b.phase > 3)))), (3, .ref 1 8 0 0), (2, .ref 0 2 0 0)], (sfq41 v b)⟩) (by kernel_rfl) (by kernel_rfl) ?_
  rcases Bool.eq_false_or_eq_true (decide (b.phase > 3)) with h5 | h5
  rw [h5]
  have g5 : (b.phase > 3) := of_decide_eq_true h5
  refine EL.condT (by kernel_rfl) ?_
  refine EL.sreg ?_
  refine OW.last 1 [4] (x' := ⟨[(4, VI 7)], (sfq41 v b)⟩) (by kernel_rfl) (by kernel_rfl) ?_
  refine EL.ret ?_
  refine thenL_ret ?_
  refine ⟨.inr rfl, VI 7, by kernel_rfl, Ale.of_eq ?_⟩
  focus ((refine congrArg (fun n => VI n) ?_; (try simp only [len_ge] at *); simp only [Bid.checkE]; (repeat' split) <;> first | rfl | omega | (exfalso; omega) | contradiction | (simp_all; done) | (simp_all; omega) | trace_state))
  rw [h5]
  have g5 : ¬ (b.phase > 3) := of_decide_eq_false h5
  refine EL.condF (by kernel_rfl) ?_
  refine EL.skip ?_
  refine thenL_norm ?_
  refine EL.seq ?_
  refine EL.sreg ?_
  refine OW.run 5 (x' := ⟨(34, .v (.bool (decide ((ByteArray.size b.own : Int) > 64)))) :: (33, .v (.bool (decide ((ByteArray.size b.own : Int) > 64)))) :: (sfq48 b), (sfq41 v b)⟩) (by kernel_rfl) ?_
  rcases Bool.eq_false_or_eq_true (decide ((ByteArray.size b.own : Int) > 64)) with h6 | h6
  rw [h6]
  have g6 : ((ByteArray.size b.own : Int) > 64) := of_decide_eq_true h6
  have n6 : ((ByteArray.size b.own) > 64) := by omega
  refine OW.last 5 [2, 3, 39] (x' := ⟨sfq49, (sfq41 v b)⟩) (by kernel_rfl) (by kernel_rfl) ?_
  refine EL.condT (by kernel_rfl) ?_
  refine EL.sreg ?_
  refine OW.last 1 [4] (x' := ⟨[(4, VI 2)], (sfq41 v b)⟩) (by kernel_rfl) (by kernel_rfl) ?_
  refine EL.ret ?_
  refine thenL_ret ?_
  refine ⟨.inr rfl, VI 2, by kernel_rfl, Ale.of_eq ?_⟩
  focus ((refine congrArg (fun n => VI n) ?_; (try simp only [len_ge] at *); simp only [Bid.checkE]; (repeat' split) <;> first | rfl | omega | (exfalso; omega) | contradiction | (simp_all; done) | (simp_all; omega) | trace_state))
  rw [h6]
  have g6 : ¬ ((ByteArray.size b.own : Int) > 64) := of_decide_eq_false h6
  have n6 : ¬ ((ByteArray.size b.own) > 64) := by omega
  refine OW.last 5 [2, 3, 39] (x' := ⟨[(39, .v (.bool (decide ((ByteArray.size b.value : Int) > 64)))), (3, .ref 1 8 0 0), (2, .ref 0 2 0 0)], (sfq41 v b)⟩) (by kernel_rfl) (by kernel_rfl) ?_
  rcases Bool.eq_false_or_eq_true (decide ((ByteArray.size b.value : Int) > 64)) with h7 | h7
  rw [h7]
  have g7 : ((ByteArray.size b.value : Int) > 64) := of_decide_eq_true h7
  have n7 : ((ByteArray.size b.value) > 64) := by omega
  refine EL.condT (by kernel_rfl) ?_
  refine EL.sreg ?_
  refine OW.last 1 [4] (x' := ⟨[(4, VI 2)], (sfq41 v b)⟩) (by kernel_rfl) (by kernel_rfl) ?_
  refine EL.ret ?_
  refine thenL_ret ?_
  refine ⟨.inr rfl, VI 2, by kernel_rfl, Ale.of_eq ?_⟩
  focus ((refine congrArg (fun n => VI n) ?_; (try simp only [len_ge] at *); simp only [Bid.checkE]; (repeat' split) <;> first | rfl | omega | (exfalso; omega) | contradiction | (simp_all; done) | (simp_all; omega) | trace_state))
  rw [h7]
  have g7 : ¬ ((ByteArray.size b.value : Int) > 64) := of_decide_eq_false h7
  have n7 : ¬ ((ByteArray.size b.value) > 64) := by omega
  refine EL.condF (by kernel_rfl) ?_
  refine EL.skip ?_
  refine thenL_norm ?_
  refine EL.sreg ?_
  refine OW.run 2 (x' := ⟨(sfq51 b), (sfq41 v b)⟩) (by kernel_rfl) ?_
  refine OW.fn (ar := [(sfq50 b)]) (x' := ⟨(42, VI b.best.checkE) :: (sfq51 b), (sfq41 v b)⟩) (by kernel_rfl) (by kernel_rfl) F32_call (rccheck_fn b.best) (by kernel_rfl) (by kernel_rfl) ?_
  refine OW.last 1 [2, 3, 5] (x' := ⟨(sfq52 b), (sfq41 v b)⟩) (by kernel_rfl) (by kernel_rfl) ?_
  refine EL.seq ?_
  refine EL.sreg ?_
  refine OW.last 2 [2, 3, 5, 44] (x' := ⟨(44, .v (.bool (b.best.checkE != 0))) :: (sfq52 b), (sfq41 v b)⟩) (by kernel_rfl) (by kernel_rfl) ?_
  rcases Bool.eq_false_or_eq_true ((b.best.checkE != 0)) with h8 | h8
  rw [h8]
  have g8 : ¬ (b.best.checkE = 0) := by simpa using h8
  refine EL.condT (by kernel_rfl) ?_
  refine EL.sreg ?_
  refine OW.last 2 [4] (x' := ⟨[(4, VI b.best.checkE)], (sfq41 v b)⟩) (by kernel_rfl) (by kernel_rfl) ?_
  refine EL.ret ?_
  refine thenL_ret ?_
  refine ⟨.inr rfl, VI b.best.checkE, by kernel_rfl, Ale.of_eq ?_⟩
  focus ((refine congrArg (fun n => VI n) ?_; (try simp only [len_ge] at *); simp only [Bid.checkE]; (repeat' split) <;> first | rfl | omega | (exfalso; omega) | contradiction | (simp_all; done) | (simp_all; omega) | trace_state))
  rw [h8]
  have g8 : (b.best.checkE = 0) := by simpa using h8
  refine EL.condF (by kernel_rfl) ?_
  refine EL.skip ?_
  refine thenL_norm ?_
  refine EL.seq ?_
  refine EL.sdraw ?_
  refine DW.run 4 (x' := ⟨(sfq53 v b), (sfq41 v b)⟩) (by kernel_rfl) ?_
  refine DW.ope (v := VI (List.length v.weights : Int)) (u := []) (acc := []) (x' := ⟨(50, VI (List.length v.weights : Int)) :: (sfq53 v b), (sfq41 v b)⟩) (by kernel_rfl) (opE_len cI v.weights (.s 49) 1 (by kernel_rfl) (by kernel_rfl) (.inl rfl)) (by kernel_rfl) ?_
  refine DW.ope (v := .v (.int .u64 (IntKind.u64.wrap (1 * 2 ^ (min (Int.toNat (List.length v.weights : Int)) IntKind.u64.bits))))) (u := []) (acc := []) (x' := ⟨(51, .v (.int .u64 (IntKind.u64.wrap (1 * 2 ^ (min (Int.toNat (List.length v.weights : Int)) IntKind.u64.bits))))) :: (50, VI (List.length v.weights : Int)) :: (sfq53 v b), (sfq41 v b)⟩) (by kernel_rfl) (opE_shl (.c (.v (.int .u64 1))) (.s 50) .u64 .i64 1 (List.length v.weights : Int) (by kernel_rfl) (by kernel_rfl) (by kernel_rfl) (by kernel_rfl) (by have := qc_len (by assumption); omega)) (by kernel_rfl) ?_
  have e9 : IntKind.u64.wrap (1 * 2 ^ (min (Int.toNat (List.length v.weights : Int)) IntKind.u64.bits)) = ((2 ^ (Int.toNat (List.length v.weights : Int)) : Nat) : Int) := shl1 (by have := qc_len (by assumption); omega)
  rw [e9]
  refine DW.last 1 [52] (x' := ⟨[(52, .v (.bool (decide ((b.heard.n : Int) ≥ ((2 ^ (Int.toNat (List.length v.weights : Int)) : Nat) : Int)))))], (sfq41 v b)⟩) (by kernel_rfl) (by kernel_rfl) ?_
  rcases Bool.eq_false_or_eq_true (decide ((b.heard.n : Int) ≥ ((2 ^ (Int.toNat (List.length v.weights : Int)) : Nat) : Int))) with h10 | h10
  rw [h10]
  have g10 : ((b.heard.n : Int) ≥ ((2 ^ (Int.toNat (List.length v.weights : Int)) : Nat) : Int)) := of_decide_eq_true h10
  refine EL.condT (by kernel_rfl) ?_
  refine EL.sreg ?_
  refine OW.last 1 [4] (x' := ⟨[(4, VI 3)], (sfq41 v b)⟩) (by kernel_rfl) (by kernel_rfl) ?_
  refine EL.ret ?_
  refine thenL_ret ?_
  refine ⟨.inr rfl, VI 3, by kernel_rfl, Ale.of_eq ?_⟩
  focus ((refine congrArg (fun n => VI n) ?_; (try simp only [len_ge] at *); simp only [Bid.checkE]; (repeat' split) <;> first | rfl | omega | (exfalso; omega) | contradiction | (simp_all; done) | (simp_all; omega) | trace_state))
  rw [h10]
  have g10 : ¬ ((b.heard.n : Int) ≥ ((2 ^ (Int.toNat (List.length v.weights : Int)) : Nat) : Int)) := of_decide_eq_false h10
  refine EL.condF (by kernel_rfl) ?_
  refine EL.skip ?_
  refine thenL_norm ?_
  refine EL.sreg ?_
  refine OW.last 1 [4] (x' := ⟨[(4, VI 0)], (sfq41 v b)⟩) (by kernel_rfl) (by kernel_rfl) ?_
  refine EL.ret ?_
  refine ⟨.inr rfl, VI 0, by kernel_rfl, Ale.of_eq ?_⟩
  focus ((refine congrArg (fun n => VI n) ?_; (try simp only [len_ge] at *); simp only [Bid.checkE]; (repeat' split) <;> first | rfl | omega | (exfalso; omega) | contradiction | (simp_all; done) | (simp_all; omega) | trace_state))
abbrev sfq54 : OB := some ⟨8, [[VI 0, VI 0, .v (.string (⟨#[]⟩)), .v (.string (⟨#[]⟩)), VI 0, VI 0, .v (.string (⟨#[]⟩)), .v (.int .u64 0)]]⟩
abbrev sfq55 (no : Int) (time : Int) (own : ByteArray) : LS := [(8, .ref 1 8 0 0), (4, .ref 0 2 0 0), (1, VI no), (2, VI time), (3, .v (.string own))]
abbrev sfq56 (time : Int) (own : ByteArray) : OB := some ⟨8, [[VI time, VI 1, .v (.string own), .v (.string (⟨#[]⟩)), VI 0, VI 0, .v (.string (⟨#[]⟩)), .v (.int .u64 0)]]⟩
abbrev sfq57 (v : Voters) (time : Int) (own : ByteArray) : LB := [some ⟨2, [[.lst 1 (v.weights.map cI), VI v.need]]⟩, sfq54, (sfq56 time own)]
abbrev sfq58 (no : Int) (time : Int) : LS := [(11, .ref 2 8 0 0), (8, .ref 1 8 0 0), (4, .ref 0 2 0 0), (1, VI no), (2, VI time)]
abbrev sfq59 (time : Int) (own : ByteArray) : AV := .agg [VI time, VI 1, .v (.string own), .v (.string (⟨#[]⟩)), VI 0, VI 0, .v (.string (⟨#[]⟩)), .v (.int .u64 0)]
abbrev sfq60 (time : Int) (own : ByteArray) (v : Voters) (no : Int) : LS := (24, (sfq59 time own)) :: (23, .agg [.lst 1 (v.weights.map cI), VI v.need]) :: (sfq58 no time)
abbrev sfq61 (no : Int) (time : Int) : AV := .agg [VI 1, VI no, VI 0, VI time, VI no, .v (.string (⟨#[]⟩))]
abbrev sfq62 (v : Voters) (time : Int) (own : ByteArray) : LB := [some ⟨2, [[.lst 1 (v.weights.map cI), VI v.need]]⟩, (sfq56 time own), (sfq56 time own)]
abbrev sfq63 (v : Voters) (no : Int) (time : Int) : LS := [(10, VI 0), (9, .lst 6 ((toAllP (List.length v.weights : Int).toNat (⟨1, no, 0, (⟨(⟨time, no⟩ : Stamp), ⟨#[]⟩⟩ : Copy)⟩ : Vote)).map Vote.cs)), (8, .ref 1 8 0 0)]
theorem rbegin_fn (v : Voters) (no : Int) (time : Int) (own : ByteArray) (hx : v.weights.length ≤ 9223372036854775807) : Fn Tryd.prog 19 [.agg [.lst 1 (v.weights.map cI), VI v.need], VI no, VI time, .v (.string own)] (.tup [.agg [VI (((beginP v no time own).1).time), VI (((beginP v no time own).1).phase), .v (.string (((beginP v no time own).1).own)), .v (.string (((beginP v no time own).1).value)), VI (((((beginP v no time own).1).best).at_).time), VI (((((beginP v no time own).1).best).at_).who), .v (.string ((((beginP v no time own).1).best).data)), .v (.int .u64 (((beginP v no time own).1).heard.n : Int))], .lst 6 (((beginP v no time own).2.1).map Vote.cs), VI ((beginP v no time own).2.2)]) := by
  refine fn_walkW F19_ok (of_decide_eq_true (by kernel_rfl)) ?_
  refine EL.sreg ?_
  refine OW.last 4 [1, 2, 3, 4, 8] (x' := ⟨(sfq55 no time own), [some ⟨2, [[.lst 1 (v.weights.map cI), VI v.need]]⟩, sfq54]⟩) (by kernel_rfl) (by kernel_rfl) ?_
  refine EL.seq ?_
  refine EL.sreg ?_
  refine OW.run 3 (x' := ⟨(15, .v (.bool (decide (no < 0)))) :: (14, .v (.bool (decide (no < 0)))) :: (13, VI no) :: (sfq55 no time own), [some ⟨2, [[.lst 1 (v.weights.map cI), VI v.need]]⟩, sfq54]⟩) (by kernel_rfl) ?_
  rcases Bool.eq_false_or_eq_true (decide (no < 0)) with h1 | h1
  rw [h1]
  have g1 : (no < 0) := of_decide_eq_true h1
  refine OW.last 3 [1, 2, 3, 4, 8, 18] (x' := ⟨(18, .v (.bool true)) :: (sfq55 no time own), [some ⟨2, [[.lst 1 (v.weights.map cI), VI v.need]]⟩, sfq54]⟩) (by kernel_rfl) (by kernel_rfl) ?_
  refine EL.condT (by kernel_rfl) ?_
  refine EL.sreg ?_
  refine OW.last 4 [8, 9, 10] (x' := ⟨[(10, VI 3), (9, .emp), (8, .ref 1 8 0 0)], [some ⟨2, [[.lst 1 (v.weights.map cI), VI v.need]]⟩, sfq54]⟩) (by kernel_rfl) (by kernel_rfl) ?_
  refine EL.ret ?_
  refine thenL_ret ?_
  refine ⟨.inr rfl, .tup [.agg [VI 0, VI 0, .v (.string (⟨#[]⟩)), .v (.string (⟨#[]⟩)), VI 0, VI 0, .v (.string (⟨#[]⟩)), .v (.int .u64 0)], .emp, VI 3], by kernel_rfl, Ale.trans (b := .tup [.agg [VI 0, VI 0, .v (.string (⟨#[]⟩)), .v (.string (⟨#[]⟩)), VI 0, VI 0, .v (.string (⟨#[]⟩)), .v (.int .u64 0)], .lst 6 [], VI 3]) (Ale.tup (.cons (Ale.refl) (.cons (Ale.emp) (.cons (Ale.refl) (.nil))))) (Ale.of_eq ?_)⟩
  focus (first | (rw [beg_no (by omega)]; rfl) | (rw [beg_bad (by omega) (by assumption)]; first | rfl | (simp [Bid.zero, Bid.new]; done)) | (rw [beg_ok (by omega) (by assumption)]; first | rfl | (simp [Bid.zero, Bid.new, *]; done)))
  rw [h1]
  have g1 : ¬ (no < 0) := of_decide_eq_false h1
  refine OW.last 3 [1, 2, 3, 4, 8, 18] (x' := ⟨(18, .v (.bool (decide (no > 30)))) :: (sfq55 no time own), [some ⟨2, [[.lst 1 (v.weights.map cI), VI v.need]]⟩, sfq54]⟩) (by kernel_rfl) (by kernel_rfl) ?_
  rcases Bool.eq_false_or_eq_true (decide (no > 30)) with h2 | h2
  rw [h2]
  have g2 : (no > 30) := of_decide_eq_true h2
  refine EL.condT (by kernel_rfl) ?_
  refine EL.sreg ?_
  refine OW.last 4 [8, 9, 10] (x' := ⟨[(10, VI 3), (9, .emp), (8, .ref 1 8 0 0)], [some ⟨2, [[.lst 1 (v.weights.map cI), VI v.need]]⟩, sfq54]⟩) (by kernel_rfl) (by kernel_rfl) ?_
  refine EL.ret ?_
  refine thenL_ret ?_
  refine ⟨.inr rfl, .tup [.agg [VI 0, VI 0, .v (.string (⟨#[]⟩)), .v (.string (⟨#[]⟩)), VI 0, VI 0, .v (.string (⟨#[]⟩)), .v (.int .u64 0)], .emp, VI 3], by kernel_rfl, Ale.trans (b := .tup [.agg [VI 0, VI 0, .v (.string (⟨#[]⟩)), .v (.string (⟨#[]⟩)), VI 0, VI 0, .v (.string (⟨#[]⟩)), .v (.int .u64 0)], .lst 6 [], VI 3]) (Ale.tup (.cons (Ale.refl) (.cons (Ale.emp) (.cons (Ale.refl) (.nil))))) (Ale.of_eq ?_)⟩
  focus (first | (rw [beg_no (by omega)]; rfl) | (rw [beg_bad (by omega) (by assumption)]; first | rfl | (simp [Bid.zero, Bid.new]; done)) | (rw [beg_ok (by omega) (by assumption)]; first | rfl | (simp [Bid.zero, Bid.new, *]; done)))
  rw [h2]
  have g2 : ¬ (no > 30) := of_decide_eq_false h2
  refine EL.condF (by kernel_rfl) ?_
  refine EL.skip ?_
  refine thenL_norm ?_
  refine EL.sreg ?_
  refine OW.last 5 [1, 2, 4, 8, 11] (x' := ⟨(sfq58 no time), (sfq57 v time own)⟩) (by kernel_rfl) (by kernel_rfl) ?_
  refine EL.sreg ?_
  refine OW.run 2 (x' := ⟨(sfq60 time own v no), (sfq57 v time own)⟩) (by kernel_rfl) ?_
  refine OW.fn (ar := [.agg [.lst 1 (v.weights.map cI), VI v.need], (sfq59 time own)]) (x' := ⟨(25, VI ((⟨time, 1, own, ⟨#[]⟩, (⟨(⟨0, 0⟩ : Stamp), ⟨#[]⟩⟩ : Copy), (⟨0, by decide⟩ : U64)⟩ : Bid).checkE v.weights v.need)) :: (sfq60 time own v no), (sfq57 v time own)⟩) (by kernel_rfl) (by kernel_rfl) F21_call (rbcheck_fn v (⟨time, 1, own, ⟨#[]⟩, (⟨(⟨0, 0⟩ : Stamp), ⟨#[]⟩⟩ : Copy), (⟨0, by decide⟩ : U64)⟩ : Bid) hx) (by kernel_rfl) (by kernel_rfl) ?_
  refine OW.last 1 [1, 2, 4, 8, 11, 12] (x' := ⟨(12, VI ((⟨time, 1, own, ⟨#[]⟩, (⟨(⟨0, 0⟩ : Stamp), ⟨#[]⟩⟩ : Copy), (⟨0, by decide⟩ : U64)⟩ : Bid).checkE v.weights v.need)) :: (sfq58 no time), (sfq57 v time own)⟩) (by kernel_rfl) (by kernel_rfl) ?_
  refine EL.seq ?_
  refine EL.sreg ?_
  refine OW.last 2 [1, 2, 4, 8, 11, 12, 27] (x' := ⟨(27, .v (.bool (((⟨time, 1, own, ⟨#[]⟩, (⟨(⟨0, 0⟩ : Stamp), ⟨#[]⟩⟩ : Copy), (⟨0, by decide⟩ : U64)⟩ : Bid).checkE v.weights v.need) != 0))) :: (12, VI ((⟨time, 1, own, ⟨#[]⟩, (⟨(⟨0, 0⟩ : Stamp), ⟨#[]⟩⟩ : Copy), (⟨0, by decide⟩ : U64)⟩ : Bid).checkE v.weights v.need)) :: (sfq58 no time), (sfq57 v time own)⟩) (by kernel_rfl) (by kernel_rfl) ?_
  rcases Bool.eq_false_or_eq_true ((((⟨time, 1, own, ⟨#[]⟩, (⟨(⟨0, 0⟩ : Stamp), ⟨#[]⟩⟩ : Copy), (⟨0, by decide⟩ : U64)⟩ : Bid).checkE v.weights v.need) != 0)) with h3 | h3
  rw [h3]
  have g3 : ¬ (((⟨time, 1, own, ⟨#[]⟩, (⟨(⟨0, 0⟩ : Stamp), ⟨#[]⟩⟩ : Copy), (⟨0, by decide⟩ : U64)⟩ : Bid).checkE v.weights v.need) = 0) := by simpa using h3
  refine EL.condT (by kernel_rfl) ?_
  refine EL.sreg ?_
  refine OW.last 5 [8, 9, 10] (x' := ⟨[(10, VI ((⟨time, 1, own, ⟨#[]⟩, (⟨(⟨0, 0⟩ : Stamp), ⟨#[]⟩⟩ : Copy), (⟨0, by decide⟩ : U64)⟩ : Bid).checkE v.weights v.need)), (9, .emp), (8, .ref 1 8 0 0)], (sfq57 v time own)⟩) (by kernel_rfl) (by kernel_rfl) ?_
  refine EL.ret ?_
  refine thenL_ret ?_
  refine ⟨.inr rfl, .tup [.agg [VI 0, VI 0, .v (.string (⟨#[]⟩)), .v (.string (⟨#[]⟩)), VI 0, VI 0, .v (.string (⟨#[]⟩)), .v (.int .u64 0)], .emp, VI ((⟨time, 1, own, ⟨#[]⟩, (⟨(⟨0, 0⟩ : Stamp), ⟨#[]⟩⟩ : Copy), (⟨0, by decide⟩ : U64)⟩ : Bid).checkE v.weights v.need)], by kernel_rfl, Ale.trans (b := .tup [.agg [VI 0, VI 0, .v (.string (⟨#[]⟩)), .v (.string (⟨#[]⟩)), VI 0, VI 0, .v (.string (⟨#[]⟩)), .v (.int .u64 0)], .lst 6 [], VI ((⟨time, 1, own, ⟨#[]⟩, (⟨(⟨0, 0⟩ : Stamp), ⟨#[]⟩⟩ : Copy), (⟨0, by decide⟩ : U64)⟩ : Bid).checkE v.weights v.need)]) (Ale.tup (.cons (Ale.refl) (.cons (Ale.emp) (.cons (Ale.refl) (.nil))))) (Ale.of_eq ?_)⟩
  focus (first | (rw [beg_no (by omega)]; rfl) | (rw [beg_bad (by omega) (by assumption)]; first | rfl | (simp [Bid.zero, Bid.new]; done)) | (rw [beg_ok (by omega) (by assumption)]; first | rfl | (simp [Bid.zero, Bid.new, *]; done)))
  rw [h3]
  have g3 : (((⟨time, 1, own, ⟨#[]⟩, (⟨(⟨0, 0⟩ : Stamp), ⟨#[]⟩⟩ : Copy), (⟨0, by decide⟩ : U64)⟩ : Bid).checkE v.weights v.need) = 0) := by simpa using h3
  refine EL.condF (by kernel_rfl) ?_
  refine EL.skip ?_
  refine thenL_norm ?_
  refine EL.sdraw ?_
  refine DW.run 3 (x' := ⟨(32, .lst 1 (v.weights.map cI)) :: (31, .ref 0 2 0 0) :: (30, (sfq59 time own)) :: (27, .v (.bool false)) :: (12, VI ((⟨time, 1, own, ⟨#[]⟩, (⟨(⟨0, 0⟩ : Stamp), ⟨#[]⟩⟩ : Copy), (⟨0, by decide⟩ : U64)⟩ : Bid).checkE v.weights v.need)) :: (sfq58 no time), (sfq57 v time own)⟩) (by kernel_rfl) ?_
  refine DW.ope (v := VI (List.length v.weights : Int)) (u := []) (acc := []) (x' := ⟨(33, VI (List.length v.weights : Int)) :: (32, .lst 1 (v.weights.map cI)) :: (31, .ref 0 2 0 0) :: (30, (sfq59 time own)) :: (27, .v (.bool false)) :: (12, VI ((⟨time, 1, own, ⟨#[]⟩, (⟨(⟨0, 0⟩ : Stamp), ⟨#[]⟩⟩ : Copy), (⟨0, by decide⟩ : U64)⟩ : Bid).checkE v.weights v.need)) :: (sfq58 no time), (sfq57 v time own)⟩) (by kernel_rfl) (opE_len cI v.weights (.s 32) 1 (by kernel_rfl) (by kernel_rfl) (.inl rfl)) (by kernel_rfl) ?_
  refine DW.run 6 (x' := ⟨(39, (sfq61 no time)) :: (38, .agg [VI time, VI no, .v (.string (⟨#[]⟩))]) :: (37, .agg [VI time, VI no]) :: (36, VI no) :: (35, VI time) :: (34, VI no) :: (33, VI (List.length v.weights : Int)) :: (32, .lst 1 (v.weights.map cI)) :: (31, .ref 0 2 0 0) :: (30, (sfq59 time own)) :: (27, .v (.bool false)) :: (12, VI ((⟨time, 1, own, ⟨#[]⟩, (⟨(⟨0, 0⟩ : Stamp), ⟨#[]⟩⟩ : Copy), (⟨0, by decide⟩ : U64)⟩ : Bid).checkE v.weights v.need)) :: (sfq58 no time), (sfq57 v time own)⟩) (by kernel_rfl) ?_
  refine DW.fn (ar := [VI (List.length v.weights : Int), (sfq61 no time)]) (x' := ⟨(40, .lst 6 ((toAllP (List.length v.weights : Int).toNat (⟨1, no, 0, (⟨(⟨time, no⟩ : Stamp), ⟨#[]⟩⟩ : Copy)⟩ : Vote)).map Vote.cs)) :: (39, (sfq61 no time)) :: (38, .agg [VI time, VI no, .v (.string (⟨#[]⟩))]) :: (37, .agg [VI time, VI no]) :: (36, VI no) :: (35, VI time) :: (34, VI no) :: (33, VI (List.length v.weights : Int)) :: (32, .lst 1 (v.weights.map cI)) :: (31, .ref 0 2 0 0) :: (30, (sfq59 time own)) :: (27, .v (.bool false)) :: (12, VI ((⟨time, 1, own, ⟨#[]⟩, (⟨(⟨0, 0⟩ : Stamp), ⟨#[]⟩⟩ : Copy), (⟨0, by decide⟩ : U64)⟩ : Bid).checkE v.weights v.need)) :: (sfq58 no time), (sfq57 v time own)⟩) (by kernel_rfl) (by kernel_rfl) F43_call (rtoAll_fn (List.length v.weights : Int) (⟨1, no, 0, (⟨(⟨time, no⟩ : Stamp), ⟨#[]⟩⟩ : Copy)⟩ : Vote) (by have := bid_len (by assumption); omega)) (by kernel_rfl) (by kernel_rfl) ?_
  refine DW.last 3 [8, 9, 10] (x' := ⟨(sfq63 v no time), (sfq62 v time own)⟩) (by kernel_rfl) (by kernel_rfl) ?_
  refine EL.ret ?_
  refine ⟨.inr rfl, .tup [.agg [VI time, VI 1, .v (.string own), .v (.string (⟨#[]⟩)), VI 0, VI 0, .v (.string (⟨#[]⟩)), .v (.int .u64 0)], .lst 6 ((toAllP (List.length v.weights : Int).toNat (⟨1, no, 0, (⟨(⟨time, no⟩ : Stamp), ⟨#[]⟩⟩ : Copy)⟩ : Vote)).map Vote.cs), VI 0], by kernel_rfl, Ale.of_eq ?_⟩
  focus (first | (rw [beg_no (by omega)]; rfl) | (rw [beg_bad (by omega) (by assumption)]; first | rfl | (simp [Bid.zero, Bid.new]; done)) | (rw [beg_ok (by omega) (by assumption)]; first | rfl | (simp [Bid.zero, Bid.new, *]; done)))
def badC : List Copy → Int
  | [] => 0
  | c :: r => if c.checkE ≠ 0 then c.checkE else badC r
def Copy.zero : Copy := ⟨⟨0, 0⟩, ⟨#[]⟩⟩
/-- Is one of these above a stamp? -/
def aboveC (s : Stamp) : List Copy → Bool
  | [] => false
  | c :: r => decide (s.lt c.at_) || aboveC s r
def topC (l : List Copy) : List Copy → Copy
  | [] => Copy.zero
  | c :: r => if aboveC c.at_ l = true then topC l r else c
def mergedP (l : List Copy) : Copy × Int := if l.length > 12 then (Copy.zero, 2) else if badC l ≠ 0 then (Copy.zero, badC l) else (topC l l, 0)
theorem lt_irrefl' {s : Stamp} : ¬ s.lt s := by unfold Stamp.lt; omega
theorem lt_asymm' {s t : Stamp} (h : s.lt t) : ¬ t.lt s := by unfold Stamp.lt at *; omega
theorem merged_two {c d : Copy} (hc : c.checkE = 0) (hd : d.checkE = 0) : mergedP [c, d] = (c.raw d, 0) := by
  have hb : badC [c, d] = 0 := by simp [badC, hc, hd]
  unfold mergedP
  rw [if_neg (by simp), if_neg (fun h => h hb)]
  unfold Copy.raw
  by_cases h : c.at_.lt d.at_
  · simp [topC, aboveC, h, lt_irrefl', lt_asymm' h]
  · simp [topC, aboveC, h, lt_irrefl']
abbrev sfq64 (l : List Copy) : LS := [(9, .lst 3 (l.map Copy.cs)), (2, .ref 0 3 0 0), (0, .lst 3 (l.map Copy.cs))]
abbrev sfq65 (l : List Copy) : LS := [(4, VI 0), (2, .ref 0 3 0 0), (0, .lst 3 (l.map Copy.cs))]
abbrev sfq66 (l : List Copy) (k : Nat) : LS := [(0, .lst 3 (l.map Copy.cs)), (2, .ref 0 3 0 0), (4, VI (k : Int))]
abbrev sfq67 (l : List Copy) (k : Nat) : LS := (14, .lst 3 (l.map Copy.cs)) :: (13, VI (k : Int)) :: (sfq66 l k)
abbrev sfq68 (k : Nat) (l : List Copy) : LS := (20, VI (k : Int)) :: (19, .lst 3 (l.map Copy.cs)) :: (16, .v (.bool true)) :: (sfq66 l k)
abbrev sfq69 (a5 : Copy) (k : Nat) (l : List Copy) : LS := (21, .pim [VI a5.at_.time, VI a5.at_.who, .v (.string a5.data)] 0) :: (sfq68 k l)
abbrev sfq70 (a5 : Copy) (k : Nat) (l : List Copy) : LS := (22, .agg [VI a5.at_.time, VI a5.at_.who, .v (.string a5.data)]) :: (sfq69 a5 k l)
abbrev sfq71 (k : Nat) (a5 : Copy) (l : List Copy) : LS := [(17, VI (k : Int)), (25, .v (.bool false)), (5, VI a5.checkE), (0, .lst 3 (l.map Copy.cs)), (2, .ref 0 3 0 0)]
abbrev sfq72 (k : Nat) (a5 : Copy) (l : List Copy) : LS := (4, VI ((k : Int) + 1)) :: (18, VI ((k : Int) + 1)) :: (sfq71 k a5 l)
abbrev sfq73 (l : List Copy) : LS := [(6, VI 0), (0, .lst 3 (l.map Copy.cs)), (2, .ref 0 3 0 0)]
abbrev sfq74 (l : List Copy) (j : Nat) : LS := [(0, .lst 3 (l.map Copy.cs)), (2, .ref 0 3 0 0), (6, VI (j : Int))]
abbrev sfq75 (l : List Copy) (j : Nat) : LS := (29, .lst 3 (l.map Copy.cs)) :: (28, VI (j : Int)) :: (sfq74 l j)
abbrev sfq76 (l : List Copy) (j : Nat) (i : Nat) : LS := [(7, .v (.bool true)), (53, .v (.bool true)), (52, .v undef), (51, .v undef), (50, .v undef), (49, .v undef), (48, .v undef), (47, .v undef), (46, .v undef), (45, .v undef), (44, .v undef), (43, .v undef), (42, .v undef), (41, .v (.bool true)), (40, .v (.bool true)), (37, .v (.bool true)), (0, .lst 3 (l.map Copy.cs)), (2, .ref 0 3 0 0), (6, VI (j : Int)), (8, VI (i : Int))]
abbrev sfq77 (i : Nat) (l : List Copy) (j : Nat) : LS := (38, VI (i : Int)) :: (7, .v (.bool true)) :: (53, .v (.bool true)) :: (52, .v undef) :: (51, .v undef) :: (50, .v undef) :: (49, .v undef) :: (48, .v undef) :: (47, .v undef) :: (46, .v undef) :: (45, .v undef) :: (44, .v undef) :: (43, .v undef) :: (42, .v undef) :: (41, .v (.bool true)) :: (40, .v (.bool true)) :: (37, .v (.bool true)) :: (sfq74 l j)
abbrev sfq78 (i : Nat) (l : List Copy) (j : Nat) : LS := (8, VI ((i : Int) + 1)) :: (39, VI ((i : Int) + 1)) :: (sfq77 i l j)
abbrev sfq79 (j : Nat) (l : List Copy) (i : Nat) : LS := [(43, VI (j : Int)), (42, .lst 3 (l.map Copy.cs)), (41, .v (.bool false)), (40, .v (.bool false)), (37, .v (.bool true)), (0, .lst 3 (l.map Copy.cs)), (2, .ref 0 3 0 0), (6, VI (j : Int)), (7, .v (.bool false)), (8, VI (i : Int))]
abbrev sfq80 (a15 : Copy) (j : Nat) (l : List Copy) (i : Nat) : LS := (44, .pim [VI a15.at_.time, VI a15.at_.who, .v (.string a15.data)] 0) :: (sfq79 j l i)
abbrev sfq81 (i : Nat) (l : List Copy) (a15 : Copy) (j : Nat) : LS := (48, VI (i : Int)) :: (47, .lst 3 (l.map Copy.cs)) :: (46, .agg [VI a15.at_.time, VI a15.at_.who]) :: (45, .pim [VI a15.at_.time, VI a15.at_.who, .v (.string a15.data)] 0) :: (sfq80 a15 j l i)
abbrev sfq82 (a17 : Copy) (i : Nat) (l : List Copy) (a15 : Copy) (j : Nat) : LS := (49, .pim [VI a17.at_.time, VI a17.at_.who, .v (.string a17.data)] 0) :: (sfq81 i l a15 j)
abbrev sfq83 (a17 : Copy) (i : Nat) (l : List Copy) (a15 : Copy) (j : Nat) : LS := (51, .agg [VI a17.at_.time, VI a17.at_.who]) :: (50, .pim [VI a17.at_.time, VI a17.at_.who, .v (.string a17.data)] 0) :: (sfq82 a17 i l a15 j)
abbrev sfq84 (a17 : Copy) (i : Nat) (l : List Copy) (a15 : Copy) (j : Nat) : LS := [(51, .agg [VI a17.at_.time, VI a17.at_.who]), (50, .pim [VI a17.at_.time, VI a17.at_.who, .v (.string a17.data)] 0), (49, .pim [VI a17.at_.time, VI a17.at_.who, .v (.string a17.data)] 0), (48, VI (i : Int)), (47, .lst 3 (l.map Copy.cs)), (46, .agg [VI a15.at_.time, VI a15.at_.who]), (45, .pim [VI a15.at_.time, VI a15.at_.who, .v (.string a15.data)] 0), (44, .pim [VI a15.at_.time, VI a15.at_.who, .v (.string a15.data)] 0), (43, VI (j : Int)), (42, .lst 3 (l.map Copy.cs)), (41, .v (.bool false)), (40, .v (.bool false)), (37, .v (.bool true)), (0, .lst 3 (l.map Copy.cs)), (2, .ref 0 3 0 0), (6, VI (j : Int)), (8, VI (i : Int))]
abbrev sfq85 (a17 : Copy) (i : Nat) (l : List Copy) (a15 : Copy) (j : Nat) : LS := (51, .agg [VI a17.at_.time, VI a17.at_.who]) :: (50, .pim [VI a17.at_.time, VI a17.at_.who, .v (.string a17.data)] 0) :: (49, .pim [VI a17.at_.time, VI a17.at_.who, .v (.string a17.data)] 0) :: (48, VI (i : Int)) :: (47, .lst 3 (l.map Copy.cs)) :: (46, .agg [VI a15.at_.time, VI a15.at_.who]) :: (45, .pim [VI a15.at_.time, VI a15.at_.who, .v (.string a15.data)] 0) :: (44, .pim [VI a15.at_.time, VI a15.at_.who, .v (.string a15.data)] 0) :: (43, VI (j : Int)) :: (42, .lst 3 (l.map Copy.cs)) :: (41, .v (.bool false)) :: (40, .v (.bool false)) :: (37, .v (.bool true)) :: (sfq74 l j)
abbrev sfq86 (j : Nat) (l : List Copy) : LS := [(32, VI (j : Int)), (55, .v (.bool false)), (0, .lst 3 (l.map Copy.cs)), (2, .ref 0 3 0 0)]
abbrev sfq87 (j : Nat) (l : List Copy) : LS := (6, VI ((j : Int) + 1)) :: (33, VI ((j : Int) + 1)) :: (sfq86 j l)
abbrev sfq88 (j : Nat) (l : List Copy) : LS := (57, VI (j : Int)) :: (56, .lst 3 (l.map Copy.cs)) :: (55, .v (.bool true)) :: (sfq74 l j)
abbrev sfq89 (a22 : Copy) (j : Nat) (l : List Copy) : LS := (58, .pim [VI a22.at_.time, VI a22.at_.who, .v (.string a22.data)] 0) :: (sfq88 j l)
abbrev sfq90 (a22 : Copy) : OB := some ⟨3, [[VI a22.at_.time, VI a22.at_.who, .v (.string a22.data)]]⟩
abbrev sfq91 (a22 : Copy) : AV := .agg [VI a22.at_.time, VI a22.at_.who, .v (.string a22.data)]
theorem merged_fn (l : List Copy) (hx : l.length ≤ 9223372036854775807) : Fn Tryd.prog 41 [.lst 3 (l.map Copy.cs)] (.tup [.agg [VI ((((mergedP l).1).at_).time), VI ((((mergedP l).1).at_).who), .v (.string (((mergedP l).1).data))], VI ((mergedP l).2)]) := by
  refine fn_walkW F41_ok (of_decide_eq_true (by kernel_rfl)) ?_
  refine EL.sreg ?_
  refine OW.last 2 [0, 2] (x' := ⟨[(2, .ref 0 3 0 0), (0, .lst 3 (l.map Copy.cs))], [some ⟨3, [[VI 0, VI 0, .v (.string (⟨#[]⟩))]]⟩]⟩) (by kernel_rfl) (by kernel_rfl) ?_
  refine EL.seq ?_
  refine EL.sreg ?_
  refine OW.run 1 (x' := ⟨(sfq64 l), [some ⟨3, [[VI 0, VI 0, .v (.string (⟨#[]⟩))]]⟩]⟩) (by kernel_rfl) ?_
  refine OW.ope (v := VI (List.length l : Int)) (u := []) (acc := []) (x' := ⟨(10, VI (List.length l : Int)) :: (sfq64 l), [some ⟨3, [[VI 0, VI 0, .v (.string (⟨#[]⟩))]]⟩]⟩) (by kernel_rfl) (opE_len Copy.cs l (.s 9) 3 (by kernel_rfl) (by kernel_rfl) (.inl rfl)) (by kernel_rfl) ?_
  refine OW.last 1 [0, 2, 11] (x' := ⟨[(11, .v (.bool (decide ((List.length l : Int) > 12)))), (2, .ref 0 3 0 0), (0, .lst 3 (l.map Copy.cs))], [some ⟨3, [[VI 0, VI 0, .v (.string (⟨#[]⟩))]]⟩]⟩) (by kernel_rfl) (by kernel_rfl) ?_
  rcases Bool.eq_false_or_eq_true (decide ((List.length l : Int) > 12)) with h1 | h1
  rw [h1]
  have g1 : ((List.length l : Int) > 12) := of_decide_eq_true h1
  have n1 : ((List.length l) > 12) := by omega
  refine EL.condT (by kernel_rfl) ?_
  refine EL.sreg ?_
  refine OW.last 3 [2, 3] (x' := ⟨[(3, VI 2), (2, .ref 0 3 0 0)], [some ⟨3, [[VI 0, VI 0, .v (.string (⟨#[]⟩))]]⟩]⟩) (by kernel_rfl) (by kernel_rfl) ?_
  refine EL.ret ?_
  refine thenL_ret ?_
  refine ⟨.inr rfl, .tup [.agg [VI 0, VI 0, .v (.string (⟨#[]⟩))], VI 2], by kernel_rfl, Ale.of_eq ?_⟩
  focus (first | (rw [mergedP, if_pos (by omega)]; rfl) | (have hb9 : badC l ≠ 0 := (by rw [hs, ‹l.drop k = _›, badC, if_pos (by assumption)]; assumption); rw [mergedP, if_neg (by omega), if_pos hb9, hs, ‹l.drop k = _›, badC, if_pos (by assumption)]; rfl) | (rw [mergedP, if_neg (by omega), if_neg (fun hh => hh hb), ht, List.drop_eq_nil_of_le (by omega)]; rfl) | (have hq := ha _ (by assumption); rw [List.drop_eq_nil_of_le (by omega)] at hq; rw [mergedP, if_neg (by omega), if_neg (fun hh => hh hb), ht, ‹l.drop j = _›, topC, if_neg (by rw [← hq]; simp [*, aboveC])]))
  rw [h1]
  have g1 : ¬ ((List.length l : Int) > 12) := of_decide_eq_false h1
  have n1 : ¬ ((List.length l) > 12) := by omega
  refine EL.condF (by kernel_rfl) ?_
  refine EL.skip ?_
  refine thenL_norm ?_
  refine EL.seq ?_
  refine EL.sreg ?_
  refine OW.last 1 [0, 2, 4] (x' := ⟨(sfq65 l), [some ⟨3, [[VI 0, VI 0, .v (.string (⟨#[]⟩))]]⟩]⟩) (by kernel_rfl) (by kernel_rfl) ?_
  refine EL.block ?_
  refine EL.loopN (fun mM xX => ∃ (k : Nat), mM = l.length - k ∧ (k ≤ l.length ∧ l.length ≤ 12 ∧ badC l = badC (l.drop k)) ∧ xX = ⟨(sfq66 l k), [some ⟨3, [[VI 0, VI 0, .v (.string (⟨#[]⟩))]]⟩]⟩) (y := (fun (k : Nat) => (⟨(sfq66 l k), [some ⟨3, [[VI 0, VI 0, .v (.string (⟨#[]⟩))]]⟩]⟩ : L3)) 0) [0, 2, 4] [.old 0 false] [] (by kernel_rfl) trivial ⟨0, rfl, by simp; omega, rfl⟩ ?_
  rintro _ _ ⟨k, rfl, hI2, rfl⟩
  obtain ⟨hk, hl, hs⟩ := hI2
  refine EL.seq ?_
  refine EL.sreg ?_
  refine OW.run 2 (x' := ⟨(sfq67 l k), [some ⟨3, [[VI 0, VI 0, .v (.string (⟨#[]⟩))]]⟩]⟩) (by kernel_rfl) ?_
  refine OW.ope (v := VI (List.length l : Int)) (u := []) (acc := []) (x' := ⟨(15, VI (List.length l : Int)) :: (sfq67 l k), [some ⟨3, [[VI 0, VI 0, .v (.string (⟨#[]⟩))]]⟩]⟩) (by kernel_rfl) (opE_len Copy.cs l (.s 14) 3 (by kernel_rfl) (by kernel_rfl) (.inl rfl)) (by kernel_rfl) ?_
  refine OW.last 1 [0, 2, 4, 16] (x' := ⟨(16, .v (.bool (decide ((k : Int) < (List.length l : Int))))) :: (sfq66 l k), [some ⟨3, [[VI 0, VI 0, .v (.string (⟨#[]⟩))]]⟩]⟩) (by kernel_rfl) (by kernel_rfl) ?_
  rcases Bool.eq_false_or_eq_true (decide ((k : Int) < (List.length l : Int))) with h3 | h3
  rw [h3]
  have g3 : ((k : Int) < (List.length l : Int)) := of_decide_eq_true h3
  have n3 : ((k) < (List.length l)) := by omega
  refine EL.condT (by kernel_rfl) ?_
  refine EL.skip ?_
  refine thenL_norm ?_
  refine EL.seq ?_
  refine EL.block ?_
  refine EL.sreg ?_
  refine OW.run 2 (x' := ⟨(sfq68 k l), [some ⟨3, [[VI 0, VI 0, .v (.string (⟨#[]⟩))]]⟩]⟩) (by kernel_rfl) ?_
  obtain ⟨a5, ha5⟩ : ∃ y, l[((k : Int) : Int).toNat]? = some y := idx_ex ⟨by omega, by omega⟩
  have iha5 : l[k]? = some a5 := by simpa using ha5
  have dha5 := drop_get iha5
  refine OW.ope (v := .pim [VI a5.at_.time, VI a5.at_.who, .v (.string a5.data)] 0) (u := []) (acc := []) (x' := ⟨(sfq69 a5 k l), [some ⟨3, [[VI 0, VI 0, .v (.string (⟨#[]⟩))]]⟩]⟩) (by kernel_rfl) (opE_iad Copy.cs l (.s 19) (.s 20) 3 .i64 (k : Int) a5 (by kernel_rfl) (by kernel_rfl) (.inl rfl) rfl (by omega) ha5) (by kernel_rfl) ?_
  refine OW.run 1 (x' := ⟨(sfq70 a5 k l), [some ⟨3, [[VI 0, VI 0, .v (.string (⟨#[]⟩))]]⟩]⟩) (by kernel_rfl) ?_
  refine OW.fn (ar := [.agg [VI a5.at_.time, VI a5.at_.who, .v (.string a5.data)]]) (x' := ⟨(23, VI a5.checkE) :: (sfq70 a5 k l), [some ⟨3, [[VI 0, VI 0, .v (.string (⟨#[]⟩))]]⟩]⟩) (by kernel_rfl) (by kernel_rfl) F32_call (rccheck_fn a5) (by kernel_rfl) (by kernel_rfl) ?_
  refine OW.last 1 [0, 2, 4, 5] (x' := ⟨(5, VI a5.checkE) :: (sfq66 l k), [some ⟨3, [[VI 0, VI 0, .v (.string (⟨#[]⟩))]]⟩]⟩) (by kernel_rfl) (by kernel_rfl) ?_
  refine EL.sreg ?_
  refine OW.last 2 [0, 2, 4, 5, 25] (x' := ⟨(25, .v (.bool (a5.checkE != 0))) :: (5, VI a5.checkE) :: (sfq66 l k), [some ⟨3, [[VI 0, VI 0, .v (.string (⟨#[]⟩))]]⟩]⟩) (by kernel_rfl) (by kernel_rfl) ?_
  rcases Bool.eq_false_or_eq_true ((a5.checkE != 0)) with h6 | h6
  rw [h6]
  have g6 : ¬ (a5.checkE = 0) := by simpa using h6
  refine EL.condT (by kernel_rfl) ?_
  refine EL.sreg ?_
  refine OW.last 4 [2, 3] (x' := ⟨[(3, VI a5.checkE), (2, .ref 0 3 0 0)], [some ⟨3, [[VI 0, VI 0, .v (.string (⟨#[]⟩))]]⟩]⟩) (by kernel_rfl) (by kernel_rfl) ?_
  refine EL.ret ?_
  refine inBlk_ret ?_
  refine thenL_ret ?_
  refine thenL_ret ?_
  refine inBlk_ret ?_
  refine thenL_ret ?_
  refine ⟨.inr rfl, .tup [.agg [VI 0, VI 0, .v (.string (⟨#[]⟩))], VI a5.checkE], by kernel_rfl, Ale.of_eq ?_⟩
  focus (first | (rw [mergedP, if_pos (by omega)]; rfl) | (have hb9 : badC l ≠ 0 := (by rw [hs, ‹l.drop k = _›, badC, if_pos (by assumption)]; assumption); rw [mergedP, if_neg (by omega), if_pos hb9, hs, ‹l.drop k = _›, badC, if_pos (by assumption)]; rfl) | (rw [mergedP, if_neg (by omega), if_neg (fun hh => hh hb), ht, List.drop_eq_nil_of_le (by omega)]; rfl) | (have hq := ha _ (by assumption); rw [List.drop_eq_nil_of_le (by omega)] at hq; rw [mergedP, if_neg (by omega), if_neg (fun hh => hh hb), ht, ‹l.drop j = _›, topC, if_neg (by rw [← hq]; simp [*, aboveC])]))
  rw [h6]
  have g6 : (a5.checkE = 0) := by simpa using h6
  refine EL.condF (by kernel_rfl) ?_
  refine EL.skip ?_
  refine inBlk_norm ?_
  refine thenL_norm ?_
  refine EL.reg0 ?_
  refine OW.run 3 (x' := ⟨(4, VI (IntKind.i64.wrap ((k : Int) + 1))) :: (18, VI (IntKind.i64.wrap ((k : Int) + 1))) :: (sfq71 k a5 l), [some ⟨3, [[VI 0, VI 0, .v (.string (⟨#[]⟩))]]⟩]⟩) (by kernel_rfl) ?_
  have e7 : IntKind.i64.wrap ((k : Int) + 1) = (k : Int) + 1 := wr64 (by omega)
  rw [e7]
  refine OW.end 0 (x' := ⟨(sfq72 k a5 l), [some ⟨3, [[VI 0, VI 0, .v (.string (⟨#[]⟩))]]⟩]⟩) (by kernel_rfl) (by kernel_rfl) ?_
  refine thenL_norm ?_
  refine round_end (live := [0, 2, 4]) (src := [.old 0 false]) (es := []) (y := (fun (k : Nat) => (⟨(sfq66 l k), [some ⟨3, [[VI 0, VI 0, .v (.string (⟨#[]⟩))]]⟩]⟩ : L3)) (k + 1)) ?_ trivial ?_ ⟨(k + 1), rfl, ?_, rfl⟩
  kernel_rfl
  omega
  focus ((refine ⟨by omega, hl, ?_⟩; rw [hs, ‹l.drop k = _›, badC, if_neg (by omega)]))
  rw [h3]
  have g3 : ¬ ((k : Int) < (List.length l : Int)) := of_decide_eq_false h3
  have n3 : ¬ ((k) < (List.length l)) := by omega
  refine EL.condF (by kernel_rfl) ?_
  refine EL.exit ?_
  refine thenL_exit ?_
  refine thenL_exit ?_
  refine inBlk_hit ?_
  refine thenL_norm ?_
  refine EL.seq ?_
  refine EL.sreg ?_
  refine OW.last 1 [0, 2, 6] (x' := ⟨(sfq73 l), [some ⟨3, [[VI 0, VI 0, .v (.string (⟨#[]⟩))]]⟩]⟩) (by kernel_rfl) (by kernel_rfl) ?_
  refine EL.block ?_
  refine EL.loopN (fun mM xX => ∃ (j : Nat), mM = l.length - j ∧ (j ≤ l.length ∧ l.length ≤ 12 ∧ badC l = 0 ∧ topC l l = topC l (l.drop j)) ∧ xX = ⟨(sfq74 l j), [some ⟨3, [[VI 0, VI 0, .v (.string (⟨#[]⟩))]]⟩]⟩) (y := (fun (j : Nat) => (⟨(sfq74 l j), [some ⟨3, [[VI 0, VI 0, .v (.string (⟨#[]⟩))]]⟩]⟩ : L3)) 0) [0, 2, 6] [.old 0 false] [] (by kernel_rfl) trivial ⟨0, rfl, by rw [List.drop_eq_nil_of_le (by omega)] at hs; exact ⟨by omega, by omega, hs, by simp⟩, rfl⟩ ?_
  rintro _ _ ⟨j, rfl, hI8, rfl⟩
  obtain ⟨hj, hl', hb, ht⟩ := hI8
  refine EL.seq ?_
  refine EL.sreg ?_
  refine OW.run 2 (x' := ⟨(sfq75 l j), [some ⟨3, [[VI 0, VI 0, .v (.string (⟨#[]⟩))]]⟩]⟩) (by kernel_rfl) ?_
  refine OW.ope (v := VI (List.length l : Int)) (u := []) (acc := []) (x' := ⟨(30, VI (List.length l : Int)) :: (sfq75 l j), [some ⟨3, [[VI 0, VI 0, .v (.string (⟨#[]⟩))]]⟩]⟩) (by kernel_rfl) (opE_len Copy.cs l (.s 29) 3 (by kernel_rfl) (by kernel_rfl) (.inl rfl)) (by kernel_rfl) ?_
  refine OW.last 1 [0, 2, 6, 31] (x' := ⟨(31, .v (.bool (decide ((j : Int) < (List.length l : Int))))) :: (sfq74 l j), [some ⟨3, [[VI 0, VI 0, .v (.string (⟨#[]⟩))]]⟩]⟩) (by kernel_rfl) (by kernel_rfl) ?_
  rcases Bool.eq_false_or_eq_true (decide ((j : Int) < (List.length l : Int))) with h9 | h9
  rw [h9]
  have g9 : ((j : Int) < (List.length l : Int)) := of_decide_eq_true h9
  have n9 : ((j) < (List.length l)) := by omega
  refine EL.condT (by kernel_rfl) ?_
  refine EL.skip ?_
  refine thenL_norm ?_
  refine EL.seq ?_
  refine EL.block ?_
  refine EL.sreg ?_
  refine OW.last 1 [0, 2, 6, 7] (x' := ⟨(7, .v (.bool false)) :: (sfq74 l j), [some ⟨3, [[VI 0, VI 0, .v (.string (⟨#[]⟩))]]⟩]⟩) (by kernel_rfl) (by kernel_rfl) ?_
  refine EL.seq ?_
  refine EL.sreg ?_
  refine OW.last 1 [0, 2, 6, 7, 8] (x' := ⟨(8, VI 0) :: (7, .v (.bool false)) :: (sfq74 l j), [some ⟨3, [[VI 0, VI 0, .v (.string (⟨#[]⟩))]]⟩]⟩) (by kernel_rfl) (by kernel_rfl) ?_
  refine EL.block ?_
  refine EL.loopN (fun mM xX => ∃ (i : Nat) (b : Bool), mM = l.length - i ∧ (i ≤ l.length ∧ j < l.length ∧ ∀ c, l[j]? = some c → (b || aboveC c.at_ (l.drop i)) = aboveC c.at_ l) ∧ xX = ⟨[(0, .lst 3 (l.map Copy.cs)), (2, .ref 0 3 0 0), (6, VI (j : Int)), (7, .v (.bool b)), (8, VI (i : Int))], [some ⟨3, [[VI 0, VI 0, .v (.string (⟨#[]⟩))]]⟩]⟩) (y := (fun (i : Nat) (b : Bool) => (⟨[(0, .lst 3 (l.map Copy.cs)), (2, .ref 0 3 0 0), (6, VI (j : Int)), (7, .v (.bool b)), (8, VI (i : Int))], [some ⟨3, [[VI 0, VI 0, .v (.string (⟨#[]⟩))]]⟩]⟩ : L3)) 0 false) [0, 2, 6, 7, 8] [.old 0 false] [] (by kernel_rfl) trivial ⟨0, false, rfl, by exact ⟨by omega, by omega, fun c hc => by simp⟩, rfl⟩ ?_
  rintro _ _ ⟨i, b, rfl, hI10, rfl⟩
  obtain ⟨hi, hj2, ha⟩ := hI10
  refine EL.seq ?_
  refine EL.sreg ?_
  refine OW.run 2 (x' := ⟨[(35, .lst 3 (l.map Copy.cs)), (34, VI (i : Int)), (0, .lst 3 (l.map Copy.cs)), (2, .ref 0 3 0 0), (6, VI (j : Int)), (7, .v (.bool b)), (8, VI (i : Int))], [some ⟨3, [[VI 0, VI 0, .v (.string (⟨#[]⟩))]]⟩]⟩) (by kernel_rfl) ?_
  refine OW.ope (v := VI (List.length l : Int)) (u := []) (acc := []) (x' := ⟨[(36, VI (List.length l : Int)), (35, .lst 3 (l.map Copy.cs)), (34, VI (i : Int)), (0, .lst 3 (l.map Copy.cs)), (2, .ref 0 3 0 0), (6, VI (j : Int)), (7, .v (.bool b)), (8, VI (i : Int))], [some ⟨3, [[VI 0, VI 0, .v (.string (⟨#[]⟩))]]⟩]⟩) (by kernel_rfl) (opE_len Copy.cs l (.s 35) 3 (by kernel_rfl) (by kernel_rfl) (.inl rfl)) (by kernel_rfl) ?_
  refine OW.last 1 [0, 2, 6, 7, 8, 37] (x' := ⟨[(37, .v (.bool (decide ((i : Int) < (List.length l : Int))))), (0, .lst 3 (l.map Copy.cs)), (2, .ref 0 3 0 0), (6, VI (j : Int)), (7, .v (.bool b)), (8, VI (i : Int))], [some ⟨3, [[VI 0, VI 0, .v (.string (⟨#[]⟩))]]⟩]⟩) (by kernel_rfl) (by kernel_rfl) ?_
  rcases Bool.eq_false_or_eq_true (decide ((i : Int) < (List.length l : Int))) with h11 | h11
  rw [h11]
  have g11 : ((i : Int) < (List.length l : Int)) := of_decide_eq_true h11
  have n11 : ((i) < (List.length l)) := by omega
  refine EL.condT (by kernel_rfl) ?_
  refine EL.skip ?_
  refine thenL_norm ?_
  refine EL.seq ?_
  refine EL.block ?_
  refine EL.draw0 ?_
  refine DW.run 2 (x' := ⟨[(41, .v (.bool b)), (40, .v (.bool b)), (37, .v (.bool true)), (0, .lst 3 (l.map Copy.cs)), (2, .ref 0 3 0 0), (6, VI (j : Int)), (7, .v (.bool b)), (8, VI (i : Int))], [some ⟨3, [[VI 0, VI 0, .v (.string (⟨#[]⟩))]]⟩]⟩) (by kernel_rfl) ?_
  rcases Bool.eq_false_or_eq_true (b) with h12 | h12
  rw [h12]
  refine DW.end 13 (x' := ⟨(sfq76 l j i), [some ⟨3, [[VI 0, VI 0, .v (.string (⟨#[]⟩))]]⟩]⟩) (by kernel_rfl) (by kernel_rfl) ?_
  refine inBlk_norm ?_
  refine thenL_norm ?_
  refine EL.reg0 ?_
  refine OW.run 3 (x' := ⟨(8, VI (IntKind.i64.wrap ((i : Int) + 1))) :: (39, VI (IntKind.i64.wrap ((i : Int) + 1))) :: (sfq77 i l j), [some ⟨3, [[VI 0, VI 0, .v (.string (⟨#[]⟩))]]⟩]⟩) (by kernel_rfl) ?_
  have e13 : IntKind.i64.wrap ((i : Int) + 1) = (i : Int) + 1 := wr64 (by omega)
  rw [e13]
  refine OW.end 0 (x' := ⟨(sfq78 i l j), [some ⟨3, [[VI 0, VI 0, .v (.string (⟨#[]⟩))]]⟩]⟩) (by kernel_rfl) (by kernel_rfl) ?_
  refine thenL_norm ?_
  refine round_end (live := [0, 2, 6, 7, 8]) (src := [.old 0 false]) (es := []) (y := (fun (i : Nat) (b : Bool) => (⟨[(0, .lst 3 (l.map Copy.cs)), (2, .ref 0 3 0 0), (6, VI (j : Int)), (7, .v (.bool b)), (8, VI (i : Int))], [some ⟨3, [[VI 0, VI 0, .v (.string (⟨#[]⟩))]]⟩]⟩ : L3)) (i + 1) true) ?_ trivial ?_ ⟨(i + 1), true, rfl, ?_, rfl⟩
  kernel_rfl
  omega
  focus ((refine ⟨by omega, by omega, fun c hc => ?_⟩; have hq := ha c hc; first | (simp_all; done) | (rw [‹l.drop i = _›, aboveC] at hq; simp_all; done)))
  rw [h12]
  refine DW.run 2 (x' := ⟨(sfq79 j l i), [some ⟨3, [[VI 0, VI 0, .v (.string (⟨#[]⟩))]]⟩]⟩) (by kernel_rfl) ?_
  obtain ⟨a15, ha15⟩ : ∃ y, l[((j : Int) : Int).toNat]? = some y := idx_ex ⟨by omega, by omega⟩
  have iha15 : l[j]? = some a15 := by simpa using ha15
  have dha15 := drop_get iha15
  refine DW.ope (v := .pim [VI a15.at_.time, VI a15.at_.who, .v (.string a15.data)] 0) (u := []) (acc := []) (x' := ⟨(sfq80 a15 j l i), [some ⟨3, [[VI 0, VI 0, .v (.string (⟨#[]⟩))]]⟩]⟩) (by kernel_rfl) (opE_iad Copy.cs l (.s 42) (.s 43) 3 .i64 (j : Int) a15 (by kernel_rfl) (by kernel_rfl) (.inl rfl) rfl (by omega) ha15) (by kernel_rfl) ?_
  refine DW.run 4 (x' := ⟨(sfq81 i l a15 j), [some ⟨3, [[VI 0, VI 0, .v (.string (⟨#[]⟩))]]⟩]⟩) (by kernel_rfl) ?_
  obtain ⟨a17, ha17⟩ : ∃ y, l[((i : Int) : Int).toNat]? = some y := idx_ex ⟨by omega, by omega⟩
  have iha17 : l[i]? = some a17 := by simpa using ha17
  have dha17 := drop_get iha17
  refine DW.ope (v := .pim [VI a17.at_.time, VI a17.at_.who, .v (.string a17.data)] 0) (u := []) (acc := []) (x' := ⟨(sfq82 a17 i l a15 j), [some ⟨3, [[VI 0, VI 0, .v (.string (⟨#[]⟩))]]⟩]⟩) (by kernel_rfl) (opE_iad Copy.cs l (.s 47) (.s 48) 3 .i64 (i : Int) a17 (by kernel_rfl) (by kernel_rfl) (.inl rfl) rfl (by omega) ha17) (by kernel_rfl) ?_
  refine DW.run 2 (x' := ⟨(sfq83 a17 i l a15 j), [some ⟨3, [[VI 0, VI 0, .v (.string (⟨#[]⟩))]]⟩]⟩) (by kernel_rfl) ?_
  refine DW.fn (ar := [.agg [VI a15.at_.time, VI a15.at_.who], .agg [VI a17.at_.time, VI a17.at_.who]]) (x' := ⟨(52, .v (.bool (decide (a15.at_.lt a17.at_)))) :: (sfq83 a17 i l a15 j), [some ⟨3, [[VI 0, VI 0, .v (.string (⟨#[]⟩))]]⟩]⟩) (by kernel_rfl) (by kernel_rfl) F25_call (rless_fn a15.at_ a17.at_) (by kernel_rfl) (by kernel_rfl) ?_
  refine DW.end 2 (x' := ⟨(7, .v (.bool (decide (a15.at_.lt a17.at_)))) :: (53, .v (.bool (decide (a15.at_.lt a17.at_)))) :: (52, .v (.bool (decide (a15.at_.lt a17.at_)))) :: (sfq84 a17 i l a15 j), [some ⟨3, [[VI 0, VI 0, .v (.string (⟨#[]⟩))]]⟩]⟩) (by kernel_rfl) (by kernel_rfl) ?_
  refine inBlk_norm ?_
  refine thenL_norm ?_
  refine EL.reg0 ?_
  refine OW.run 3 (x' := ⟨(8, VI (IntKind.i64.wrap ((i : Int) + 1))) :: (39, VI (IntKind.i64.wrap ((i : Int) + 1))) :: (38, VI (i : Int)) :: (7, .v (.bool (decide (a15.at_.lt a17.at_)))) :: (53, .v (.bool (decide (a15.at_.lt a17.at_)))) :: (52, .v (.bool (decide (a15.at_.lt a17.at_)))) :: (sfq85 a17 i l a15 j), [some ⟨3, [[VI 0, VI 0, .v (.string (⟨#[]⟩))]]⟩]⟩) (by kernel_rfl) ?_
  have e18 : IntKind.i64.wrap ((i : Int) + 1) = (i : Int) + 1 := wr64 (by omega)
  rw [e18]
  refine OW.end 0 (x' := ⟨(8, VI ((i : Int) + 1)) :: (39, VI ((i : Int) + 1)) :: (38, VI (i : Int)) :: (7, .v (.bool (decide (a15.at_.lt a17.at_)))) :: (53, .v (.bool (decide (a15.at_.lt a17.at_)))) :: (52, .v (.bool (decide (a15.at_.lt a17.at_)))) :: (sfq85 a17 i l a15 j), [some ⟨3, [[VI 0, VI 0, .v (.string (⟨#[]⟩))]]⟩]⟩) (by kernel_rfl) (by kernel_rfl) ?_
  refine thenL_norm ?_
  refine round_end (live := [0, 2, 6, 7, 8]) (src := [.old 0 false]) (es := []) (y := (fun (i : Nat) (b : Bool) => (⟨[(0, .lst 3 (l.map Copy.cs)), (2, .ref 0 3 0 0), (6, VI (j : Int)), (7, .v (.bool b)), (8, VI (i : Int))], [some ⟨3, [[VI 0, VI 0, .v (.string (⟨#[]⟩))]]⟩]⟩ : L3)) (i + 1) (decide (a15.at_.lt a17.at_))) ?_ trivial ?_ ⟨(i + 1), (decide (a15.at_.lt a17.at_)), rfl, ?_, rfl⟩
  kernel_rfl
  omega
  focus ((refine ⟨by omega, by omega, fun c hc => ?_⟩; have hq := ha c hc; first | (simp_all; done) | (rw [‹l.drop i = _›, aboveC] at hq; simp_all; done)))
  rw [h11]
  have g11 : ¬ ((i : Int) < (List.length l : Int)) := of_decide_eq_false h11
  have n11 : ¬ ((i) < (List.length l)) := by omega
  refine EL.condF (by kernel_rfl) ?_
  refine EL.exit ?_
  refine thenL_exit ?_
  refine thenL_exit ?_
  refine inBlk_hit ?_
  refine thenL_norm ?_
  refine EL.sreg ?_
  refine OW.last 2 [0, 2, 6, 55] (x' := ⟨(55, .v (.bool (!b))) :: (sfq74 l j), [some ⟨3, [[VI 0, VI 0, .v (.string (⟨#[]⟩))]]⟩]⟩) (by kernel_rfl) (by kernel_rfl) ?_
  rcases Bool.eq_false_or_eq_true (b) with h19 | h19
  rw [h19]
  refine EL.condF (by kernel_rfl) ?_
  refine EL.skip ?_
  refine inBlk_norm ?_
  refine thenL_norm ?_
  refine EL.reg0 ?_
  refine OW.run 3 (x' := ⟨(6, VI (IntKind.i64.wrap ((j : Int) + 1))) :: (33, VI (IntKind.i64.wrap ((j : Int) + 1))) :: (sfq86 j l), [some ⟨3, [[VI 0, VI 0, .v (.string (⟨#[]⟩))]]⟩]⟩) (by kernel_rfl) ?_
  have e20 : IntKind.i64.wrap ((j : Int) + 1) = (j : Int) + 1 := wr64 (by omega)
  rw [e20]
  refine OW.end 0 (x' := ⟨(sfq87 j l), [some ⟨3, [[VI 0, VI 0, .v (.string (⟨#[]⟩))]]⟩]⟩) (by kernel_rfl) (by kernel_rfl) ?_
  refine thenL_norm ?_
  refine round_end (live := [0, 2, 6]) (src := [.old 0 false]) (es := []) (y := (fun (j : Nat) => (⟨(sfq74 l j), [some ⟨3, [[VI 0, VI 0, .v (.string (⟨#[]⟩))]]⟩]⟩ : L3)) (j + 1)) ?_ trivial ?_ ⟨(j + 1), rfl, ?_, rfl⟩
  kernel_rfl
  omega
  focus ((refine ⟨by omega, hl', hb, ?_⟩; have hq := ha _ (List.getElem?_eq_getElem hj2); rw [List.drop_eq_nil_of_le (by omega)] at hq; rw [ht, List.drop_eq_getElem_cons hj2, topC, if_pos (by rw [← hq]; simp [*])]))
  rw [h19]
  refine EL.condT (by kernel_rfl) ?_
  refine EL.sreg ?_
  refine OW.run 2 (x' := ⟨(sfq88 j l), [some ⟨3, [[VI 0, VI 0, .v (.string (⟨#[]⟩))]]⟩]⟩) (by kernel_rfl) ?_
  obtain ⟨a22, ha22⟩ : ∃ y, l[((j : Int) : Int).toNat]? = some y := idx_ex ⟨by omega, by omega⟩
  have iha22 : l[j]? = some a22 := by simpa using ha22
  have dha22 := drop_get iha22
  refine OW.ope (v := .pim [VI a22.at_.time, VI a22.at_.who, .v (.string a22.data)] 0) (u := []) (acc := []) (x' := ⟨(sfq89 a22 j l), [some ⟨3, [[VI 0, VI 0, .v (.string (⟨#[]⟩))]]⟩]⟩) (by kernel_rfl) (opE_iad Copy.cs l (.s 56) (.s 57) 3 .i64 (j : Int) a22 (by kernel_rfl) (by kernel_rfl) (.inl rfl) rfl (by omega) ha22) (by kernel_rfl) ?_
  refine OW.last 3 [2, 3] (x' := ⟨[(3, VI 0), (2, .ref 0 3 0 0)], [(sfq90 a22)]⟩) (by kernel_rfl) (by kernel_rfl) ?_
  refine EL.ret ?_
  refine inBlk_ret ?_
  refine thenL_ret ?_
  refine thenL_ret ?_
  refine inBlk_ret ?_
  refine thenL_ret ?_
  refine ⟨.inr rfl, .tup [(sfq91 a22), VI 0], by kernel_rfl, Ale.of_eq ?_⟩
  focus (first | (rw [mergedP, if_pos (by omega)]; rfl) | (have hb9 : badC l ≠ 0 := (by rw [hs, ‹l.drop k = _›, badC, if_pos (by assumption)]; assumption); rw [mergedP, if_neg (by omega), if_pos hb9, hs, ‹l.drop k = _›, badC, if_pos (by assumption)]; rfl) | (rw [mergedP, if_neg (by omega), if_neg (fun hh => hh hb), ht, List.drop_eq_nil_of_le (by omega)]; rfl) | (have hq := ha _ (by assumption); rw [List.drop_eq_nil_of_le (by omega)] at hq; rw [mergedP, if_neg (by omega), if_neg (fun hh => hh hb), ht, ‹l.drop j = _›, topC, if_neg (by rw [← hq]; simp [*, aboveC])]))
  rw [h9]
  have g9 : ¬ ((j : Int) < (List.length l : Int)) := of_decide_eq_false h9
  have n9 : ¬ ((j) < (List.length l)) := by omega
  refine EL.condF (by kernel_rfl) ?_
  refine EL.exit ?_
  refine thenL_exit ?_
  refine thenL_exit ?_
  refine inBlk_hit ?_
  refine thenL_norm ?_
  refine EL.sreg ?_
  refine OW.last 3 [2, 3] (x' := ⟨[(3, VI 0), (2, .ref 0 3 0 0)], [some ⟨3, [[VI 0, VI 0, .v (.string (⟨#[]⟩))]]⟩]⟩) (by kernel_rfl) (by kernel_rfl) ?_
  refine EL.ret ?_
  refine ⟨.inr rfl, .tup [.agg [VI 0, VI 0, .v (.string (⟨#[]⟩))], VI 0], by kernel_rfl, Ale.of_eq ?_⟩
  focus (first | (rw [mergedP, if_pos (by omega)]; rfl) | (have hb9 : badC l ≠ 0 := (by rw [hs, ‹l.drop k = _›, badC, if_pos (by assumption)]; assumption); rw [mergedP, if_neg (by omega), if_pos hb9, hs, ‹l.drop k = _›, badC, if_pos (by assumption)]; rfl) | (rw [mergedP, if_neg (by omega), if_neg (fun hh => hh hb), ht, List.drop_eq_nil_of_le (by omega)]; rfl) | (have hq := ha _ (by assumption); rw [List.drop_eq_nil_of_le (by omega)] at hq; rw [mergedP, if_neg (by omega), if_neg (fun hh => hh hb), ht, ‹l.drop j = _›, topC, if_neg (by rw [← hq]; simp [*, aboveC])]))
theorem hear_no {v : Voters} {no : Int} {b : Bid} {m : Vote} (h1 : 0 ≤ no ∧ no ≤ 30) (h2 : b.checkE v.weights v.need = 0) (h3 : m.checkE = 0) (h : m.bid ≠ no ∨ fitsP b no m = false ∨ m.node ≥ v.weights.length ∨ inS b.heard.n m.node.toNat = true) : hearP v no b m = (b, [], 0) := by
  unfold hearP
  rw [if_neg (fun hh => hh h1), if_neg (fun hh => hh h2), if_neg (fun hh => hh h3), if_pos]
  rcases h with h | h | h | h
  · exact .inl h
  · exact .inr (.inl h)
  · exact .inr (.inr (.inl h))
  · exact .inr (.inr (.inr fun hh => by rw [and_bit.1 hh] at h; simp at h))
theorem bid_ok {v : Voters} {b : Bid} (h : b.checkE v.weights v.need = 0) : qcheckP v.weights v.need = 0 ∧ b.best.checkE = 0 ∧ b.heard.n < 2 ^ v.weights.length ∧ (1 ≤ b.time ∧ b.time ≤ 1000000) ∧ (1 ≤ b.phase ∧ b.phase ≤ 3) := by
  unfold Bid.checkE at h
  by_cases h1 : qcheckP v.weights v.need = 0
  · rw [if_neg (fun hh => hh h1)] at h
    by_cases h2 : 1 ≤ b.time ∧ b.time ≤ 1000000
    · rw [if_neg (fun hh => hh h2)] at h
      by_cases h3 : 1 ≤ b.phase ∧ b.phase ≤ 3
      · rw [if_neg (fun hh => hh h3)] at h
        by_cases h4 : b.own.size > 64 ∨ b.value.size > 64
        · rw [if_pos h4] at h; simp at h
        · rw [if_neg h4] at h
          by_cases h5 : b.best.checkE = 0
          · rw [if_neg (fun hh => hh h5)] at h
            by_cases h6 : (len64 b.heard.n : Int) > v.weights.length
            · rw [if_pos h6] at h; simp at h
            · refine ⟨h1, h5, Nat.not_le.1 fun hh => h6 ?_, h2, h3⟩
              have := len64_gt.2 hh; omega
          · rw [if_pos h5] at h; exact absurd h h5
      · rw [if_pos h3] at h; simp at h
    · rw [if_pos h2] at h; simp at h
  · rw [if_pos h1] at h; exact absurd h h1
theorem vote_copy {m : Vote} (h : m.checkE = 0) : m.copy.checkE = 0 := by
  unfold Vote.checkE at h
  split at h
  · simp at h
  · split at h
    · simp at h
    · split at h
      · rename_i h3; exact absurd h h3
      · rename_i h3; exact Decidable.not_not.1 h3
theorem enough_iff {ws : List Int} {need : Int} {x : Nat} (h : qcheckP ws need = 0) (hx : x < 2 ^ ws.length) : (enoughP ws need x).1 = true ↔ ¬ bsum ws x < need := by
  unfold enoughP
  rw [if_neg (fun hh => hh h), sumP_0 (qc_nodes h) hx]
  simp
theorem hear_yes {v : Voters} {no : Int} {b : Bid} {m : Vote} (h1 : 0 ≤ no ∧ no ≤ 30) (h2 : b.checkE v.weights v.need = 0) (h3 : m.checkE = 0) (h4 : m.bid = no) (h5 : fitsP b no m = true) (h6 : ¬ m.node ≥ v.weights.length) (h7 : inS b.heard.n m.node.toNat = false) :
    hearP v no b m = if bsum v.weights (orU b.heard m.node.toNat).n < v.need then (heardP b m, [], 0) else onP v no (heardP b m) := by
  have hb := bid_ok h2
  have hn := vote_node h3
  rw [hear_go h1 h2 h3 h4 h5 h6 (by rw [and_bit.2 h7]; rfl)]
  have hs : (orU b.heard m.node.toNat).n < 2 ^ v.weights.length := or_sub hb.2.2.1 (by omega) (qc_len hb.1)
  by_cases h : bsum v.weights (orU b.heard m.node.toNat).n < v.need
  · rw [if_neg (fun hh => (enough_iff hb.1 hs).1 hh h), if_pos h]
  · rw [if_pos ((enough_iff hb.1 hs).2 h), if_neg h]
abbrev sfq92 (v : Voters) (b : Bid) (m : Vote) : LB := [some ⟨2, [[.lst 1 (v.weights.map cI), VI v.need]]⟩, (sfq40 b), (sfq28 m), sfq54]
abbrev sfq93 (no : Int) : LS := [(8, .ref 3 8 0 0), (7, .ref 2 6 0 0), (6, .ref 1 8 0 0), (4, .ref 0 2 0 0), (1, VI no)]
abbrev sfq94 (b : Bid) : AV := .agg [VI b.time, VI b.phase, .v (.string b.own), .v (.string b.value), VI b.best.at_.time, VI b.best.at_.who, .v (.string b.best.data), .v (.int .u64 (b.heard.n : Int))]
abbrev sfq95 (b : Bid) (v : Voters) (no : Int) : LS := (22, (sfq94 b)) :: (21, .agg [.lst 1 (v.weights.map cI), VI v.need]) :: (19, .v (.bool false)) :: (sfq93 no)
abbrev sfq96 (m : Vote) : AV := .agg [VI m.kind, VI m.bid, VI m.node, VI m.copy.at_.time, VI m.copy.at_.who, .v (.string m.copy.data)]
abbrev sfq97 (m : Vote) (b : Bid) (v : Voters) (no : Int) : LS := (26, (sfq96 m)) :: (25, .v (.bool true)) :: (11, VI (b.checkE v.weights v.need)) :: (sfq93 no)
abbrev sfq98 (m : Vote) (no : Int) : LS := (11, VI m.checkE) :: (27, VI m.checkE) :: (26, (sfq96 m)) :: (25, .v (.bool true)) :: (sfq93 no)
abbrev sfq99 (m : Vote) : LS := [(10, VI m.checkE), (9, .emp), (8, .ref 3 8 0 0)]
abbrev sfq100 (v : Voters) (b : Bid) (m : Vote) (no : Int) : LB := [some ⟨2, [[.lst 1 (v.weights.map cI), VI v.need]]⟩, (sfq40 b), (sfq28 m), sfq54, some ⟨2, [[VI b.time, VI no]]⟩]
abbrev sfq101 (b : Bid) (no : Int) : LS := (37, VI b.phase) :: (36, .ref 1 8 0 1) :: (12, .ref 4 2 0 0) :: (sfq93 no)
abbrev sfq102 (m : Vote) (b : Bid) (no : Int) : LS := (41, VI m.kind) :: (40, .ref 2 6 0 0) :: (39, .v (.bool true)) :: (38, .v (.bool true)) :: (sfq101 b no)
abbrev sfq103 (no : Int) (m : Vote) : LS := (63, VI no) :: (62, VI m.bid) :: (61, .ref 2 6 0 1) :: (13, .v (.bool true)) :: (12, .ref 4 2 0 0) :: (sfq93 no)
abbrev sfq104 (v : Voters) (b : Bid) (m : Vote) (no : Int) : LB := [some ⟨2, [[.lst 1 (v.weights.map cI), VI v.need]]⟩, (sfq40 b), (sfq28 m), (sfq40 b), some ⟨2, [[VI b.time, VI no]]⟩]
abbrev sfq105 (v : Voters) (m : Vote) (no : Int) : LS := (73, .lst 1 (v.weights.map cI)) :: (72, .ref 0 2 0 0) :: (71, VI m.node) :: (70, .ref 2 6 0 2) :: (69, .v (.bool false)) :: (68, .v (.bool false)) :: (67, .v (.bool false)) :: (66, .v (.bool true)) :: (65, .v (.bool false)) :: (64, .v (.bool false)) :: (sfq103 no m)
abbrev sfq106 (m : Vote) (b : Bid) (v : Voters) (no : Int) : LS := (81, VI m.node) :: (80, .ref 2 6 0 2) :: (79, .v (.int .u64 (b.heard.n : Int))) :: (78, .ref 1 8 0 7) :: (77, .v (.bool false)) :: (76, .v (.bool false)) :: (75, .v (.bool false)) :: (74, VI (List.length v.weights : Int)) :: (sfq105 v m no)
abbrev sfq107 (m : Vote) (b : Bid) (no : Int) : LS := (88, VI m.node) :: (87, .ref 2 6 0 2) :: (86, .v (.int .u64 (b.heard.n : Int))) :: (85, .ref 1 8 0 7) :: (83, .v (.bool false)) :: (12, .ref 4 2 0 0) :: (sfq93 no)
abbrev sfq108 (m : Vote) (b : Bid) (no : Int) : LS := (89, .v (.int .u64 ((2 ^ (Int.toNat m.node) : Nat) : Int))) :: (sfq107 m b no)
abbrev sfq109 (b : Bid) (m : Vote) : OB := some ⟨8, [[VI b.time, VI b.phase, .v (.string b.own), .v (.string b.value), VI b.best.at_.time, VI b.best.at_.who, .v (.string b.best.data), .v (.int .u64 ((orU b.heard (Int.toNat m.node)).n : Int))]]⟩
abbrev sfq110 (v : Voters) (b : Bid) (m : Vote) (no : Int) : LB := [some ⟨2, [[.lst 1 (v.weights.map cI), VI v.need]]⟩, (sfq109 b m), (sfq28 m), sfq54, some ⟨2, [[VI b.time, VI no]]⟩]
abbrev sfq111 (m : Vote) : AV := .agg [VI m.copy.at_.time, VI m.copy.at_.who, .v (.string m.copy.data)]
abbrev sfq112 (b : Bid) (m : Vote) : OB := some ⟨3, [[VI b.best.at_.time, VI b.best.at_.who, .v (.string b.best.data)], [VI m.copy.at_.time, VI m.copy.at_.who, .v (.string m.copy.data)]]⟩
abbrev sfq113 (v : Voters) (b : Bid) (m : Vote) (no : Int) : LB := [some ⟨2, [[.lst 1 (v.weights.map cI), VI v.need]]⟩, (sfq109 b m), (sfq28 m), sfq54, some ⟨2, [[VI b.time, VI no]]⟩, (sfq112 b m)]
abbrev sfq114 (m : Vote) (b : Bid) (no : Int) : LS := (100, .own 5 3 0 2) :: (99, (sfq111 m)) :: (98, .ref 2 6 0 3) :: (97, (sfq50 b)) :: (96, .ref 1 8 0 4) :: (94, .v (.bool true)) :: (12, .ref 4 2 0 0) :: (sfq93 no)
abbrev sfq115 (b : Bid) (m : Vote) : AV := .agg [VI ((((mergedP ([b.best, m.copy])).1).at_).time), VI ((((mergedP ([b.best, m.copy])).1).at_).who), .v (.string (((mergedP ([b.best, m.copy])).1).data))]
abbrev sfq116 (b : Bid) (m : Vote) (no : Int) : LS := (101, .tup [(sfq115 b m), VI ((mergedP ([b.best, m.copy])).2)]) :: (sfq114 m b no)
abbrev sfq117 (b : Bid) (m : Vote) : OB := some ⟨8, [[VI b.time, VI b.phase, .v (.string b.own), .v (.string b.value), VI ((((mergedP ([b.best, m.copy])).1).at_).time), VI ((((mergedP ([b.best, m.copy])).1).at_).who), .v (.string (((mergedP ([b.best, m.copy])).1).data)), .v (.int .u64 ((orU b.heard (Int.toNat m.node)).n : Int))]]⟩
abbrev sfq118 (v : Voters) (b : Bid) (m : Vote) (no : Int) : LB := [some ⟨2, [[.lst 1 (v.weights.map cI), VI v.need]]⟩, (sfq117 b m), (sfq28 m), sfq54, some ⟨2, [[VI b.time, VI no]]⟩, (sfq112 b m)]
abbrev sfq119 (b : Bid) (m : Vote) (no : Int) : LS := (104, .ref 1 8 0 4) :: (103, VI ((mergedP ([b.best, m.copy])).2)) :: (102, (sfq115 b m)) :: (95, .tup [(sfq115 b m), VI ((mergedP ([b.best, m.copy])).2)]) :: (sfq116 b m no)
abbrev sfq120 (b : Bid) (m : Vote) (v : Voters) (no : Int) : LS := (108, .v (.int .u64 ((orU b.heard (Int.toNat m.node)).n : Int))) :: (107, .ref 1 8 0 7) :: (106, .lst 1 (v.weights.map cI)) :: (105, .ref 0 2 0 0) :: (sfq119 b m no)
abbrev sfq121 (v : Voters) (b : Bid) (m : Vote) (no : Int) : LS := (109, VI (bsum v.weights (orU b.heard (Int.toNat m.node)).n)) :: (sfq120 b m v no)
abbrev sfq122 (no : Int) : LS := [(12, .ref 4 2 0 0), (8, .ref 3 8 0 0), (6, .ref 1 8 0 0), (4, .ref 0 2 0 0), (1, VI no)]
abbrev sfq123 (v : Voters) (b : Bid) (m : Vote) (no : Int) : LB := [some ⟨2, [[.lst 1 (v.weights.map cI), VI v.need]]⟩, (sfq117 b m), (sfq28 m), (sfq117 b m), some ⟨2, [[VI b.time, VI no]]⟩, (sfq112 b m)]
abbrev sfq124 (b : Bid) (m : Vote) : OB := some ⟨8, [[VI b.time, VI 3, .v (.string b.own), .v (.string b.value), VI ((((mergedP ([b.best, m.copy])).1).at_).time), VI ((((mergedP ([b.best, m.copy])).1).at_).who), .v (.string (((mergedP ([b.best, m.copy])).1).data)), .v (.int .u64 ((orU b.heard (Int.toNat m.node)).n : Int))]]⟩
abbrev sfq125 (v : Voters) (b : Bid) (m : Vote) (no : Int) : LB := [some ⟨2, [[.lst 1 (v.weights.map cI), VI v.need]]⟩, (sfq124 b m), (sfq28 m), sfq54, some ⟨2, [[VI b.time, VI no]]⟩, (sfq112 b m)]
abbrev sfq126 (v : Voters) (b : Bid) (m : Vote) (no : Int) : LB := [some ⟨2, [[.lst 1 (v.weights.map cI), VI v.need]]⟩, (sfq124 b m), (sfq28 m), (sfq124 b m), some ⟨2, [[VI b.time, VI no]]⟩, (sfq112 b m)]
abbrev sfq127 (b : Bid) (m : Vote) : OB := some ⟨8, [[VI b.time, VI 2, .v (.string b.own), .v (.string b.value), VI ((((mergedP ([b.best, m.copy])).1).at_).time), VI ((((mergedP ([b.best, m.copy])).1).at_).who), .v (.string (((mergedP ([b.best, m.copy])).1).data)), .v (.int .u64 ((orU b.heard (Int.toNat m.node)).n : Int))]]⟩
abbrev sfq128 (v : Voters) (b : Bid) (m : Vote) (no : Int) : LB := [some ⟨2, [[.lst 1 (v.weights.map cI), VI v.need]]⟩, (sfq127 b m), (sfq28 m), sfq54, some ⟨2, [[VI b.time, VI no]]⟩, (sfq112 b m)]
abbrev sfq129 (b : Bid) (m : Vote) : OB := some ⟨8, [[VI b.time, VI 2, .v (.string b.own), .v (.string b.value), VI ((((mergedP ([b.best, m.copy])).1).at_).time), VI ((((mergedP ([b.best, m.copy])).1).at_).who), .v (.string (((mergedP ([b.best, m.copy])).1).data)), .v (.int .u64 0)]]⟩
abbrev sfq130 (v : Voters) (b : Bid) (m : Vote) (no : Int) : LB := [some ⟨2, [[.lst 1 (v.weights.map cI), VI v.need]]⟩, (sfq129 b m), (sfq28 m), sfq54, some ⟨2, [[VI b.time, VI no]]⟩, (sfq112 b m)]
abbrev sfq131 (b : Bid) (m : Vote) : OB := some ⟨8, [[VI b.time, VI 2, .v (.string b.own), .v (.string b.own), VI ((((mergedP ([b.best, m.copy])).1).at_).time), VI ((((mergedP ([b.best, m.copy])).1).at_).who), .v (.string (((mergedP ([b.best, m.copy])).1).data)), .v (.int .u64 0)]]⟩
abbrev sfq132 (v : Voters) (b : Bid) (m : Vote) (no : Int) : LB := [some ⟨2, [[.lst 1 (v.weights.map cI), VI v.need]]⟩, (sfq131 b m), (sfq28 m), sfq54, some ⟨2, [[VI b.time, VI no]]⟩, (sfq112 b m)]
abbrev sfq133 (b : Bid) (m : Vote) : AV := .agg [VI b.time, VI 2, .v (.string b.own), .v (.string b.own), VI ((((mergedP ([b.best, m.copy])).1).at_).time), VI ((((mergedP ([b.best, m.copy])).1).at_).who), .v (.string (((mergedP ([b.best, m.copy])).1).data)), .v (.int .u64 0)]
abbrev sfq134 (v : Voters) (b : Bid) (m : Vote) (no : Int) : LS := (135, .lst 1 (v.weights.map cI)) :: (134, .ref 0 2 0 0) :: (133, (sfq133 b m)) :: (128, .v (.bool false)) :: (sfq122 no)
abbrev sfq135 (no : Int) (b : Bid) : AV := .agg [VI 3, VI no, VI 0, VI b.time, VI no, .v (.string b.own)]
abbrev sfq136 (no : Int) (b : Bid) (v : Voters) (m : Vote) : LS := (142, (sfq135 no b)) :: (141, .agg [VI b.time, VI no, .v (.string b.own)]) :: (140, .v (.string b.own)) :: (139, .ref 1 8 0 3) :: (138, .agg [VI b.time, VI no]) :: (137, VI no) :: (136, VI (List.length v.weights : Int)) :: (sfq134 v b m no)
abbrev sfq137 (v : Voters) (no : Int) (b : Bid) (m : Vote) : LS := (143, .lst 6 ((toAllP (List.length v.weights : Int).toNat (⟨3, no, 0, (⟨(⟨b.time, no⟩ : Stamp), b.own⟩ : Copy)⟩ : Vote)).map Vote.cs)) :: (sfq136 no b v m)
abbrev sfq138 (v : Voters) (b : Bid) (m : Vote) (no : Int) : LB := [some ⟨2, [[.lst 1 (v.weights.map cI), VI v.need]]⟩, (sfq131 b m), (sfq28 m), (sfq131 b m), some ⟨2, [[VI b.time, VI no]]⟩, (sfq112 b m)]
abbrev sfq139 (v : Voters) (no : Int) (b : Bid) : LS := [(10, VI 0), (9, .lst 6 ((toAllP (List.length v.weights : Int).toNat (⟨3, no, 0, (⟨(⟨b.time, no⟩ : Stamp), b.own⟩ : Copy)⟩ : Vote)).map Vote.cs)), (8, .ref 3 8 0 0)]
abbrev sfq140 (b : Bid) (m : Vote) : OB := some ⟨8, [[VI b.time, VI 2, .v (.string b.own), .v (.string (((mergedP ([b.best, m.copy])).1).data)), VI ((((mergedP ([b.best, m.copy])).1).at_).time), VI ((((mergedP ([b.best, m.copy])).1).at_).who), .v (.string (((mergedP ([b.best, m.copy])).1).data)), .v (.int .u64 0)]]⟩
abbrev sfq141 (v : Voters) (b : Bid) (m : Vote) (no : Int) : LB := [some ⟨2, [[.lst 1 (v.weights.map cI), VI v.need]]⟩, (sfq140 b m), (sfq28 m), sfq54, some ⟨2, [[VI b.time, VI no]]⟩, (sfq112 b m)]
abbrev sfq142 (b : Bid) (m : Vote) (no : Int) : LS := (132, .ref 1 8 0 3) :: (131, .v (.string (((mergedP ([b.best, m.copy])).1).data))) :: (130, .ref 1 8 0 6) :: (129, .ref 1 8 0 4) :: (128, .v (.bool true)) :: (sfq122 no)
abbrev sfq143 (b : Bid) (m : Vote) : AV := .agg [VI b.time, VI 2, .v (.string b.own), .v (.string (((mergedP ([b.best, m.copy])).1).data)), VI ((((mergedP ([b.best, m.copy])).1).at_).time), VI ((((mergedP ([b.best, m.copy])).1).at_).who), .v (.string (((mergedP ([b.best, m.copy])).1).data)), .v (.int .u64 0)]
abbrev sfq144 (v : Voters) (b : Bid) (m : Vote) (no : Int) : LS := (135, .lst 1 (v.weights.map cI)) :: (134, .ref 0 2 0 0) :: (133, (sfq143 b m)) :: (sfq142 b m no)
abbrev sfq145 (no : Int) (b : Bid) (m : Vote) : AV := .agg [VI 3, VI no, VI 0, VI b.time, VI no, .v (.string (((mergedP ([b.best, m.copy])).1).data))]
abbrev sfq146 (b : Bid) (no : Int) (m : Vote) : AV := .agg [VI b.time, VI no, .v (.string (((mergedP ([b.best, m.copy])).1).data))]
abbrev sfq147 (no : Int) (b : Bid) (m : Vote) (v : Voters) : LS := (142, (sfq145 no b m)) :: (141, (sfq146 b no m)) :: (140, .v (.string (((mergedP ([b.best, m.copy])).1).data))) :: (139, .ref 1 8 0 3) :: (138, .agg [VI b.time, VI no]) :: (137, VI no) :: (136, VI (List.length v.weights : Int)) :: (sfq144 v b m no)
abbrev sfq148 (v : Voters) (no : Int) (b : Bid) (m : Vote) : LS := (143, .lst 6 ((toAllP (List.length v.weights : Int).toNat (⟨3, no, 0, (⟨(⟨b.time, no⟩ : Stamp), ((mergedP ([b.best, m.copy])).1).data⟩ : Copy)⟩ : Vote)).map Vote.cs)) :: (sfq147 no b m v)
abbrev sfq149 (v : Voters) (b : Bid) (m : Vote) (no : Int) : LB := [some ⟨2, [[.lst 1 (v.weights.map cI), VI v.need]]⟩, (sfq140 b m), (sfq28 m), (sfq140 b m), some ⟨2, [[VI b.time, VI no]]⟩, (sfq112 b m)]
abbrev sfq150 (v : Voters) (no : Int) (b : Bid) (m : Vote) : LS := [(10, VI 0), (9, .lst 6 ((toAllP (List.length v.weights : Int).toNat (⟨3, no, 0, (⟨(⟨b.time, no⟩ : Stamp), ((mergedP ([b.best, m.copy])).1).data⟩ : Copy)⟩ : Vote)).map Vote.cs)), (8, .ref 3 8 0 0)]
abbrev sfq151 (b : Bid) (m : Vote) (no : Int) : LS := (46, VI b.phase) :: (45, .ref 1 8 0 1) :: (44, .v (.bool false)) :: (43, .v (.bool false)) :: (42, .v (.bool false)) :: (sfq102 m b no)
abbrev sfq152 (m : Vote) (b : Bid) (no : Int) : LS := (50, VI m.kind) :: (49, .ref 2 6 0 0) :: (48, .v (.bool true)) :: (47, .v (.bool true)) :: (sfq151 b m no)
abbrev sfq153 (no : Int) : LS := (13, .v (.bool false)) :: (12, .ref 4 2 0 0) :: (sfq93 no)
abbrev sfq154 (no : Int) (m : Vote) : LS := (63, VI no) :: (62, VI m.bid) :: (61, .ref 2 6 0 1) :: (sfq153 no)
abbrev sfq155 (b : Bid) (no : Int) : LS := (46, VI b.phase) :: (45, .ref 1 8 0 1) :: (44, .v (.bool false)) :: (43, .v (.bool false)) :: (42, .v undef) :: (41, .v undef) :: (40, .v undef) :: (39, .v (.bool false)) :: (38, .v (.bool false)) :: (sfq101 b no)
abbrev sfq156 (m : Vote) (b : Bid) (no : Int) : LS := (50, VI m.kind) :: (49, .ref 2 6 0 0) :: (48, .v (.bool true)) :: (47, .v (.bool true)) :: (sfq155 b no)
abbrev sfq157 (b : Bid) (m : Vote) (v : Voters) (no : Int) : LS := (108, .v (.int .u64 ((orU b.heard (Int.toNat m.node)).n : Int))) :: (107, .ref 1 8 0 7) :: (106, .lst 1 (v.weights.map cI)) :: (105, .ref 0 2 0 0) :: (94, .v (.bool false)) :: (12, .ref 4 2 0 0) :: (sfq93 no)
abbrev sfq158 (v : Voters) (b : Bid) (m : Vote) (no : Int) : LS := (109, VI (bsum v.weights (orU b.heard (Int.toNat m.node)).n)) :: (sfq157 b m v no)
abbrev sfq159 (v : Voters) (b : Bid) (m : Vote) (no : Int) : LB := [some ⟨2, [[.lst 1 (v.weights.map cI), VI v.need]]⟩, (sfq109 b m), (sfq28 m), (sfq109 b m), some ⟨2, [[VI b.time, VI no]]⟩]
abbrev sfq160 (b : Bid) (m : Vote) : OB := some ⟨8, [[VI b.time, VI 3, .v (.string b.own), .v (.string b.value), VI b.best.at_.time, VI b.best.at_.who, .v (.string b.best.data), .v (.int .u64 ((orU b.heard (Int.toNat m.node)).n : Int))]]⟩
abbrev sfq161 (v : Voters) (b : Bid) (m : Vote) (no : Int) : LB := [some ⟨2, [[.lst 1 (v.weights.map cI), VI v.need]]⟩, (sfq160 b m), (sfq28 m), sfq54, some ⟨2, [[VI b.time, VI no]]⟩]
abbrev sfq162 (v : Voters) (b : Bid) (m : Vote) (no : Int) : LB := [some ⟨2, [[.lst 1 (v.weights.map cI), VI v.need]]⟩, (sfq160 b m), (sfq28 m), (sfq160 b m), some ⟨2, [[VI b.time, VI no]]⟩]
abbrev sfq163 (b : Bid) (v : Voters) : LS := [(10, VI (b.checkE v.weights v.need)), (9, .emp), (8, .ref 3 8 0 0)]
theorem rhear_fn (v : Voters) (no : Int) (b : Bid) (m : Vote) (hx : v.weights.length ≤ 9223372036854775807) : Fn Tryd.prog 18 [.agg [.lst 1 (v.weights.map cI), VI v.need], VI no, .agg [VI b.time, VI b.phase, .v (.string b.own), .v (.string b.value), VI b.best.at_.time, VI b.best.at_.who, .v (.string b.best.data), .v (.int .u64 (b.heard.n : Int))], .agg [VI m.kind, VI m.bid, VI m.node, VI m.copy.at_.time, VI m.copy.at_.who, .v (.string m.copy.data)]] (.tup [.agg [VI (((hearP v no b m).1).time), VI (((hearP v no b m).1).phase), .v (.string (((hearP v no b m).1).own)), .v (.string (((hearP v no b m).1).value)), VI (((((hearP v no b m).1).best).at_).time), VI (((((hearP v no b m).1).best).at_).who), .v (.string ((((hearP v no b m).1).best).data)), .v (.int .u64 (((hearP v no b m).1).heard.n : Int))], .lst 6 (((hearP v no b m).2.1).map Vote.cs), VI ((hearP v no b m).2.2)]) := by
  refine fn_walkW F18_ok (of_decide_eq_true (by kernel_rfl)) ?_
  refine EL.sreg ?_
  refine OW.last 6 [1, 4, 6, 7, 8] (x' := ⟨(sfq93 no), (sfq92 v b m)⟩) (by kernel_rfl) (by kernel_rfl) ?_
  refine EL.seq ?_
  refine EL.sreg ?_
  refine OW.run 3 (x' := ⟨(16, .v (.bool (decide (no < 0)))) :: (15, .v (.bool (decide (no < 0)))) :: (14, VI no) :: (sfq93 no), (sfq92 v b m)⟩) (by kernel_rfl) ?_
  rcases Bool.eq_false_or_eq_true (decide (no < 0)) with h1 | h1
  rw [h1]
  have g1 : (no < 0) := of_decide_eq_true h1
  refine OW.last 3 [1, 4, 6, 7, 8, 19] (x' := ⟨(19, .v (.bool true)) :: (sfq93 no), (sfq92 v b m)⟩) (by kernel_rfl) (by kernel_rfl) ?_
  refine EL.condT (by kernel_rfl) ?_
  refine EL.sreg ?_
  refine OW.last 4 [8, 9, 10] (x' := ⟨[(10, VI 3), (9, .emp), (8, .ref 3 8 0 0)], (sfq92 v b m)⟩) (by kernel_rfl) (by kernel_rfl) ?_
  refine EL.ret ?_
  refine thenL_ret ?_
  refine ⟨.inr rfl, .tup [.agg [VI 0, VI 0, .v (.string (⟨#[]⟩)), .v (.string (⟨#[]⟩)), VI 0, VI 0, .v (.string (⟨#[]⟩)), .v (.int .u64 0)], .emp, VI 3], by kernel_rfl, Ale.trans (b := .tup [.agg [VI 0, VI 0, .v (.string (⟨#[]⟩)), .v (.string (⟨#[]⟩)), VI 0, VI 0, .v (.string (⟨#[]⟩)), .v (.int .u64 0)], .lst 6 [], VI 3]) (Ale.tup (.cons (Ale.refl) (.cons (Ale.emp) (.cons (Ale.refl) (.nil))))) (Ale.of_eq ?_)⟩
  focus (first | (exfalso; omega) | ((try have hmt := merged_two (bid_ok (v := v) (b := b) (by assumption)).2.1 (vote_copy (m := m) (by assumption))); (try simp only [hmt] at *); rw [hear_yes (by omega) (by assumption) (by assumption) (by omega) (by first | (simp [fitsP, *]; done) | (simp_all [fitsP]; done)) (by omega) (by assumption)]; first | (rw [if_pos (by assumption)]; first | rfl | (simp [heardP, *]; done)) | (rw [if_neg (by assumption)]; first | (simp [heardP, onP, *]; done) | (simp_all [heardP, onP]; done) | (simp only [heardP, onP]))) | (rw [hear_no (by omega) (by assumption) (by assumption) (by first | (simp [fitsP, *]; done) | (simp_all [fitsP]; done) | omega)]; rfl) | (simp only [hearP]; (repeat' split) <;> first | rfl | (exfalso; omega) | contradiction | (simp_all [Bid.zero]; done)))
  rw [h1]
  have g1 : ¬ (no < 0) := of_decide_eq_false h1
  refine OW.last 3 [1, 4, 6, 7, 8, 19] (x' := ⟨(19, .v (.bool (decide (no > 30)))) :: (sfq93 no), (sfq92 v b m)⟩) (by kernel_rfl) (by kernel_rfl) ?_
  rcases Bool.eq_false_or_eq_true (decide (no > 30)) with h2 | h2
  rw [h2]
  have g2 : (no > 30) := of_decide_eq_true h2
  refine EL.condT (by kernel_rfl) ?_
  refine EL.sreg ?_
  refine OW.last 4 [8, 9, 10] (x' := ⟨[(10, VI 3), (9, .emp), (8, .ref 3 8 0 0)], (sfq92 v b m)⟩) (by kernel_rfl) (by kernel_rfl) ?_
  refine EL.ret ?_
  refine thenL_ret ?_
  refine ⟨.inr rfl, .tup [.agg [VI 0, VI 0, .v (.string (⟨#[]⟩)), .v (.string (⟨#[]⟩)), VI 0, VI 0, .v (.string (⟨#[]⟩)), .v (.int .u64 0)], .emp, VI 3], by kernel_rfl, Ale.trans (b := .tup [.agg [VI 0, VI 0, .v (.string (⟨#[]⟩)), .v (.string (⟨#[]⟩)), VI 0, VI 0, .v (.string (⟨#[]⟩)), .v (.int .u64 0)], .lst 6 [], VI 3]) (Ale.tup (.cons (Ale.refl) (.cons (Ale.emp) (.cons (Ale.refl) (.nil))))) (Ale.of_eq ?_)⟩
  focus (first | (exfalso; omega) | ((try have hmt := merged_two (bid_ok (v := v) (b := b) (by assumption)).2.1 (vote_copy (m := m) (by assumption))); (try simp only [hmt] at *); rw [hear_yes (by omega) (by assumption) (by assumption) (by omega) (by first | (simp [fitsP, *]; done) | (simp_all [fitsP]; done)) (by omega) (by assumption)]; first | (rw [if_pos (by assumption)]; first | rfl | (simp [heardP, *]; done)) | (rw [if_neg (by assumption)]; first | (simp [heardP, onP, *]; done) | (simp_all [heardP, onP]; done) | (simp only [heardP, onP]))) | (rw [hear_no (by omega) (by assumption) (by assumption) (by first | (simp [fitsP, *]; done) | (simp_all [fitsP]; done) | omega)]; rfl) | (simp only [hearP]; (repeat' split) <;> first | rfl | (exfalso; omega) | contradiction | (simp_all [Bid.zero]; done)))
  rw [h2]
  have g2 : ¬ (no > 30) := of_decide_eq_false h2
  refine EL.condF (by kernel_rfl) ?_
  refine EL.skip ?_
  refine thenL_norm ?_
  refine EL.sreg ?_
  refine OW.run 2 (x' := ⟨(sfq95 b v no), (sfq92 v b m)⟩) (by kernel_rfl) ?_
  refine OW.fn (ar := [.agg [.lst 1 (v.weights.map cI), VI v.need], (sfq94 b)]) (x' := ⟨(23, VI (b.checkE v.weights v.need)) :: (sfq95 b v no), (sfq92 v b m)⟩) (by kernel_rfl) (by kernel_rfl) F21_call (rbcheck_fn v b hx) (by kernel_rfl) (by kernel_rfl) ?_
  refine OW.last 1 [1, 4, 6, 7, 8, 11] (x' := ⟨(11, VI (b.checkE v.weights v.need)) :: (sfq93 no), (sfq92 v b m)⟩) (by kernel_rfl) (by kernel_rfl) ?_
  refine EL.seq ?_
  refine EL.sreg ?_
  refine OW.last 2 [1, 4, 6, 7, 8, 11, 25] (x' := ⟨(25, .v (.bool ((b.checkE v.weights v.need) == 0))) :: (11, VI (b.checkE v.weights v.need)) :: (sfq93 no), (sfq92 v b m)⟩) (by kernel_rfl) (by kernel_rfl) ?_
  rcases Bool.eq_false_or_eq_true (((b.checkE v.weights v.need) == 0)) with h3 | h3
  rw [h3]
  have g3 : ((b.checkE v.weights v.need) = 0) := by simpa using h3
  refine EL.condT (by kernel_rfl) ?_
  refine EL.reg0 ?_
  refine OW.run 1 (x' := ⟨(sfq97 m b v no), (sfq92 v b m)⟩) (by kernel_rfl) ?_
  refine OW.fn (ar := [(sfq96 m)]) (x' := ⟨(27, VI m.checkE) :: (sfq97 m b v no), (sfq92 v b m)⟩) (by kernel_rfl) (by kernel_rfl) F12_call (rvcheck_fn m) (by kernel_rfl) (by kernel_rfl) ?_
  refine OW.end 1 (x' := ⟨(sfq98 m no), (sfq92 v b m)⟩) (by kernel_rfl) (by kernel_rfl) ?_
  refine thenL_norm ?_
  refine EL.seq ?_
  refine EL.sreg ?_
  refine OW.last 2 [1, 4, 6, 7, 8, 11, 29] (x' := ⟨(29, .v (.bool (m.checkE != 0))) :: (11, VI m.checkE) :: (sfq93 no), (sfq92 v b m)⟩) (by kernel_rfl) (by kernel_rfl) ?_
  rcases Bool.eq_false_or_eq_true ((m.checkE != 0)) with h4 | h4
  rw [h4]
  have g4 : ¬ (m.checkE = 0) := by simpa using h4
  refine EL.condT (by kernel_rfl) ?_
  refine EL.sreg ?_
  refine OW.last 5 [8, 9, 10] (x' := ⟨(sfq99 m), (sfq92 v b m)⟩) (by kernel_rfl) (by kernel_rfl) ?_
  refine EL.ret ?_
  refine thenL_ret ?_
  refine ⟨.inr rfl, .tup [.agg [VI 0, VI 0, .v (.string (⟨#[]⟩)), .v (.string (⟨#[]⟩)), VI 0, VI 0, .v (.string (⟨#[]⟩)), .v (.int .u64 0)], .emp, VI m.checkE], by kernel_rfl, Ale.trans (b := .tup [.agg [VI 0, VI 0, .v (.string (⟨#[]⟩)), .v (.string (⟨#[]⟩)), VI 0, VI 0, .v (.string (⟨#[]⟩)), .v (.int .u64 0)], .lst 6 [], VI m.checkE]) (Ale.tup (.cons (Ale.refl) (.cons (Ale.emp) (.cons (Ale.refl) (.nil))))) (Ale.of_eq ?_)⟩
  focus (first | (exfalso; omega) | ((try have hmt := merged_two (bid_ok (v := v) (b := b) (by assumption)).2.1 (vote_copy (m := m) (by assumption))); (try simp only [hmt] at *); rw [hear_yes (by omega) (by assumption) (by assumption) (by omega) (by first | (simp [fitsP, *]; done) | (simp_all [fitsP]; done)) (by omega) (by assumption)]; first | (rw [if_pos (by assumption)]; first | rfl | (simp [heardP, *]; done)) | (rw [if_neg (by assumption)]; first | (simp [heardP, onP, *]; done) | (simp_all [heardP, onP]; done) | (simp only [heardP, onP]))) | (rw [hear_no (by omega) (by assumption) (by assumption) (by first | (simp [fitsP, *]; done) | (simp_all [fitsP]; done) | omega)]; rfl) | (simp only [hearP]; (repeat' split) <;> first | rfl | (exfalso; omega) | contradiction | (simp_all [Bid.zero]; done)))
  rw [h4]
  have g4 : (m.checkE = 0) := by simpa using h4
  refine EL.condF (by kernel_rfl) ?_
  refine EL.skip ?_
  refine thenL_norm ?_
  refine EL.sreg ?_
  refine OW.last 6 [1, 4, 6, 7, 8, 12] (x' := ⟨(12, .ref 4 2 0 0) :: (sfq93 no), (sfq100 v b m no)⟩) (by kernel_rfl) (by kernel_rfl) ?_
  refine EL.sreg ?_
  refine OW.run 4 (x' := ⟨(39, .v (.bool (b.phase == 1))) :: (38, .v (.bool (b.phase == 1))) :: (sfq101 b no), (sfq100 v b m no)⟩) (by kernel_rfl) ?_
  rcases Bool.eq_false_or_eq_true ((b.phase == 1)) with h5 | h5
  rw [h5]
  have g5 : (b.phase = 1) := by simpa using h5
  refine OW.run 5 (x' := ⟨(44, .v (.bool (m.kind == 2))) :: (43, .v (.bool (m.kind == 2))) :: (42, .v (.bool (m.kind == 2))) :: (sfq102 m b no), (sfq100 v b m no)⟩) (by kernel_rfl) ?_
  rcases Bool.eq_false_or_eq_true ((m.kind == 2)) with h6 | h6
  rw [h6]
  have g6 : (m.kind = 2) := by simpa using h6
  refine OW.last 17 [1, 4, 6, 7, 8, 12, 13] (x' := ⟨(13, .v (.bool true)) :: (12, .ref 4 2 0 0) :: (sfq93 no), (sfq100 v b m no)⟩) (by kernel_rfl) (by kernel_rfl) ?_
  refine EL.seq ?_
  refine EL.sreg ?_
  refine OW.run 5 (x' := ⟨(65, .v (.bool (m.bid != no))) :: (64, .v (.bool (m.bid != no))) :: (sfq103 no m), (sfq100 v b m no)⟩) (by kernel_rfl) ?_
  rcases Bool.eq_false_or_eq_true ((m.bid != no)) with h7 | h7
  rw [h7]
  have g7 : ¬ (m.bid = no) := by simpa using h7
  refine OW.last 18 [1, 4, 6, 7, 8, 12, 83] (x' := ⟨(83, .v (.bool true)) :: (12, .ref 4 2 0 0) :: (sfq93 no), (sfq100 v b m no)⟩) (by kernel_rfl) (by kernel_rfl) ?_
  refine EL.condT (by kernel_rfl) ?_
  refine EL.sreg ?_
  refine OW.last 4 [8, 9, 10] (x' := ⟨[(10, VI 0), (9, .emp), (8, .ref 3 8 0 0)], (sfq104 v b m no)⟩) (by kernel_rfl) (by kernel_rfl) ?_
  refine EL.ret ?_
  refine thenL_ret ?_
  refine ⟨.inr rfl, .tup [.agg [VI b.time, VI b.phase, .v (.string b.own), .v (.string b.value), VI b.best.at_.time, VI b.best.at_.who, .v (.string b.best.data), .v (.int .u64 (b.heard.n : Int))], .emp, VI 0], by kernel_rfl, Ale.trans (b := .tup [.agg [VI b.time, VI b.phase, .v (.string b.own), .v (.string b.value), VI b.best.at_.time, VI b.best.at_.who, .v (.string b.best.data), .v (.int .u64 (b.heard.n : Int))], .lst 6 [], VI 0]) (Ale.tup (.cons (Ale.refl) (.cons (Ale.emp) (.cons (Ale.refl) (.nil))))) (Ale.of_eq ?_)⟩
  focus (first | (exfalso; omega) | ((try have hmt := merged_two (bid_ok (v := v) (b := b) (by assumption)).2.1 (vote_copy (m := m) (by assumption))); (try simp only [hmt] at *); rw [hear_yes (by omega) (by assumption) (by assumption) (by omega) (by first | (simp [fitsP, *]; done) | (simp_all [fitsP]; done)) (by omega) (by assumption)]; first | (rw [if_pos (by assumption)]; first | rfl | (simp [heardP, *]; done)) | (rw [if_neg (by assumption)]; first | (simp [heardP, onP, *]; done) | (simp_all [heardP, onP]; done) | (simp only [heardP, onP]))) | (rw [hear_no (by omega) (by assumption) (by assumption) (by first | (simp [fitsP, *]; done) | (simp_all [fitsP]; done) | omega)]; rfl) | (simp only [hearP]; (repeat' split) <;> first | rfl | (exfalso; omega) | contradiction | (simp_all [Bid.zero]; done)))
  rw [h7]
  have g7 : (m.bid = no) := by simpa using h7
  refine OW.run 8 (x' := ⟨(sfq105 v m no), (sfq100 v b m no)⟩) (by kernel_rfl) ?_
  refine OW.ope (v := VI (List.length v.weights : Int)) (u := []) (acc := []) (x' := ⟨(74, VI (List.length v.weights : Int)) :: (sfq105 v m no), (sfq100 v b m no)⟩) (by kernel_rfl) (opE_len cI v.weights (.s 73) 1 (by kernel_rfl) (by kernel_rfl) (.inl rfl)) (by kernel_rfl) ?_
  refine OW.run 3 (x' := ⟨(77, .v (.bool (decide (m.node ≥ (List.length v.weights : Int))))) :: (76, .v (.bool (decide (m.node ≥ (List.length v.weights : Int))))) :: (75, .v (.bool (decide (m.node ≥ (List.length v.weights : Int))))) :: (74, VI (List.length v.weights : Int)) :: (sfq105 v m no), (sfq100 v b m no)⟩) (by kernel_rfl) ?_
  rcases Bool.eq_false_or_eq_true (decide (m.node ≥ (List.length v.weights : Int))) with h8 | h8
  rw [h8]
  have g8 : (m.node ≥ (List.length v.weights : Int)) := of_decide_eq_true h8
  refine OW.last 6 [1, 4, 6, 7, 8, 12, 83] (x' := ⟨(83, .v (.bool true)) :: (12, .ref 4 2 0 0) :: (sfq93 no), (sfq100 v b m no)⟩) (by kernel_rfl) (by kernel_rfl) ?_
  refine EL.condT (by kernel_rfl) ?_
  refine EL.sreg ?_
  refine OW.last 4 [8, 9, 10] (x' := ⟨[(10, VI 0), (9, .emp), (8, .ref 3 8 0 0)], (sfq104 v b m no)⟩) (by kernel_rfl) (by kernel_rfl) ?_
  refine EL.ret ?_
  refine thenL_ret ?_
  refine ⟨.inr rfl, .tup [.agg [VI b.time, VI b.phase, .v (.string b.own), .v (.string b.value), VI b.best.at_.time, VI b.best.at_.who, .v (.string b.best.data), .v (.int .u64 (b.heard.n : Int))], .emp, VI 0], by kernel_rfl, Ale.trans (b := .tup [.agg [VI b.time, VI b.phase, .v (.string b.own), .v (.string b.value), VI b.best.at_.time, VI b.best.at_.who, .v (.string b.best.data), .v (.int .u64 (b.heard.n : Int))], .lst 6 [], VI 0]) (Ale.tup (.cons (Ale.refl) (.cons (Ale.emp) (.cons (Ale.refl) (.nil))))) (Ale.of_eq ?_)⟩
  focus (first | (exfalso; omega) | ((try have hmt := merged_two (bid_ok (v := v) (b := b) (by assumption)).2.1 (vote_copy (m := m) (by assumption))); (try simp only [hmt] at *); rw [hear_yes (by omega) (by assumption) (by assumption) (by omega) (by first | (simp [fitsP, *]; done) | (simp_all [fitsP]; done)) (by omega) (by assumption)]; first | (rw [if_pos (by assumption)]; first | rfl | (simp [heardP, *]; done)) | (rw [if_neg (by assumption)]; first | (simp [heardP, onP, *]; done) | (simp_all [heardP, onP]; done) | (simp only [heardP, onP]))) | (rw [hear_no (by omega) (by assumption) (by assumption) (by first | (simp [fitsP, *]; done) | (simp_all [fitsP]; done) | omega)]; rfl) | (simp only [hearP]; (repeat' split) <;> first | rfl | (exfalso; omega) | contradiction | (simp_all [Bid.zero]; done)))
  rw [h8]
  have g8 : ¬ (m.node ≥ (List.length v.weights : Int)) := of_decide_eq_false h8
  refine OW.run 4 (x' := ⟨(sfq106 m b v no), (sfq100 v b m no)⟩) (by kernel_rfl) ?_
  refine OW.fn (ar := [.v (.int .u64 (b.heard.n : Int)), VI m.node]) (x' := ⟨(82, .v (.bool (inS b.heard.n (Int.toNat m.node)))) :: (sfq106 m b v no), (sfq100 v b m no)⟩) (by kernel_rfl) (by kernel_rfl) F40_call (inset_fn b.heard m.node (vote_node (m := m) (by assumption)).1) (by kernel_rfl) (by kernel_rfl) ?_
  refine OW.last 1 [1, 4, 6, 7, 8, 12, 83] (x' := ⟨(83, .v (.bool (inS b.heard.n (Int.toNat m.node)))) :: (12, .ref 4 2 0 0) :: (sfq93 no), (sfq100 v b m no)⟩) (by kernel_rfl) (by kernel_rfl) ?_
  rcases Bool.eq_false_or_eq_true (inS b.heard.n (Int.toNat m.node)) with h9 | h9
  rw [h9]
  refine EL.condT (by kernel_rfl) ?_
  refine EL.sreg ?_
  refine OW.last 4 [8, 9, 10] (x' := ⟨[(10, VI 0), (9, .emp), (8, .ref 3 8 0 0)], (sfq104 v b m no)⟩) (by kernel_rfl) (by kernel_rfl) ?_
  refine EL.ret ?_
  refine thenL_ret ?_
  refine ⟨.inr rfl, .tup [.agg [VI b.time, VI b.phase, .v (.string b.own), .v (.string b.value), VI b.best.at_.time, VI b.best.at_.who, .v (.string b.best.data), .v (.int .u64 (b.heard.n : Int))], .emp, VI 0], by kernel_rfl, Ale.trans (b := .tup [.agg [VI b.time, VI b.phase, .v (.string b.own), .v (.string b.value), VI b.best.at_.time, VI b.best.at_.who, .v (.string b.best.data), .v (.int .u64 (b.heard.n : Int))], .lst 6 [], VI 0]) (Ale.tup (.cons (Ale.refl) (.cons (Ale.emp) (.cons (Ale.refl) (.nil))))) (Ale.of_eq ?_)⟩
  focus (first | (exfalso; omega) | ((try have hmt := merged_two (bid_ok (v := v) (b := b) (by assumption)).2.1 (vote_copy (m := m) (by assumption))); (try simp only [hmt] at *); rw [hear_yes (by omega) (by assumption) (by assumption) (by omega) (by first | (simp [fitsP, *]; done) | (simp_all [fitsP]; done)) (by omega) (by assumption)]; first | (rw [if_pos (by assumption)]; first | rfl | (simp [heardP, *]; done)) | (rw [if_neg (by assumption)]; first | (simp [heardP, onP, *]; done) | (simp_all [heardP, onP]; done) | (simp only [heardP, onP]))) | (rw [hear_no (by omega) (by assumption) (by assumption) (by first | (simp [fitsP, *]; done) | (simp_all [fitsP]; done) | omega)]; rfl) | (simp only [hearP]; (repeat' split) <;> first | rfl | (exfalso; omega) | contradiction | (simp_all [Bid.zero]; done)))
  rw [h9]
  refine EL.condF (by kernel_rfl) ?_
  refine EL.skip ?_
  refine thenL_norm ?_
  refine EL.sdraw ?_
  refine DW.run 4 (x' := ⟨(sfq107 m b no), (sfq100 v b m no)⟩) (by kernel_rfl) ?_
  refine DW.ope (v := .v (.int .u64 (IntKind.u64.wrap (1 * 2 ^ (min (Int.toNat m.node) IntKind.u64.bits))))) (u := []) (acc := []) (x' := ⟨(89, .v (.int .u64 (IntKind.u64.wrap (1 * 2 ^ (min (Int.toNat m.node) IntKind.u64.bits))))) :: (sfq107 m b no), (sfq100 v b m no)⟩) (by kernel_rfl) (opE_shl (.c (.v (.int .u64 1))) (.s 88) .u64 .i64 1 m.node (by kernel_rfl) (by kernel_rfl) (by kernel_rfl) (by kernel_rfl) (by have hvn := vote_node (m := m) (by assumption); have hq9 := bid_ok (v := v) (b := b) (by assumption); have := qc_len hq9.1; first | omega | exact ⟨by omega, by assumption⟩)) (by kernel_rfl) ?_
  have e10 : IntKind.u64.wrap (1 * 2 ^ (min (Int.toNat m.node) IntKind.u64.bits)) = ((2 ^ (Int.toNat m.node) : Nat) : Int) := shl1 (by have hvn := vote_node (m := m) (by assumption); have hq9 := bid_ok (v := v) (b := b) (by assumption); have := qc_len hq9.1; first | omega | exact ⟨by omega, by assumption⟩)
  rw [e10]
  refine DW.run 3 (x' := ⟨(91, .ref 1 8 0 7) :: (90, .v (.int .u64 (IntKind.u64.wrap ((b.heard.n : Int) + ((2 ^ (Int.toNat m.node) : Nat) : Int))))) :: (sfq108 m b no), [some ⟨2, [[.lst 1 (v.weights.map cI), VI v.need]]⟩, some ⟨8, [[VI b.time, VI b.phase, .v (.string b.own), .v (.string b.value), VI b.best.at_.time, VI b.best.at_.who, .v (.string b.best.data), .v (.int .u64 (IntKind.u64.wrap ((b.heard.n : Int) + ((2 ^ (Int.toNat m.node) : Nat) : Int))))]]⟩, (sfq28 m), sfq54, some ⟨2, [[VI b.time, VI no]]⟩]⟩) (by kernel_rfl) ?_
  have e11 : IntKind.u64.wrap ((b.heard.n : Int) + ((2 ^ (Int.toNat m.node) : Nat) : Int)) = ((orU b.heard (Int.toNat m.node)).n : Int) := addU (by have hvn := vote_node (m := m) (by assumption); have hq9 := bid_ok (v := v) (b := b) (by assumption); have := qc_len hq9.1; first | omega | exact ⟨by omega, by assumption⟩)
  rw [e11]
  refine DW.last 0 [1, 4, 6, 7, 8, 12] (x' := ⟨(12, .ref 4 2 0 0) :: (sfq93 no), (sfq110 v b m no)⟩) (by kernel_rfl) (by kernel_rfl) ?_
  refine EL.seq ?_
  refine EL.sreg ?_
  refine OW.last 3 [1, 4, 6, 7, 8, 12, 94] (x' := ⟨(94, .v (.bool (b.phase == 1))) :: (12, .ref 4 2 0 0) :: (sfq93 no), (sfq110 v b m no)⟩) (by kernel_rfl) (by kernel_rfl) ?_
  rw [h5]
  refine EL.condT (by kernel_rfl) ?_
  refine EL.reg0 ?_
  refine OW.run 5 (x' := ⟨(sfq114 m b no), (sfq113 v b m no)⟩) (by kernel_rfl) ?_
  refine OW.fn (ar := [.own 5 3 0 2]) (x' := ⟨(sfq116 b m no), (sfq113 v b m no)⟩) (by kernel_rfl) (by kernel_rfl) F41_call (merged_fn ([b.best, m.copy]) (by first | omega | (simp; done))) (by kernel_rfl) (by kernel_rfl) ?_
  refine OW.end 5 (x' := ⟨(sfq119 b m no), (sfq118 v b m no)⟩) (by kernel_rfl) (by kernel_rfl) ?_
  refine thenL_norm ?_
  refine EL.seq ?_
  refine EL.sdraw ?_
  refine DW.run 4 (x' := ⟨(sfq120 b m v no), (sfq118 v b m no)⟩) (by kernel_rfl) ?_
  refine DW.fn (ar := [.lst 1 (v.weights.map cI), .v (.int .u64 ((orU b.heard (Int.toNat m.node)).n : Int))]) (x' := ⟨(sfq121 v b m no), (sfq118 v b m no)⟩) (by kernel_rfl) (by kernel_rfl) F42_call (sumof_fn v.weights (orU b.heard (Int.toNat m.node)) (qc_nodes (bid_ok (v := v) (b := b) (by assumption)).1)) (by kernel_rfl) (by kernel_rfl) ?_
  refine DW.last 3 [1, 4, 6, 8, 12, 112] (x' := ⟨(112, .v (.bool (decide ((bsum v.weights (orU b.heard (Int.toNat m.node)).n) < v.need)))) :: (sfq122 no), (sfq118 v b m no)⟩) (by kernel_rfl) (by kernel_rfl) ?_
  rcases Bool.eq_false_or_eq_true (decide ((bsum v.weights (orU b.heard (Int.toNat m.node)).n) < v.need)) with h12 | h12
  rw [h12]
  have g12 : ((bsum v.weights (orU b.heard (Int.toNat m.node)).n) < v.need) := of_decide_eq_true h12
  refine EL.condT (by kernel_rfl) ?_
  refine EL.sreg ?_
  refine OW.last 4 [8, 9, 10] (x' := ⟨[(10, VI 0), (9, .emp), (8, .ref 3 8 0 0)], (sfq123 v b m no)⟩) (by kernel_rfl) (by kernel_rfl) ?_
  refine EL.ret ?_
  refine thenL_ret ?_
  refine ⟨.inr rfl, .tup [.agg [VI b.time, VI b.phase, .v (.string b.own), .v (.string b.value), VI ((((mergedP ([b.best, m.copy])).1).at_).time), VI ((((mergedP ([b.best, m.copy])).1).at_).who), .v (.string (((mergedP ([b.best, m.copy])).1).data)), .v (.int .u64 ((orU b.heard (Int.toNat m.node)).n : Int))], .emp, VI 0], by kernel_rfl, Ale.trans (b := .tup [.agg [VI b.time, VI b.phase, .v (.string b.own), .v (.string b.value), VI ((((mergedP ([b.best, m.copy])).1).at_).time), VI ((((mergedP ([b.best, m.copy])).1).at_).who), .v (.string (((mergedP ([b.best, m.copy])).1).data)), .v (.int .u64 ((orU b.heard (Int.toNat m.node)).n : Int))], .lst 6 [], VI 0]) (Ale.tup (.cons (Ale.refl) (.cons (Ale.emp) (.cons (Ale.refl) (.nil))))) (Ale.of_eq ?_)⟩
  focus (first | (exfalso; omega) | ((try have hmt := merged_two (bid_ok (v := v) (b := b) (by assumption)).2.1 (vote_copy (m := m) (by assumption))); (try simp only [hmt] at *); rw [hear_yes (by omega) (by assumption) (by assumption) (by omega) (by first | (simp [fitsP, *]; done) | (simp_all [fitsP]; done)) (by omega) (by assumption)]; first | (rw [if_pos (by assumption)]; first | rfl | (simp [heardP, *]; done)) | (rw [if_neg (by assumption)]; first | (simp [heardP, onP, *]; done) | (simp_all [heardP, onP]; done) | (simp only [heardP, onP]))) | (rw [hear_no (by omega) (by assumption) (by assumption) (by first | (simp [fitsP, *]; done) | (simp_all [fitsP]; done) | omega)]; rfl) | (simp only [hearP]; (repeat' split) <;> first | rfl | (exfalso; omega) | contradiction | (simp_all [Bid.zero]; done)))
  rw [h12]
  have g12 : ¬ ((bsum v.weights (orU b.heard (Int.toNat m.node)).n) < v.need) := of_decide_eq_false h12
  refine EL.condF (by kernel_rfl) ?_
  refine EL.skip ?_
  refine thenL_norm ?_
  refine EL.seq ?_
  refine EL.sreg ?_
  refine OW.last 3 [1, 4, 6, 8, 12, 116] (x' := ⟨(116, .v (.bool (b.phase == 2))) :: (sfq122 no), (sfq118 v b m no)⟩) (by kernel_rfl) (by kernel_rfl) ?_
  rcases Bool.eq_false_or_eq_true ((b.phase == 2)) with h13 | h13
  rw [h13]
  have g13 : (b.phase = 2) := by simpa using h13
  refine EL.condT (by kernel_rfl) ?_
  refine EL.sreg ?_
  refine OW.last 2 [6, 8] (x' := ⟨[(8, .ref 3 8 0 0), (6, .ref 1 8 0 0)], (sfq125 v b m no)⟩) (by kernel_rfl) (by kernel_rfl) ?_
  refine EL.sreg ?_
  refine OW.last 4 [8, 9, 10] (x' := ⟨[(10, VI 0), (9, .emp), (8, .ref 3 8 0 0)], (sfq126 v b m no)⟩) (by kernel_rfl) (by kernel_rfl) ?_
  refine EL.ret ?_
  refine thenL_ret ?_
  refine ⟨.inr rfl, .tup [.agg [VI b.time, VI 3, .v (.string b.own), .v (.string b.value), VI ((((mergedP ([b.best, m.copy])).1).at_).time), VI ((((mergedP ([b.best, m.copy])).1).at_).who), .v (.string (((mergedP ([b.best, m.copy])).1).data)), .v (.int .u64 ((orU b.heard (Int.toNat m.node)).n : Int))], .emp, VI 0], by kernel_rfl, Ale.trans (b := .tup [.agg [VI b.time, VI 3, .v (.string b.own), .v (.string b.value), VI ((((mergedP ([b.best, m.copy])).1).at_).time), VI ((((mergedP ([b.best, m.copy])).1).at_).who), .v (.string (((mergedP ([b.best, m.copy])).1).data)), .v (.int .u64 ((orU b.heard (Int.toNat m.node)).n : Int))], .lst 6 [], VI 0]) (Ale.tup (.cons (Ale.refl) (.cons (Ale.emp) (.cons (Ale.refl) (.nil))))) (Ale.of_eq ?_)⟩
  focus (first | (exfalso; omega) | ((try have hmt := merged_two (bid_ok (v := v) (b := b) (by assumption)).2.1 (vote_copy (m := m) (by assumption))); (try simp only [hmt] at *); rw [hear_yes (by omega) (by assumption) (by assumption) (by omega) (by first | (simp [fitsP, *]; done) | (simp_all [fitsP]; done)) (by omega) (by assumption)]; first | (rw [if_pos (by assumption)]; first | rfl | (simp [heardP, *]; done)) | (rw [if_neg (by assumption)]; first | (simp [heardP, onP, *]; done) | (simp_all [heardP, onP]; done) | (simp only [heardP, onP]))) | (rw [hear_no (by omega) (by assumption) (by assumption) (by first | (simp [fitsP, *]; done) | (simp_all [fitsP]; done) | omega)]; rfl) | (simp only [hearP]; (repeat' split) <;> first | rfl | (exfalso; omega) | contradiction | (simp_all [Bid.zero]; done)))
  rw [h13]
  have g13 : ¬ (b.phase = 2) := by simpa using h13
  refine EL.condF (by kernel_rfl) ?_
  refine EL.skip ?_
  refine thenL_norm ?_
  refine EL.sreg ?_
  refine OW.last 2 [1, 4, 6, 8, 12] (x' := ⟨(sfq122 no), (sfq128 v b m no)⟩) (by kernel_rfl) (by kernel_rfl) ?_
  refine EL.sreg ?_
  refine OW.last 2 [1, 4, 6, 8, 12] (x' := ⟨(sfq122 no), (sfq130 v b m no)⟩) (by kernel_rfl) (by kernel_rfl) ?_
  refine EL.sreg ?_
  refine OW.last 4 [1, 4, 6, 8, 12] (x' := ⟨(sfq122 no), (sfq132 v b m no)⟩) (by kernel_rfl) (by kernel_rfl) ?_
  refine EL.seq ?_
  refine EL.sreg ?_
  refine OW.last 5 [1, 4, 6, 8, 12, 128] (x' := ⟨(128, .v (.bool (!((((((mergedP ([b.best, m.copy])).1).at_).time) == 0) && ((((((mergedP ([b.best, m.copy])).1).at_).who) == 0) && true))))) :: (sfq122 no), (sfq132 v b m no)⟩) (by kernel_rfl) (by kernel_rfl) ?_
  rcases Bool.eq_false_or_eq_true (((((((mergedP ([b.best, m.copy])).1).at_).time) == 0) && ((((((mergedP ([b.best, m.copy])).1).at_).who) == 0) && true))) with h14 | h14
  rw [h14]
  have g14 : ((((mergedP ([b.best, m.copy])).1).at_).time) = 0 ∧ ((((mergedP ([b.best, m.copy])).1).at_).who) = 0 := by simpa [strEq_iff] using h14
  refine EL.condF (by kernel_rfl) ?_
  refine EL.skip ?_
  refine thenL_norm ?_
  refine EL.sdraw ?_
  refine DW.run 3 (x' := ⟨(sfq134 v b m no), (sfq132 v b m no)⟩) (by kernel_rfl) ?_
  refine DW.ope (v := VI (List.length v.weights : Int)) (u := []) (acc := []) (x' := ⟨(136, VI (List.length v.weights : Int)) :: (sfq134 v b m no), (sfq132 v b m no)⟩) (by kernel_rfl) (opE_len cI v.weights (.s 135) 1 (by kernel_rfl) (by kernel_rfl) (.inl rfl)) (by kernel_rfl) ?_
  refine DW.run 6 (x' := ⟨(sfq136 no b v m), (sfq132 v b m no)⟩) (by kernel_rfl) ?_
  refine DW.fn (ar := [VI (List.length v.weights : Int), (sfq135 no b)]) (x' := ⟨(sfq137 v no b m), (sfq132 v b m no)⟩) (by kernel_rfl) (by kernel_rfl) F43_call (rtoAll_fn (List.length v.weights : Int) (⟨3, no, 0, (⟨(⟨b.time, no⟩ : Stamp), b.own⟩ : Copy)⟩ : Vote) (by have := qc_len (bid_ok (v := v) (b := b) (by assumption)).1; omega)) (by kernel_rfl) (by kernel_rfl) ?_
  refine DW.last 3 [8, 9, 10] (x' := ⟨(sfq139 v no b), (sfq138 v b m no)⟩) (by kernel_rfl) (by kernel_rfl) ?_
  refine EL.ret ?_
  refine ⟨.inr rfl, .tup [.agg [VI b.time, VI 2, .v (.string b.own), .v (.string b.own), VI ((((mergedP ([b.best, m.copy])).1).at_).time), VI ((((mergedP ([b.best, m.copy])).1).at_).who), .v (.string (((mergedP ([b.best, m.copy])).1).data)), .v (.int .u64 0)], .lst 6 ((toAllP (List.length v.weights : Int).toNat (⟨3, no, 0, (⟨(⟨b.time, no⟩ : Stamp), b.own⟩ : Copy)⟩ : Vote)).map Vote.cs), VI 0], by kernel_rfl, Ale.of_eq ?_⟩
  focus (first | (exfalso; omega) | ((try have hmt := merged_two (bid_ok (v := v) (b := b) (by assumption)).2.1 (vote_copy (m := m) (by assumption))); (try simp only [hmt] at *); rw [hear_yes (by omega) (by assumption) (by assumption) (by omega) (by first | (simp [fitsP, *]; done) | (simp_all [fitsP]; done)) (by omega) (by assumption)]; first | (rw [if_pos (by assumption)]; first | rfl | (simp [heardP, *]; done)) | (rw [if_neg (by assumption)]; first | (simp [heardP, onP, *]; done) | (simp_all [heardP, onP]; done) | (simp only [heardP, onP]))) | (rw [hear_no (by omega) (by assumption) (by assumption) (by first | (simp [fitsP, *]; done) | (simp_all [fitsP]; done) | omega)]; rfl) | (simp only [hearP]; (repeat' split) <;> first | rfl | (exfalso; omega) | contradiction | (simp_all [Bid.zero]; done)))
  rw [h14]
  have g14 : ¬ (((((mergedP ([b.best, m.copy])).1).at_).time) = 0 ∧ ((((mergedP ([b.best, m.copy])).1).at_).who) = 0) := fun ⟨q0, q1⟩ => Bool.noConfusion ((show (((((((mergedP ([b.best, m.copy])).1).at_).time) == 0) && ((((((mergedP ([b.best, m.copy])).1).at_).who) == 0) && true))) = true by first | (simp [q0, q1, strEq_iff]; done) | (simp only [q0, q1, beq_self_eq_true, Bool.and_self, Bool.and_true, Bool.true_and]; done)).symm.trans h14)
  refine EL.condT (by kernel_rfl) ?_
  refine EL.reg0 ?_
  refine OW.end 5 (x' := ⟨(sfq142 b m no), (sfq141 v b m no)⟩) (by kernel_rfl) (by kernel_rfl) ?_
  refine thenL_norm ?_
  refine EL.sdraw ?_
  refine DW.run 3 (x' := ⟨(sfq144 v b m no), (sfq141 v b m no)⟩) (by kernel_rfl) ?_
  refine DW.ope (v := VI (List.length v.weights : Int)) (u := []) (acc := []) (x' := ⟨(136, VI (List.length v.weights : Int)) :: (sfq144 v b m no), (sfq141 v b m no)⟩) (by kernel_rfl) (opE_len cI v.weights (.s 135) 1 (by kernel_rfl) (by kernel_rfl) (.inl rfl)) (by kernel_rfl) ?_
  refine DW.run 6 (x' := ⟨(sfq147 no b m v), (sfq141 v b m no)⟩) (by kernel_rfl) ?_
  refine DW.fn (ar := [VI (List.length v.weights : Int), (sfq145 no b m)]) (x' := ⟨(sfq148 v no b m), (sfq141 v b m no)⟩) (by kernel_rfl) (by kernel_rfl) F43_call (rtoAll_fn (List.length v.weights : Int) (⟨3, no, 0, (⟨(⟨b.time, no⟩ : Stamp), ((mergedP ([b.best, m.copy])).1).data⟩ : Copy)⟩ : Vote) (by have := qc_len (bid_ok (v := v) (b := b) (by assumption)).1; omega)) (by kernel_rfl) (by kernel_rfl) ?_
  refine DW.last 3 [8, 9, 10] (x' := ⟨(sfq150 v no b m), (sfq149 v b m no)⟩) (by kernel_rfl) (by kernel_rfl) ?_
  refine EL.ret ?_
  refine ⟨.inr rfl, .tup [.agg [VI b.time, VI 2, .v (.string b.own), .v (.string (((mergedP ([b.best, m.copy])).1).data)), VI ((((mergedP ([b.best, m.copy])).1).at_).time), VI ((((mergedP ([b.best, m.copy])).1).at_).who), .v (.string (((mergedP ([b.best, m.copy])).1).data)), .v (.int .u64 0)], .lst 6 ((toAllP (List.length v.weights : Int).toNat (⟨3, no, 0, (⟨(⟨b.time, no⟩ : Stamp), ((mergedP ([b.best, m.copy])).1).data⟩ : Copy)⟩ : Vote)).map Vote.cs), VI 0], by kernel_rfl, Ale.of_eq ?_⟩
  focus (first | (exfalso; omega) | ((try have hmt := merged_two (bid_ok (v := v) (b := b) (by assumption)).2.1 (vote_copy (m := m) (by assumption))); (try simp only [hmt] at *); rw [hear_yes (by omega) (by assumption) (by assumption) (by omega) (by first | (simp [fitsP, *]; done) | (simp_all [fitsP]; done)) (by omega) (by assumption)]; first | (rw [if_pos (by assumption)]; first | rfl | (simp [heardP, *]; done)) | (rw [if_neg (by assumption)]; first | (simp [heardP, onP, *]; done) | (simp_all [heardP, onP]; done) | (simp only [heardP, onP]))) | (rw [hear_no (by omega) (by assumption) (by assumption) (by first | (simp [fitsP, *]; done) | (simp_all [fitsP]; done) | omega)]; rfl) | (simp only [hearP]; (repeat' split) <;> first | rfl | (exfalso; omega) | contradiction | (simp_all [Bid.zero]; done)))
  rw [h6]
  have g6 : ¬ (m.kind = 2) := by simpa using h6
  refine OW.run 4 (x' := ⟨(48, .v (.bool (b.phase == 2))) :: (47, .v (.bool (b.phase == 2))) :: (sfq151 b m no), (sfq100 v b m no)⟩) (by kernel_rfl) ?_
  rcases Bool.eq_false_or_eq_true ((b.phase == 2)) with h15 | h15
  rw [h15]
  have g15 : (b.phase = 2) := by simpa using h15
  refine OW.run 5 (x' := ⟨(53, .v (.bool (m.kind == 4))) :: (52, .v (.bool (m.kind == 4))) :: (51, .v (.bool (m.kind == 4))) :: (sfq152 m b no), (sfq100 v b m no)⟩) (by kernel_rfl) ?_
  rcases Bool.eq_false_or_eq_true ((m.kind == 4)) with h16 | h16
  rw [h16]
  have g16 : (m.kind = 4) := by simpa using h16
  refine OW.last 8 [1, 4, 6, 7, 8, 12, 13] (x' := ⟨(13, .v (.bool ((m.copy.at_.time == b.time) && ((m.copy.at_.who == no) && true)))) :: (12, .ref 4 2 0 0) :: (sfq93 no), (sfq100 v b m no)⟩) (by kernel_rfl) (by kernel_rfl) ?_
  refine EL.seq ?_
  refine EL.sreg ?_
  refine OW.run 5 (x' := ⟨(65, .v (.bool (m.bid != no))) :: (64, .v (.bool (m.bid != no))) :: (63, VI no) :: (62, VI m.bid) :: (61, .ref 2 6 0 1) :: (13, .v (.bool ((m.copy.at_.time == b.time) && ((m.copy.at_.who == no) && true)))) :: (12, .ref 4 2 0 0) :: (sfq93 no), (sfq100 v b m no)⟩) (by kernel_rfl) ?_
  rcases Bool.eq_false_or_eq_true ((m.bid != no)) with h17 | h17
  rw [h17]
  have g17 : ¬ (m.bid = no) := by simpa using h17
  refine OW.last 18 [1, 4, 6, 7, 8, 12, 83] (x' := ⟨(83, .v (.bool true)) :: (12, .ref 4 2 0 0) :: (sfq93 no), (sfq100 v b m no)⟩) (by kernel_rfl) (by kernel_rfl) ?_
  refine EL.condT (by kernel_rfl) ?_
  refine EL.sreg ?_
  refine OW.last 4 [8, 9, 10] (x' := ⟨[(10, VI 0), (9, .emp), (8, .ref 3 8 0 0)], (sfq104 v b m no)⟩) (by kernel_rfl) (by kernel_rfl) ?_
  refine EL.ret ?_
  refine thenL_ret ?_
  refine ⟨.inr rfl, .tup [.agg [VI b.time, VI b.phase, .v (.string b.own), .v (.string b.value), VI b.best.at_.time, VI b.best.at_.who, .v (.string b.best.data), .v (.int .u64 (b.heard.n : Int))], .emp, VI 0], by kernel_rfl, Ale.trans (b := .tup [.agg [VI b.time, VI b.phase, .v (.string b.own), .v (.string b.value), VI b.best.at_.time, VI b.best.at_.who, .v (.string b.best.data), .v (.int .u64 (b.heard.n : Int))], .lst 6 [], VI 0]) (Ale.tup (.cons (Ale.refl) (.cons (Ale.emp) (.cons (Ale.refl) (.nil))))) (Ale.of_eq ?_)⟩
  focus (first | (exfalso; omega) | ((try have hmt := merged_two (bid_ok (v := v) (b := b) (by assumption)).2.1 (vote_copy (m := m) (by assumption))); (try simp only [hmt] at *); rw [hear_yes (by omega) (by assumption) (by assumption) (by omega) (by first | (simp [fitsP, *]; done) | (simp_all [fitsP]; done)) (by omega) (by assumption)]; first | (rw [if_pos (by assumption)]; first | rfl | (simp [heardP, *]; done)) | (rw [if_neg (by assumption)]; first | (simp [heardP, onP, *]; done) | (simp_all [heardP, onP]; done) | (simp only [heardP, onP]))) | (rw [hear_no (by omega) (by assumption) (by assumption) (by first | (simp [fitsP, *]; done) | (simp_all [fitsP]; done) | omega)]; rfl) | (simp only [hearP]; (repeat' split) <;> first | rfl | (exfalso; omega) | contradiction | (simp_all [Bid.zero]; done)))
  rw [h17]
  have g17 : (m.bid = no) := by simpa using h17
  refine OW.run 4 (x' := ⟨(69, .v (.bool (!((m.copy.at_.time == b.time) && ((m.copy.at_.who == no) && true))))) :: (68, .v (.bool (!((m.copy.at_.time == b.time) && ((m.copy.at_.who == no) && true))))) :: (67, .v (.bool (!((m.copy.at_.time == b.time) && ((m.copy.at_.who == no) && true))))) :: (66, .v (.bool ((m.copy.at_.time == b.time) && ((m.copy.at_.who == no) && true)))) :: (65, .v (.bool false)) :: (64, .v (.bool false)) :: (63, VI no) :: (62, VI m.bid) :: (61, .ref 2 6 0 1) :: (13, .v (.bool ((m.copy.at_.time == b.time) && ((m.copy.at_.who == no) && true)))) :: (12, .ref 4 2 0 0) :: (sfq93 no), (sfq100 v b m no)⟩) (by kernel_rfl) ?_
  rcases Bool.eq_false_or_eq_true (((m.copy.at_.time == b.time) && ((m.copy.at_.who == no) && true))) with h18 | h18
  rw [h18]
  have g18 : m.copy.at_.time = b.time ∧ m.copy.at_.who = no := by simpa [strEq_iff] using h18
  refine OW.run 4 (x' := ⟨(sfq105 v m no), (sfq100 v b m no)⟩) (by kernel_rfl) ?_
  refine OW.ope (v := VI (List.length v.weights : Int)) (u := []) (acc := []) (x' := ⟨(74, VI (List.length v.weights : Int)) :: (sfq105 v m no), (sfq100 v b m no)⟩) (by kernel_rfl) (opE_len cI v.weights (.s 73) 1 (by kernel_rfl) (by kernel_rfl) (.inl rfl)) (by kernel_rfl) ?_
  refine OW.run 3 (x' := ⟨(77, .v (.bool (decide (m.node ≥ (List.length v.weights : Int))))) :: (76, .v (.bool (decide (m.node ≥ (List.length v.weights : Int))))) :: (75, .v (.bool (decide (m.node ≥ (List.length v.weights : Int))))) :: (74, VI (List.length v.weights : Int)) :: (sfq105 v m no), (sfq100 v b m no)⟩) (by kernel_rfl) ?_
  rcases Bool.eq_false_or_eq_true (decide (m.node ≥ (List.length v.weights : Int))) with h19 | h19
  rw [h19]
  have g19 : (m.node ≥ (List.length v.weights : Int)) := of_decide_eq_true h19
  refine OW.last 6 [1, 4, 6, 7, 8, 12, 83] (x' := ⟨(83, .v (.bool true)) :: (12, .ref 4 2 0 0) :: (sfq93 no), (sfq100 v b m no)⟩) (by kernel_rfl) (by kernel_rfl) ?_
  refine EL.condT (by kernel_rfl) ?_
  refine EL.sreg ?_
  refine OW.last 4 [8, 9, 10] (x' := ⟨[(10, VI 0), (9, .emp), (8, .ref 3 8 0 0)], (sfq104 v b m no)⟩) (by kernel_rfl) (by kernel_rfl) ?_
  refine EL.ret ?_
  refine thenL_ret ?_
  refine ⟨.inr rfl, .tup [.agg [VI b.time, VI b.phase, .v (.string b.own), .v (.string b.value), VI b.best.at_.time, VI b.best.at_.who, .v (.string b.best.data), .v (.int .u64 (b.heard.n : Int))], .emp, VI 0], by kernel_rfl, Ale.trans (b := .tup [.agg [VI b.time, VI b.phase, .v (.string b.own), .v (.string b.value), VI b.best.at_.time, VI b.best.at_.who, .v (.string b.best.data), .v (.int .u64 (b.heard.n : Int))], .lst 6 [], VI 0]) (Ale.tup (.cons (Ale.refl) (.cons (Ale.emp) (.cons (Ale.refl) (.nil))))) (Ale.of_eq ?_)⟩
  focus (first | (exfalso; omega) | ((try have hmt := merged_two (bid_ok (v := v) (b := b) (by assumption)).2.1 (vote_copy (m := m) (by assumption))); (try simp only [hmt] at *); rw [hear_yes (by omega) (by assumption) (by assumption) (by omega) (by first | (simp [fitsP, *]; done) | (simp_all [fitsP]; done)) (by omega) (by assumption)]; first | (rw [if_pos (by assumption)]; first | rfl | (simp [heardP, *]; done)) | (rw [if_neg (by assumption)]; first | (simp [heardP, onP, *]; done) | (simp_all [heardP, onP]; done) | (simp only [heardP, onP]))) | (rw [hear_no (by omega) (by assumption) (by assumption) (by first | (simp [fitsP, *]; done) | (simp_all [fitsP]; done) | omega)]; rfl) | (simp only [hearP]; (repeat' split) <;> first | rfl | (exfalso; omega) | contradiction | (simp_all [Bid.zero]; done)))
  rw [h19]
  have g19 : ¬ (m.node ≥ (List.length v.weights : Int)) := of_decide_eq_false h19
  refine OW.run 4 (x' := ⟨(sfq106 m b v no), (sfq100 v b m no)⟩) (by kernel_rfl) ?_
  refine OW.fn (ar := [.v (.int .u64 (b.heard.n : Int)), VI m.node]) (x' := ⟨(82, .v (.bool (inS b.heard.n (Int.toNat m.node)))) :: (sfq106 m b v no), (sfq100 v b m no)⟩) (by kernel_rfl) (by kernel_rfl) F40_call (inset_fn b.heard m.node (vote_node (m := m) (by assumption)).1) (by kernel_rfl) (by kernel_rfl) ?_
  refine OW.last 1 [1, 4, 6, 7, 8, 12, 83] (x' := ⟨(83, .v (.bool (inS b.heard.n (Int.toNat m.node)))) :: (12, .ref 4 2 0 0) :: (sfq93 no), (sfq100 v b m no)⟩) (by kernel_rfl) (by kernel_rfl) ?_
  rcases Bool.eq_false_or_eq_true (inS b.heard.n (Int.toNat m.node)) with h20 | h20
  rw [h20]
  refine EL.condT (by kernel_rfl) ?_
  refine EL.sreg ?_
  refine OW.last 4 [8, 9, 10] (x' := ⟨[(10, VI 0), (9, .emp), (8, .ref 3 8 0 0)], (sfq104 v b m no)⟩) (by kernel_rfl) (by kernel_rfl) ?_
  refine EL.ret ?_
  refine thenL_ret ?_
  refine ⟨.inr rfl, .tup [.agg [VI b.time, VI b.phase, .v (.string b.own), .v (.string b.value), VI b.best.at_.time, VI b.best.at_.who, .v (.string b.best.data), .v (.int .u64 (b.heard.n : Int))], .emp, VI 0], by kernel_rfl, Ale.trans (b := .tup [.agg [VI b.time, VI b.phase, .v (.string b.own), .v (.string b.value), VI b.best.at_.time, VI b.best.at_.who, .v (.string b.best.data), .v (.int .u64 (b.heard.n : Int))], .lst 6 [], VI 0]) (Ale.tup (.cons (Ale.refl) (.cons (Ale.emp) (.cons (Ale.refl) (.nil))))) (Ale.of_eq ?_)⟩
  focus (first | (exfalso; omega) | ((try have hmt := merged_two (bid_ok (v := v) (b := b) (by assumption)).2.1 (vote_copy (m := m) (by assumption))); (try simp only [hmt] at *); rw [hear_yes (by omega) (by assumption) (by assumption) (by omega) (by first | (simp [fitsP, *]; done) | (simp_all [fitsP]; done)) (by omega) (by assumption)]; first | (rw [if_pos (by assumption)]; first | rfl | (simp [heardP, *]; done)) | (rw [if_neg (by assumption)]; first | (simp [heardP, onP, *]; done) | (simp_all [heardP, onP]; done) | (simp only [heardP, onP]))) | (rw [hear_no (by omega) (by assumption) (by assumption) (by first | (simp [fitsP, *]; done) | (simp_all [fitsP]; done) | omega)]; rfl) | (simp only [hearP]; (repeat' split) <;> first | rfl | (exfalso; omega) | contradiction | (simp_all [Bid.zero]; done)))
  rw [h20]
  refine EL.condF (by kernel_rfl) ?_
  refine EL.skip ?_
  refine thenL_norm ?_
  refine EL.sdraw ?_
  refine DW.run 4 (x' := ⟨(sfq107 m b no), (sfq100 v b m no)⟩) (by kernel_rfl) ?_
  refine DW.ope (v := .v (.int .u64 (IntKind.u64.wrap (1 * 2 ^ (min (Int.toNat m.node) IntKind.u64.bits))))) (u := []) (acc := []) (x' := ⟨(89, .v (.int .u64 (IntKind.u64.wrap (1 * 2 ^ (min (Int.toNat m.node) IntKind.u64.bits))))) :: (sfq107 m b no), (sfq100 v b m no)⟩) (by kernel_rfl) (opE_shl (.c (.v (.int .u64 1))) (.s 88) .u64 .i64 1 m.node (by kernel_rfl) (by kernel_rfl) (by kernel_rfl) (by kernel_rfl) (by have hvn := vote_node (m := m) (by assumption); have hq9 := bid_ok (v := v) (b := b) (by assumption); have := qc_len hq9.1; first | omega | exact ⟨by omega, by assumption⟩)) (by kernel_rfl) ?_
  have e21 : IntKind.u64.wrap (1 * 2 ^ (min (Int.toNat m.node) IntKind.u64.bits)) = ((2 ^ (Int.toNat m.node) : Nat) : Int) := shl1 (by have hvn := vote_node (m := m) (by assumption); have hq9 := bid_ok (v := v) (b := b) (by assumption); have := qc_len hq9.1; first | omega | exact ⟨by omega, by assumption⟩)
  rw [e21]
  refine DW.run 3 (x' := ⟨(91, .ref 1 8 0 7) :: (90, .v (.int .u64 (IntKind.u64.wrap ((b.heard.n : Int) + ((2 ^ (Int.toNat m.node) : Nat) : Int))))) :: (sfq108 m b no), [some ⟨2, [[.lst 1 (v.weights.map cI), VI v.need]]⟩, some ⟨8, [[VI b.time, VI b.phase, .v (.string b.own), .v (.string b.value), VI b.best.at_.time, VI b.best.at_.who, .v (.string b.best.data), .v (.int .u64 (IntKind.u64.wrap ((b.heard.n : Int) + ((2 ^ (Int.toNat m.node) : Nat) : Int))))]]⟩, (sfq28 m), sfq54, some ⟨2, [[VI b.time, VI no]]⟩]⟩) (by kernel_rfl) ?_
  have e22 : IntKind.u64.wrap ((b.heard.n : Int) + ((2 ^ (Int.toNat m.node) : Nat) : Int)) = ((orU b.heard (Int.toNat m.node)).n : Int) := addU (by have hvn := vote_node (m := m) (by assumption); have hq9 := bid_ok (v := v) (b := b) (by assumption); have := qc_len hq9.1; first | omega | exact ⟨by omega, by assumption⟩)
  rw [e22]
  refine DW.last 0 [1, 4, 6, 7, 8, 12] (x' := ⟨(12, .ref 4 2 0 0) :: (sfq93 no), (sfq110 v b m no)⟩) (by kernel_rfl) (by kernel_rfl) ?_
  refine EL.seq ?_
  refine EL.sreg ?_
  refine OW.last 3 [1, 4, 6, 7, 8, 12, 94] (x' := ⟨(94, .v (.bool (b.phase == 1))) :: (12, .ref 4 2 0 0) :: (sfq93 no), (sfq110 v b m no)⟩) (by kernel_rfl) (by kernel_rfl) ?_
  rw [h5]
  refine EL.condT (by kernel_rfl) ?_
  refine EL.reg0 ?_
  refine OW.run 5 (x' := ⟨(sfq114 m b no), (sfq113 v b m no)⟩) (by kernel_rfl) ?_
  refine OW.fn (ar := [.own 5 3 0 2]) (x' := ⟨(sfq116 b m no), (sfq113 v b m no)⟩) (by kernel_rfl) (by kernel_rfl) F41_call (merged_fn ([b.best, m.copy]) (by first | omega | (simp; done))) (by kernel_rfl) (by kernel_rfl) ?_
  refine OW.end 5 (x' := ⟨(sfq119 b m no), (sfq118 v b m no)⟩) (by kernel_rfl) (by kernel_rfl) ?_
  refine thenL_norm ?_
  refine EL.seq ?_
  refine EL.sdraw ?_
  refine DW.run 4 (x' := ⟨(sfq120 b m v no), (sfq118 v b m no)⟩) (by kernel_rfl) ?_
  refine DW.fn (ar := [.lst 1 (v.weights.map cI), .v (.int .u64 ((orU b.heard (Int.toNat m.node)).n : Int))]) (x' := ⟨(sfq121 v b m no), (sfq118 v b m no)⟩) (by kernel_rfl) (by kernel_rfl) F42_call (sumof_fn v.weights (orU b.heard (Int.toNat m.node)) (qc_nodes (bid_ok (v := v) (b := b) (by assumption)).1)) (by kernel_rfl) (by kernel_rfl) ?_
  refine DW.last 3 [1, 4, 6, 8, 12, 112] (x' := ⟨(112, .v (.bool (decide ((bsum v.weights (orU b.heard (Int.toNat m.node)).n) < v.need)))) :: (sfq122 no), (sfq118 v b m no)⟩) (by kernel_rfl) (by kernel_rfl) ?_
  rcases Bool.eq_false_or_eq_true (decide ((bsum v.weights (orU b.heard (Int.toNat m.node)).n) < v.need)) with h23 | h23
  rw [h23]
  have g23 : ((bsum v.weights (orU b.heard (Int.toNat m.node)).n) < v.need) := of_decide_eq_true h23
  refine EL.condT (by kernel_rfl) ?_
  refine EL.sreg ?_
  refine OW.last 4 [8, 9, 10] (x' := ⟨[(10, VI 0), (9, .emp), (8, .ref 3 8 0 0)], (sfq123 v b m no)⟩) (by kernel_rfl) (by kernel_rfl) ?_
  refine EL.ret ?_
  refine thenL_ret ?_
  refine ⟨.inr rfl, .tup [.agg [VI b.time, VI b.phase, .v (.string b.own), .v (.string b.value), VI ((((mergedP ([b.best, m.copy])).1).at_).time), VI ((((mergedP ([b.best, m.copy])).1).at_).who), .v (.string (((mergedP ([b.best, m.copy])).1).data)), .v (.int .u64 ((orU b.heard (Int.toNat m.node)).n : Int))], .emp, VI 0], by kernel_rfl, Ale.trans (b := .tup [.agg [VI b.time, VI b.phase, .v (.string b.own), .v (.string b.value), VI ((((mergedP ([b.best, m.copy])).1).at_).time), VI ((((mergedP ([b.best, m.copy])).1).at_).who), .v (.string (((mergedP ([b.best, m.copy])).1).data)), .v (.int .u64 ((orU b.heard (Int.toNat m.node)).n : Int))], .lst 6 [], VI 0]) (Ale.tup (.cons (Ale.refl) (.cons (Ale.emp) (.cons (Ale.refl) (.nil))))) (Ale.of_eq ?_)⟩
  focus (first | (exfalso; omega) | ((try have hmt := merged_two (bid_ok (v := v) (b := b) (by assumption)).2.1 (vote_copy (m := m) (by assumption))); (try simp only [hmt] at *); rw [hear_yes (by omega) (by assumption) (by assumption) (by omega) (by first | (simp [fitsP, *]; done) | (simp_all [fitsP]; done)) (by omega) (by assumption)]; first | (rw [if_pos (by assumption)]; first | rfl | (simp [heardP, *]; done)) | (rw [if_neg (by assumption)]; first | (simp [heardP, onP, *]; done) | (simp_all [heardP, onP]; done) | (simp only [heardP, onP]))) | (rw [hear_no (by omega) (by assumption) (by assumption) (by first | (simp [fitsP, *]; done) | (simp_all [fitsP]; done) | omega)]; rfl) | (simp only [hearP]; (repeat' split) <;> first | rfl | (exfalso; omega) | contradiction | (simp_all [Bid.zero]; done)))
  rw [h23]
  have g23 : ¬ ((bsum v.weights (orU b.heard (Int.toNat m.node)).n) < v.need) := of_decide_eq_false h23
  refine EL.condF (by kernel_rfl) ?_
  refine EL.skip ?_
  refine thenL_norm ?_
  refine EL.seq ?_
  refine EL.sreg ?_
  refine OW.last 3 [1, 4, 6, 8, 12, 116] (x' := ⟨(116, .v (.bool (b.phase == 2))) :: (sfq122 no), (sfq118 v b m no)⟩) (by kernel_rfl) (by kernel_rfl) ?_
  rw [h15]
  refine EL.condT (by kernel_rfl) ?_
  refine EL.sreg ?_
  refine OW.last 2 [6, 8] (x' := ⟨[(8, .ref 3 8 0 0), (6, .ref 1 8 0 0)], (sfq125 v b m no)⟩) (by kernel_rfl) (by kernel_rfl) ?_
  refine EL.sreg ?_
  refine OW.last 4 [8, 9, 10] (x' := ⟨[(10, VI 0), (9, .emp), (8, .ref 3 8 0 0)], (sfq126 v b m no)⟩) (by kernel_rfl) (by kernel_rfl) ?_
  refine EL.ret ?_
  refine thenL_ret ?_
  refine ⟨.inr rfl, .tup [.agg [VI b.time, VI 3, .v (.string b.own), .v (.string b.value), VI ((((mergedP ([b.best, m.copy])).1).at_).time), VI ((((mergedP ([b.best, m.copy])).1).at_).who), .v (.string (((mergedP ([b.best, m.copy])).1).data)), .v (.int .u64 ((orU b.heard (Int.toNat m.node)).n : Int))], .emp, VI 0], by kernel_rfl, Ale.trans (b := .tup [.agg [VI b.time, VI 3, .v (.string b.own), .v (.string b.value), VI ((((mergedP ([b.best, m.copy])).1).at_).time), VI ((((mergedP ([b.best, m.copy])).1).at_).who), .v (.string (((mergedP ([b.best, m.copy])).1).data)), .v (.int .u64 ((orU b.heard (Int.toNat m.node)).n : Int))], .lst 6 [], VI 0]) (Ale.tup (.cons (Ale.refl) (.cons (Ale.emp) (.cons (Ale.refl) (.nil))))) (Ale.of_eq ?_)⟩
  focus (first | (exfalso; omega) | ((try have hmt := merged_two (bid_ok (v := v) (b := b) (by assumption)).2.1 (vote_copy (m := m) (by assumption))); (try simp only [hmt] at *); rw [hear_yes (by omega) (by assumption) (by assumption) (by omega) (by first | (simp [fitsP, *]; done) | (simp_all [fitsP]; done)) (by omega) (by assumption)]; first | (rw [if_pos (by assumption)]; first | rfl | (simp [heardP, *]; done)) | (rw [if_neg (by assumption)]; first | (simp [heardP, onP, *]; done) | (simp_all [heardP, onP]; done) | (simp only [heardP, onP]))) | (rw [hear_no (by omega) (by assumption) (by assumption) (by first | (simp [fitsP, *]; done) | (simp_all [fitsP]; done) | omega)]; rfl) | (simp only [hearP]; (repeat' split) <;> first | rfl | (exfalso; omega) | contradiction | (simp_all [Bid.zero]; done)))
  rw [h18]
  have g18 : ¬ (m.copy.at_.time = b.time ∧ m.copy.at_.who = no) := fun ⟨q0, q1⟩ => Bool.noConfusion ((show (((m.copy.at_.time == b.time) && ((m.copy.at_.who == no) && true))) = true by first | (simp [q0, q1, strEq_iff]; done) | (simp only [q0, q1, beq_self_eq_true, Bool.and_self, Bool.and_true, Bool.true_and]; done)).symm.trans h18)
  refine OW.last 14 [1, 4, 6, 7, 8, 12, 83] (x' := ⟨(83, .v (.bool true)) :: (12, .ref 4 2 0 0) :: (sfq93 no), (sfq100 v b m no)⟩) (by kernel_rfl) (by kernel_rfl) ?_
  refine EL.condT (by kernel_rfl) ?_
  refine EL.sreg ?_
  refine OW.last 4 [8, 9, 10] (x' := ⟨[(10, VI 0), (9, .emp), (8, .ref 3 8 0 0)], (sfq104 v b m no)⟩) (by kernel_rfl) (by kernel_rfl) ?_
  refine EL.ret ?_
  refine thenL_ret ?_
  refine ⟨.inr rfl, .tup [.agg [VI b.time, VI b.phase, .v (.string b.own), .v (.string b.value), VI b.best.at_.time, VI b.best.at_.who, .v (.string b.best.data), .v (.int .u64 (b.heard.n : Int))], .emp, VI 0], by kernel_rfl, Ale.trans (b := .tup [.agg [VI b.time, VI b.phase, .v (.string b.own), .v (.string b.value), VI b.best.at_.time, VI b.best.at_.who, .v (.string b.best.data), .v (.int .u64 (b.heard.n : Int))], .lst 6 [], VI 0]) (Ale.tup (.cons (Ale.refl) (.cons (Ale.emp) (.cons (Ale.refl) (.nil))))) (Ale.of_eq ?_)⟩
  focus (first | (exfalso; omega) | ((try have hmt := merged_two (bid_ok (v := v) (b := b) (by assumption)).2.1 (vote_copy (m := m) (by assumption))); (try simp only [hmt] at *); rw [hear_yes (by omega) (by assumption) (by assumption) (by omega) (by first | (simp [fitsP, *]; done) | (simp_all [fitsP]; done)) (by omega) (by assumption)]; first | (rw [if_pos (by assumption)]; first | rfl | (simp [heardP, *]; done)) | (rw [if_neg (by assumption)]; first | (simp [heardP, onP, *]; done) | (simp_all [heardP, onP]; done) | (simp only [heardP, onP]))) | (rw [hear_no (by omega) (by assumption) (by assumption) (by first | (simp [fitsP, *]; done) | (simp_all [fitsP]; done) | omega)]; rfl) | (simp only [hearP]; (repeat' split) <;> first | rfl | (exfalso; omega) | contradiction | (simp_all [Bid.zero]; done)))
  rw [h16]
  have g16 : ¬ (m.kind = 4) := by simpa using h16
  refine OW.last 8 [1, 4, 6, 7, 8, 12, 13] (x' := ⟨(sfq153 no), (sfq100 v b m no)⟩) (by kernel_rfl) (by kernel_rfl) ?_
  refine EL.seq ?_
  refine EL.sreg ?_
  refine OW.run 5 (x' := ⟨(65, .v (.bool (m.bid != no))) :: (64, .v (.bool (m.bid != no))) :: (sfq154 no m), (sfq100 v b m no)⟩) (by kernel_rfl) ?_
  rcases Bool.eq_false_or_eq_true ((m.bid != no)) with h24 | h24
  rw [h24]
  have g24 : ¬ (m.bid = no) := by simpa using h24
  refine OW.last 18 [1, 4, 6, 7, 8, 12, 83] (x' := ⟨(83, .v (.bool true)) :: (12, .ref 4 2 0 0) :: (sfq93 no), (sfq100 v b m no)⟩) (by kernel_rfl) (by kernel_rfl) ?_
  refine EL.condT (by kernel_rfl) ?_
  refine EL.sreg ?_
  refine OW.last 4 [8, 9, 10] (x' := ⟨[(10, VI 0), (9, .emp), (8, .ref 3 8 0 0)], (sfq104 v b m no)⟩) (by kernel_rfl) (by kernel_rfl) ?_
  refine EL.ret ?_
  refine thenL_ret ?_
  refine ⟨.inr rfl, .tup [.agg [VI b.time, VI b.phase, .v (.string b.own), .v (.string b.value), VI b.best.at_.time, VI b.best.at_.who, .v (.string b.best.data), .v (.int .u64 (b.heard.n : Int))], .emp, VI 0], by kernel_rfl, Ale.trans (b := .tup [.agg [VI b.time, VI b.phase, .v (.string b.own), .v (.string b.value), VI b.best.at_.time, VI b.best.at_.who, .v (.string b.best.data), .v (.int .u64 (b.heard.n : Int))], .lst 6 [], VI 0]) (Ale.tup (.cons (Ale.refl) (.cons (Ale.emp) (.cons (Ale.refl) (.nil))))) (Ale.of_eq ?_)⟩
  focus (first | (exfalso; omega) | ((try have hmt := merged_two (bid_ok (v := v) (b := b) (by assumption)).2.1 (vote_copy (m := m) (by assumption))); (try simp only [hmt] at *); rw [hear_yes (by omega) (by assumption) (by assumption) (by omega) (by first | (simp [fitsP, *]; done) | (simp_all [fitsP]; done)) (by omega) (by assumption)]; first | (rw [if_pos (by assumption)]; first | rfl | (simp [heardP, *]; done)) | (rw [if_neg (by assumption)]; first | (simp [heardP, onP, *]; done) | (simp_all [heardP, onP]; done) | (simp only [heardP, onP]))) | (rw [hear_no (by omega) (by assumption) (by assumption) (by first | (simp [fitsP, *]; done) | (simp_all [fitsP]; done) | omega)]; rfl) | (simp only [hearP]; (repeat' split) <;> first | rfl | (exfalso; omega) | contradiction | (simp_all [Bid.zero]; done)))
  rw [h24]
  have g24 : (m.bid = no) := by simpa using h24
  refine OW.last 18 [1, 4, 6, 7, 8, 12, 83] (x' := ⟨(83, .v (.bool true)) :: (12, .ref 4 2 0 0) :: (sfq93 no), (sfq100 v b m no)⟩) (by kernel_rfl) (by kernel_rfl) ?_
  refine EL.condT (by kernel_rfl) ?_
  refine EL.sreg ?_
  refine OW.last 4 [8, 9, 10] (x' := ⟨[(10, VI 0), (9, .emp), (8, .ref 3 8 0 0)], (sfq104 v b m no)⟩) (by kernel_rfl) (by kernel_rfl) ?_
  refine EL.ret ?_
  refine thenL_ret ?_
  refine ⟨.inr rfl, .tup [.agg [VI b.time, VI b.phase, .v (.string b.own), .v (.string b.value), VI b.best.at_.time, VI b.best.at_.who, .v (.string b.best.data), .v (.int .u64 (b.heard.n : Int))], .emp, VI 0], by kernel_rfl, Ale.trans (b := .tup [.agg [VI b.time, VI b.phase, .v (.string b.own), .v (.string b.value), VI b.best.at_.time, VI b.best.at_.who, .v (.string b.best.data), .v (.int .u64 (b.heard.n : Int))], .lst 6 [], VI 0]) (Ale.tup (.cons (Ale.refl) (.cons (Ale.emp) (.cons (Ale.refl) (.nil))))) (Ale.of_eq ?_)⟩
  focus (first | (exfalso; omega) | ((try have hmt := merged_two (bid_ok (v := v) (b := b) (by assumption)).2.1 (vote_copy (m := m) (by assumption))); (try simp only [hmt] at *); rw [hear_yes (by omega) (by assumption) (by assumption) (by omega) (by first | (simp [fitsP, *]; done) | (simp_all [fitsP]; done)) (by omega) (by assumption)]; first | (rw [if_pos (by assumption)]; first | rfl | (simp [heardP, *]; done)) | (rw [if_neg (by assumption)]; first | (simp [heardP, onP, *]; done) | (simp_all [heardP, onP]; done) | (simp only [heardP, onP]))) | (rw [hear_no (by omega) (by assumption) (by assumption) (by first | (simp [fitsP, *]; done) | (simp_all [fitsP]; done) | omega)]; rfl) | (simp only [hearP]; (repeat' split) <;> first | rfl | (exfalso; omega) | contradiction | (simp_all [Bid.zero]; done)))
  rw [h15]
  have g15 : ¬ (b.phase = 2) := by simpa using h15
  refine OW.last 13 [1, 4, 6, 7, 8, 12, 13] (x' := ⟨(sfq153 no), (sfq100 v b m no)⟩) (by kernel_rfl) (by kernel_rfl) ?_
  refine EL.seq ?_
  refine EL.sreg ?_
  refine OW.run 5 (x' := ⟨(65, .v (.bool (m.bid != no))) :: (64, .v (.bool (m.bid != no))) :: (sfq154 no m), (sfq100 v b m no)⟩) (by kernel_rfl) ?_
  rcases Bool.eq_false_or_eq_true ((m.bid != no)) with h25 | h25
  rw [h25]
  have g25 : ¬ (m.bid = no) := by simpa using h25
  refine OW.last 18 [1, 4, 6, 7, 8, 12, 83] (x' := ⟨(83, .v (.bool true)) :: (12, .ref 4 2 0 0) :: (sfq93 no), (sfq100 v b m no)⟩) (by kernel_rfl) (by kernel_rfl) ?_
  refine EL.condT (by kernel_rfl) ?_
  refine EL.sreg ?_
  refine OW.last 4 [8, 9, 10] (x' := ⟨[(10, VI 0), (9, .emp), (8, .ref 3 8 0 0)], (sfq104 v b m no)⟩) (by kernel_rfl) (by kernel_rfl) ?_
  refine EL.ret ?_
  refine thenL_ret ?_
  refine ⟨.inr rfl, .tup [.agg [VI b.time, VI b.phase, .v (.string b.own), .v (.string b.value), VI b.best.at_.time, VI b.best.at_.who, .v (.string b.best.data), .v (.int .u64 (b.heard.n : Int))], .emp, VI 0], by kernel_rfl, Ale.trans (b := .tup [.agg [VI b.time, VI b.phase, .v (.string b.own), .v (.string b.value), VI b.best.at_.time, VI b.best.at_.who, .v (.string b.best.data), .v (.int .u64 (b.heard.n : Int))], .lst 6 [], VI 0]) (Ale.tup (.cons (Ale.refl) (.cons (Ale.emp) (.cons (Ale.refl) (.nil))))) (Ale.of_eq ?_)⟩
  focus (first | (exfalso; omega) | ((try have hmt := merged_two (bid_ok (v := v) (b := b) (by assumption)).2.1 (vote_copy (m := m) (by assumption))); (try simp only [hmt] at *); rw [hear_yes (by omega) (by assumption) (by assumption) (by omega) (by first | (simp [fitsP, *]; done) | (simp_all [fitsP]; done)) (by omega) (by assumption)]; first | (rw [if_pos (by assumption)]; first | rfl | (simp [heardP, *]; done)) | (rw [if_neg (by assumption)]; first | (simp [heardP, onP, *]; done) | (simp_all [heardP, onP]; done) | (simp only [heardP, onP]))) | (rw [hear_no (by omega) (by assumption) (by assumption) (by first | (simp [fitsP, *]; done) | (simp_all [fitsP]; done) | omega)]; rfl) | (simp only [hearP]; (repeat' split) <;> first | rfl | (exfalso; omega) | contradiction | (simp_all [Bid.zero]; done)))
  rw [h25]
  have g25 : (m.bid = no) := by simpa using h25
  refine OW.last 18 [1, 4, 6, 7, 8, 12, 83] (x' := ⟨(83, .v (.bool true)) :: (12, .ref 4 2 0 0) :: (sfq93 no), (sfq100 v b m no)⟩) (by kernel_rfl) (by kernel_rfl) ?_
  refine EL.condT (by kernel_rfl) ?_
  refine EL.sreg ?_
  refine OW.last 4 [8, 9, 10] (x' := ⟨[(10, VI 0), (9, .emp), (8, .ref 3 8 0 0)], (sfq104 v b m no)⟩) (by kernel_rfl) (by kernel_rfl) ?_
  refine EL.ret ?_
  refine thenL_ret ?_
  refine ⟨.inr rfl, .tup [.agg [VI b.time, VI b.phase, .v (.string b.own), .v (.string b.value), VI b.best.at_.time, VI b.best.at_.who, .v (.string b.best.data), .v (.int .u64 (b.heard.n : Int))], .emp, VI 0], by kernel_rfl, Ale.trans (b := .tup [.agg [VI b.time, VI b.phase, .v (.string b.own), .v (.string b.value), VI b.best.at_.time, VI b.best.at_.who, .v (.string b.best.data), .v (.int .u64 (b.heard.n : Int))], .lst 6 [], VI 0]) (Ale.tup (.cons (Ale.refl) (.cons (Ale.emp) (.cons (Ale.refl) (.nil))))) (Ale.of_eq ?_)⟩
  focus (first | (exfalso; omega) | ((try have hmt := merged_two (bid_ok (v := v) (b := b) (by assumption)).2.1 (vote_copy (m := m) (by assumption))); (try simp only [hmt] at *); rw [hear_yes (by omega) (by assumption) (by assumption) (by omega) (by first | (simp [fitsP, *]; done) | (simp_all [fitsP]; done)) (by omega) (by assumption)]; first | (rw [if_pos (by assumption)]; first | rfl | (simp [heardP, *]; done)) | (rw [if_neg (by assumption)]; first | (simp [heardP, onP, *]; done) | (simp_all [heardP, onP]; done) | (simp only [heardP, onP]))) | (rw [hear_no (by omega) (by assumption) (by assumption) (by first | (simp [fitsP, *]; done) | (simp_all [fitsP]; done) | omega)]; rfl) | (simp only [hearP]; (repeat' split) <;> first | rfl | (exfalso; omega) | contradiction | (simp_all [Bid.zero]; done)))
  rw [h5]
  have g5 : ¬ (b.phase = 1) := by simpa using h5
  refine OW.run 9 (x' := ⟨(48, .v (.bool (b.phase == 2))) :: (47, .v (.bool (b.phase == 2))) :: (sfq155 b no), (sfq100 v b m no)⟩) (by kernel_rfl) ?_
  rcases Bool.eq_false_or_eq_true ((b.phase == 2)) with h26 | h26
  rw [h26]
  have g26 : (b.phase = 2) := by simpa using h26
  refine OW.run 5 (x' := ⟨(53, .v (.bool (m.kind == 4))) :: (52, .v (.bool (m.kind == 4))) :: (51, .v (.bool (m.kind == 4))) :: (sfq156 m b no), (sfq100 v b m no)⟩) (by kernel_rfl) ?_
  rcases Bool.eq_false_or_eq_true ((m.kind == 4)) with h27 | h27
  rw [h27]
  have g27 : (m.kind = 4) := by simpa using h27
  refine OW.last 8 [1, 4, 6, 7, 8, 12, 13] (x' := ⟨(13, .v (.bool ((m.copy.at_.time == b.time) && ((m.copy.at_.who == no) && true)))) :: (12, .ref 4 2 0 0) :: (sfq93 no), (sfq100 v b m no)⟩) (by kernel_rfl) (by kernel_rfl) ?_
  refine EL.seq ?_
  refine EL.sreg ?_
  refine OW.run 5 (x' := ⟨(65, .v (.bool (m.bid != no))) :: (64, .v (.bool (m.bid != no))) :: (63, VI no) :: (62, VI m.bid) :: (61, .ref 2 6 0 1) :: (13, .v (.bool ((m.copy.at_.time == b.time) && ((m.copy.at_.who == no) && true)))) :: (12, .ref 4 2 0 0) :: (sfq93 no), (sfq100 v b m no)⟩) (by kernel_rfl) ?_
  rcases Bool.eq_false_or_eq_true ((m.bid != no)) with h28 | h28
  rw [h28]
  have g28 : ¬ (m.bid = no) := by simpa using h28
  refine OW.last 18 [1, 4, 6, 7, 8, 12, 83] (x' := ⟨(83, .v (.bool true)) :: (12, .ref 4 2 0 0) :: (sfq93 no), (sfq100 v b m no)⟩) (by kernel_rfl) (by kernel_rfl) ?_
  refine EL.condT (by kernel_rfl) ?_
  refine EL.sreg ?_
  refine OW.last 4 [8, 9, 10] (x' := ⟨[(10, VI 0), (9, .emp), (8, .ref 3 8 0 0)], (sfq104 v b m no)⟩) (by kernel_rfl) (by kernel_rfl) ?_
  refine EL.ret ?_
  refine thenL_ret ?_
  refine ⟨.inr rfl, .tup [.agg [VI b.time, VI b.phase, .v (.string b.own), .v (.string b.value), VI b.best.at_.time, VI b.best.at_.who, .v (.string b.best.data), .v (.int .u64 (b.heard.n : Int))], .emp, VI 0], by kernel_rfl, Ale.trans (b := .tup [.agg [VI b.time, VI b.phase, .v (.string b.own), .v (.string b.value), VI b.best.at_.time, VI b.best.at_.who, .v (.string b.best.data), .v (.int .u64 (b.heard.n : Int))], .lst 6 [], VI 0]) (Ale.tup (.cons (Ale.refl) (.cons (Ale.emp) (.cons (Ale.refl) (.nil))))) (Ale.of_eq ?_)⟩
  focus (first | (exfalso; omega) | ((try have hmt := merged_two (bid_ok (v := v) (b := b) (by assumption)).2.1 (vote_copy (m := m) (by assumption))); (try simp only [hmt] at *); rw [hear_yes (by omega) (by assumption) (by assumption) (by omega) (by first | (simp [fitsP, *]; done) | (simp_all [fitsP]; done)) (by omega) (by assumption)]; first | (rw [if_pos (by assumption)]; first | rfl | (simp [heardP, *]; done)) | (rw [if_neg (by assumption)]; first | (simp [heardP, onP, *]; done) | (simp_all [heardP, onP]; done) | (simp only [heardP, onP]))) | (rw [hear_no (by omega) (by assumption) (by assumption) (by first | (simp [fitsP, *]; done) | (simp_all [fitsP]; done) | omega)]; rfl) | (simp only [hearP]; (repeat' split) <;> first | rfl | (exfalso; omega) | contradiction | (simp_all [Bid.zero]; done)))
  rw [h28]
  have g28 : (m.bid = no) := by simpa using h28
  refine OW.run 4 (x' := ⟨(69, .v (.bool (!((m.copy.at_.time == b.time) && ((m.copy.at_.who == no) && true))))) :: (68, .v (.bool (!((m.copy.at_.time == b.time) && ((m.copy.at_.who == no) && true))))) :: (67, .v (.bool (!((m.copy.at_.time == b.time) && ((m.copy.at_.who == no) && true))))) :: (66, .v (.bool ((m.copy.at_.time == b.time) && ((m.copy.at_.who == no) && true)))) :: (65, .v (.bool false)) :: (64, .v (.bool false)) :: (63, VI no) :: (62, VI m.bid) :: (61, .ref 2 6 0 1) :: (13, .v (.bool ((m.copy.at_.time == b.time) && ((m.copy.at_.who == no) && true)))) :: (12, .ref 4 2 0 0) :: (sfq93 no), (sfq100 v b m no)⟩) (by kernel_rfl) ?_
  rcases Bool.eq_false_or_eq_true (((m.copy.at_.time == b.time) && ((m.copy.at_.who == no) && true))) with h29 | h29
  rw [h29]
  have g29 : m.copy.at_.time = b.time ∧ m.copy.at_.who = no := by simpa [strEq_iff] using h29
  refine OW.run 4 (x' := ⟨(sfq105 v m no), (sfq100 v b m no)⟩) (by kernel_rfl) ?_
  refine OW.ope (v := VI (List.length v.weights : Int)) (u := []) (acc := []) (x' := ⟨(74, VI (List.length v.weights : Int)) :: (sfq105 v m no), (sfq100 v b m no)⟩) (by kernel_rfl) (opE_len cI v.weights (.s 73) 1 (by kernel_rfl) (by kernel_rfl) (.inl rfl)) (by kernel_rfl) ?_
  refine OW.run 3 (x' := ⟨(77, .v (.bool (decide (m.node ≥ (List.length v.weights : Int))))) :: (76, .v (.bool (decide (m.node ≥ (List.length v.weights : Int))))) :: (75, .v (.bool (decide (m.node ≥ (List.length v.weights : Int))))) :: (74, VI (List.length v.weights : Int)) :: (sfq105 v m no), (sfq100 v b m no)⟩) (by kernel_rfl) ?_
  rcases Bool.eq_false_or_eq_true (decide (m.node ≥ (List.length v.weights : Int))) with h30 | h30
  rw [h30]
  have g30 : (m.node ≥ (List.length v.weights : Int)) := of_decide_eq_true h30
  refine OW.last 6 [1, 4, 6, 7, 8, 12, 83] (x' := ⟨(83, .v (.bool true)) :: (12, .ref 4 2 0 0) :: (sfq93 no), (sfq100 v b m no)⟩) (by kernel_rfl) (by kernel_rfl) ?_
  refine EL.condT (by kernel_rfl) ?_
  refine EL.sreg ?_
  refine OW.last 4 [8, 9, 10] (x' := ⟨[(10, VI 0), (9, .emp), (8, .ref 3 8 0 0)], (sfq104 v b m no)⟩) (by kernel_rfl) (by kernel_rfl) ?_
  refine EL.ret ?_
  refine thenL_ret ?_
  refine ⟨.inr rfl, .tup [.agg [VI b.time, VI b.phase, .v (.string b.own), .v (.string b.value), VI b.best.at_.time, VI b.best.at_.who, .v (.string b.best.data), .v (.int .u64 (b.heard.n : Int))], .emp, VI 0], by kernel_rfl, Ale.trans (b := .tup [.agg [VI b.time, VI b.phase, .v (.string b.own), .v (.string b.value), VI b.best.at_.time, VI b.best.at_.who, .v (.string b.best.data), .v (.int .u64 (b.heard.n : Int))], .lst 6 [], VI 0]) (Ale.tup (.cons (Ale.refl) (.cons (Ale.emp) (.cons (Ale.refl) (.nil))))) (Ale.of_eq ?_)⟩
  focus (first | (exfalso; omega) | ((try have hmt := merged_two (bid_ok (v := v) (b := b) (by assumption)).2.1 (vote_copy (m := m) (by assumption))); (try simp only [hmt] at *); rw [hear_yes (by omega) (by assumption) (by assumption) (by omega) (by first | (simp [fitsP, *]; done) | (simp_all [fitsP]; done)) (by omega) (by assumption)]; first | (rw [if_pos (by assumption)]; first | rfl | (simp [heardP, *]; done)) | (rw [if_neg (by assumption)]; first | (simp [heardP, onP, *]; done) | (simp_all [heardP, onP]; done) | (simp only [heardP, onP]))) | (rw [hear_no (by omega) (by assumption) (by assumption) (by first | (simp [fitsP, *]; done) | (simp_all [fitsP]; done) | omega)]; rfl) | (simp only [hearP]; (repeat' split) <;> first | rfl | (exfalso; omega) | contradiction | (simp_all [Bid.zero]; done)))
  rw [h30]
  have g30 : ¬ (m.node ≥ (List.length v.weights : Int)) := of_decide_eq_false h30
  refine OW.run 4 (x' := ⟨(sfq106 m b v no), (sfq100 v b m no)⟩) (by kernel_rfl) ?_
  refine OW.fn (ar := [.v (.int .u64 (b.heard.n : Int)), VI m.node]) (x' := ⟨(82, .v (.bool (inS b.heard.n (Int.toNat m.node)))) :: (sfq106 m b v no), (sfq100 v b m no)⟩) (by kernel_rfl) (by kernel_rfl) F40_call (inset_fn b.heard m.node (vote_node (m := m) (by assumption)).1) (by kernel_rfl) (by kernel_rfl) ?_
  refine OW.last 1 [1, 4, 6, 7, 8, 12, 83] (x' := ⟨(83, .v (.bool (inS b.heard.n (Int.toNat m.node)))) :: (12, .ref 4 2 0 0) :: (sfq93 no), (sfq100 v b m no)⟩) (by kernel_rfl) (by kernel_rfl) ?_
  rcases Bool.eq_false_or_eq_true (inS b.heard.n (Int.toNat m.node)) with h31 | h31
  rw [h31]
  refine EL.condT (by kernel_rfl) ?_
  refine EL.sreg ?_
  refine OW.last 4 [8, 9, 10] (x' := ⟨[(10, VI 0), (9, .emp), (8, .ref 3 8 0 0)], (sfq104 v b m no)⟩) (by kernel_rfl) (by kernel_rfl) ?_
  refine EL.ret ?_
  refine thenL_ret ?_
  refine ⟨.inr rfl, .tup [.agg [VI b.time, VI b.phase, .v (.string b.own), .v (.string b.value), VI b.best.at_.time, VI b.best.at_.who, .v (.string b.best.data), .v (.int .u64 (b.heard.n : Int))], .emp, VI 0], by kernel_rfl, Ale.trans (b := .tup [.agg [VI b.time, VI b.phase, .v (.string b.own), .v (.string b.value), VI b.best.at_.time, VI b.best.at_.who, .v (.string b.best.data), .v (.int .u64 (b.heard.n : Int))], .lst 6 [], VI 0]) (Ale.tup (.cons (Ale.refl) (.cons (Ale.emp) (.cons (Ale.refl) (.nil))))) (Ale.of_eq ?_)⟩
  focus (first | (exfalso; omega) | ((try have hmt := merged_two (bid_ok (v := v) (b := b) (by assumption)).2.1 (vote_copy (m := m) (by assumption))); (try simp only [hmt] at *); rw [hear_yes (by omega) (by assumption) (by assumption) (by omega) (by first | (simp [fitsP, *]; done) | (simp_all [fitsP]; done)) (by omega) (by assumption)]; first | (rw [if_pos (by assumption)]; first | rfl | (simp [heardP, *]; done)) | (rw [if_neg (by assumption)]; first | (simp [heardP, onP, *]; done) | (simp_all [heardP, onP]; done) | (simp only [heardP, onP]))) | (rw [hear_no (by omega) (by assumption) (by assumption) (by first | (simp [fitsP, *]; done) | (simp_all [fitsP]; done) | omega)]; rfl) | (simp only [hearP]; (repeat' split) <;> first | rfl | (exfalso; omega) | contradiction | (simp_all [Bid.zero]; done)))
  rw [h31]
  refine EL.condF (by kernel_rfl) ?_
  refine EL.skip ?_
  refine thenL_norm ?_
  refine EL.sdraw ?_
  refine DW.run 4 (x' := ⟨(sfq107 m b no), (sfq100 v b m no)⟩) (by kernel_rfl) ?_
  refine DW.ope (v := .v (.int .u64 (IntKind.u64.wrap (1 * 2 ^ (min (Int.toNat m.node) IntKind.u64.bits))))) (u := []) (acc := []) (x' := ⟨(89, .v (.int .u64 (IntKind.u64.wrap (1 * 2 ^ (min (Int.toNat m.node) IntKind.u64.bits))))) :: (sfq107 m b no), (sfq100 v b m no)⟩) (by kernel_rfl) (opE_shl (.c (.v (.int .u64 1))) (.s 88) .u64 .i64 1 m.node (by kernel_rfl) (by kernel_rfl) (by kernel_rfl) (by kernel_rfl) (by have hvn := vote_node (m := m) (by assumption); have hq9 := bid_ok (v := v) (b := b) (by assumption); have := qc_len hq9.1; first | omega | exact ⟨by omega, by assumption⟩)) (by kernel_rfl) ?_
  have e32 : IntKind.u64.wrap (1 * 2 ^ (min (Int.toNat m.node) IntKind.u64.bits)) = ((2 ^ (Int.toNat m.node) : Nat) : Int) := shl1 (by have hvn := vote_node (m := m) (by assumption); have hq9 := bid_ok (v := v) (b := b) (by assumption); have := qc_len hq9.1; first | omega | exact ⟨by omega, by assumption⟩)
  rw [e32]
  refine DW.run 3 (x' := ⟨(91, .ref 1 8 0 7) :: (90, .v (.int .u64 (IntKind.u64.wrap ((b.heard.n : Int) + ((2 ^ (Int.toNat m.node) : Nat) : Int))))) :: (sfq108 m b no), [some ⟨2, [[.lst 1 (v.weights.map cI), VI v.need]]⟩, some ⟨8, [[VI b.time, VI b.phase, .v (.string b.own), .v (.string b.value), VI b.best.at_.time, VI b.best.at_.who, .v (.string b.best.data), .v (.int .u64 (IntKind.u64.wrap ((b.heard.n : Int) + ((2 ^ (Int.toNat m.node) : Nat) : Int))))]]⟩, (sfq28 m), sfq54, some ⟨2, [[VI b.time, VI no]]⟩]⟩) (by kernel_rfl) ?_
  have e33 : IntKind.u64.wrap ((b.heard.n : Int) + ((2 ^ (Int.toNat m.node) : Nat) : Int)) = ((orU b.heard (Int.toNat m.node)).n : Int) := addU (by have hvn := vote_node (m := m) (by assumption); have hq9 := bid_ok (v := v) (b := b) (by assumption); have := qc_len hq9.1; first | omega | exact ⟨by omega, by assumption⟩)
  rw [e33]
  refine DW.last 0 [1, 4, 6, 7, 8, 12] (x' := ⟨(12, .ref 4 2 0 0) :: (sfq93 no), (sfq110 v b m no)⟩) (by kernel_rfl) (by kernel_rfl) ?_
  refine EL.seq ?_
  refine EL.sreg ?_
  refine OW.last 3 [1, 4, 6, 7, 8, 12, 94] (x' := ⟨(94, .v (.bool (b.phase == 1))) :: (12, .ref 4 2 0 0) :: (sfq93 no), (sfq110 v b m no)⟩) (by kernel_rfl) (by kernel_rfl) ?_
  rw [h5]
  refine EL.condF (by kernel_rfl) ?_
  refine EL.skip ?_
  refine thenL_norm ?_
  refine EL.seq ?_
  refine EL.sdraw ?_
  refine DW.run 4 (x' := ⟨(sfq157 b m v no), (sfq110 v b m no)⟩) (by kernel_rfl) ?_
  refine DW.fn (ar := [.lst 1 (v.weights.map cI), .v (.int .u64 ((orU b.heard (Int.toNat m.node)).n : Int))]) (x' := ⟨(sfq158 v b m no), (sfq110 v b m no)⟩) (by kernel_rfl) (by kernel_rfl) F42_call (sumof_fn v.weights (orU b.heard (Int.toNat m.node)) (qc_nodes (bid_ok (v := v) (b := b) (by assumption)).1)) (by kernel_rfl) (by kernel_rfl) ?_
  refine DW.last 3 [1, 4, 6, 8, 12, 112] (x' := ⟨(112, .v (.bool (decide ((bsum v.weights (orU b.heard (Int.toNat m.node)).n) < v.need)))) :: (sfq122 no), (sfq110 v b m no)⟩) (by kernel_rfl) (by kernel_rfl) ?_
  rcases Bool.eq_false_or_eq_true (decide ((bsum v.weights (orU b.heard (Int.toNat m.node)).n) < v.need)) with h34 | h34
  rw [h34]
  have g34 : ((bsum v.weights (orU b.heard (Int.toNat m.node)).n) < v.need) := of_decide_eq_true h34
  refine EL.condT (by kernel_rfl) ?_
  refine EL.sreg ?_
  refine OW.last 4 [8, 9, 10] (x' := ⟨[(10, VI 0), (9, .emp), (8, .ref 3 8 0 0)], (sfq159 v b m no)⟩) (by kernel_rfl) (by kernel_rfl) ?_
  refine EL.ret ?_
  refine thenL_ret ?_
  refine ⟨.inr rfl, .tup [.agg [VI b.time, VI b.phase, .v (.string b.own), .v (.string b.value), VI b.best.at_.time, VI b.best.at_.who, .v (.string b.best.data), .v (.int .u64 ((orU b.heard (Int.toNat m.node)).n : Int))], .emp, VI 0], by kernel_rfl, Ale.trans (b := .tup [.agg [VI b.time, VI b.phase, .v (.string b.own), .v (.string b.value), VI b.best.at_.time, VI b.best.at_.who, .v (.string b.best.data), .v (.int .u64 ((orU b.heard (Int.toNat m.node)).n : Int))], .lst 6 [], VI 0]) (Ale.tup (.cons (Ale.refl) (.cons (Ale.emp) (.cons (Ale.refl) (.nil))))) (Ale.of_eq ?_)⟩
  focus (first | (exfalso; omega) | ((try have hmt := merged_two (bid_ok (v := v) (b := b) (by assumption)).2.1 (vote_copy (m := m) (by assumption))); (try simp only [hmt] at *); rw [hear_yes (by omega) (by assumption) (by assumption) (by omega) (by first | (simp [fitsP, *]; done) | (simp_all [fitsP]; done)) (by omega) (by assumption)]; first | (rw [if_pos (by assumption)]; first | rfl | (simp [heardP, *]; done)) | (rw [if_neg (by assumption)]; first | (simp [heardP, onP, *]; done) | (simp_all [heardP, onP]; done) | (simp only [heardP, onP]))) | (rw [hear_no (by omega) (by assumption) (by assumption) (by first | (simp [fitsP, *]; done) | (simp_all [fitsP]; done) | omega)]; rfl) | (simp only [hearP]; (repeat' split) <;> first | rfl | (exfalso; omega) | contradiction | (simp_all [Bid.zero]; done)))
  rw [h34]
  have g34 : ¬ ((bsum v.weights (orU b.heard (Int.toNat m.node)).n) < v.need) := of_decide_eq_false h34
  refine EL.condF (by kernel_rfl) ?_
  refine EL.skip ?_
  refine thenL_norm ?_
  refine EL.seq ?_
  refine EL.sreg ?_
  refine OW.last 3 [1, 4, 6, 8, 12, 116] (x' := ⟨(116, .v (.bool (b.phase == 2))) :: (sfq122 no), (sfq110 v b m no)⟩) (by kernel_rfl) (by kernel_rfl) ?_
  rw [h26]
  refine EL.condT (by kernel_rfl) ?_
  refine EL.sreg ?_
  refine OW.last 2 [6, 8] (x' := ⟨[(8, .ref 3 8 0 0), (6, .ref 1 8 0 0)], (sfq161 v b m no)⟩) (by kernel_rfl) (by kernel_rfl) ?_
  refine EL.sreg ?_
  refine OW.last 4 [8, 9, 10] (x' := ⟨[(10, VI 0), (9, .emp), (8, .ref 3 8 0 0)], (sfq162 v b m no)⟩) (by kernel_rfl) (by kernel_rfl) ?_
  refine EL.ret ?_
  refine thenL_ret ?_
  refine ⟨.inr rfl, .tup [.agg [VI b.time, VI 3, .v (.string b.own), .v (.string b.value), VI b.best.at_.time, VI b.best.at_.who, .v (.string b.best.data), .v (.int .u64 ((orU b.heard (Int.toNat m.node)).n : Int))], .emp, VI 0], by kernel_rfl, Ale.trans (b := .tup [.agg [VI b.time, VI 3, .v (.string b.own), .v (.string b.value), VI b.best.at_.time, VI b.best.at_.who, .v (.string b.best.data), .v (.int .u64 ((orU b.heard (Int.toNat m.node)).n : Int))], .lst 6 [], VI 0]) (Ale.tup (.cons (Ale.refl) (.cons (Ale.emp) (.cons (Ale.refl) (.nil))))) (Ale.of_eq ?_)⟩
  focus (first | (exfalso; omega) | ((try have hmt := merged_two (bid_ok (v := v) (b := b) (by assumption)).2.1 (vote_copy (m := m) (by assumption))); (try simp only [hmt] at *); rw [hear_yes (by omega) (by assumption) (by assumption) (by omega) (by first | (simp [fitsP, *]; done) | (simp_all [fitsP]; done)) (by omega) (by assumption)]; first | (rw [if_pos (by assumption)]; first | rfl | (simp [heardP, *]; done)) | (rw [if_neg (by assumption)]; first | (simp [heardP, onP, *]; done) | (simp_all [heardP, onP]; done) | (simp only [heardP, onP]))) | (rw [hear_no (by omega) (by assumption) (by assumption) (by first | (simp [fitsP, *]; done) | (simp_all [fitsP]; done) | omega)]; rfl) | (simp only [hearP]; (repeat' split) <;> first | rfl | (exfalso; omega) | contradiction | (simp_all [Bid.zero]; done)))
  rw [h29]
  have g29 : ¬ (m.copy.at_.time = b.time ∧ m.copy.at_.who = no) := fun ⟨q0, q1⟩ => Bool.noConfusion ((show (((m.copy.at_.time == b.time) && ((m.copy.at_.who == no) && true))) = true by first | (simp [q0, q1, strEq_iff]; done) | (simp only [q0, q1, beq_self_eq_true, Bool.and_self, Bool.and_true, Bool.true_and]; done)).symm.trans h29)
  refine OW.last 14 [1, 4, 6, 7, 8, 12, 83] (x' := ⟨(83, .v (.bool true)) :: (12, .ref 4 2 0 0) :: (sfq93 no), (sfq100 v b m no)⟩) (by kernel_rfl) (by kernel_rfl) ?_
  refine EL.condT (by kernel_rfl) ?_
  refine EL.sreg ?_
  refine OW.last 4 [8, 9, 10] (x' := ⟨[(10, VI 0), (9, .emp), (8, .ref 3 8 0 0)], (sfq104 v b m no)⟩) (by kernel_rfl) (by kernel_rfl) ?_
  refine EL.ret ?_
  refine thenL_ret ?_
  refine ⟨.inr rfl, .tup [.agg [VI b.time, VI b.phase, .v (.string b.own), .v (.string b.value), VI b.best.at_.time, VI b.best.at_.who, .v (.string b.best.data), .v (.int .u64 (b.heard.n : Int))], .emp, VI 0], by kernel_rfl, Ale.trans (b := .tup [.agg [VI b.time, VI b.phase, .v (.string b.own), .v (.string b.value), VI b.best.at_.time, VI b.best.at_.who, .v (.string b.best.data), .v (.int .u64 (b.heard.n : Int))], .lst 6 [], VI 0]) (Ale.tup (.cons (Ale.refl) (.cons (Ale.emp) (.cons (Ale.refl) (.nil))))) (Ale.of_eq ?_)⟩
  focus (first | (exfalso; omega) | ((try have hmt := merged_two (bid_ok (v := v) (b := b) (by assumption)).2.1 (vote_copy (m := m) (by assumption))); (try simp only [hmt] at *); rw [hear_yes (by omega) (by assumption) (by assumption) (by omega) (by first | (simp [fitsP, *]; done) | (simp_all [fitsP]; done)) (by omega) (by assumption)]; first | (rw [if_pos (by assumption)]; first | rfl | (simp [heardP, *]; done)) | (rw [if_neg (by assumption)]; first | (simp [heardP, onP, *]; done) | (simp_all [heardP, onP]; done) | (simp only [heardP, onP]))) | (rw [hear_no (by omega) (by assumption) (by assumption) (by first | (simp [fitsP, *]; done) | (simp_all [fitsP]; done) | omega)]; rfl) | (simp only [hearP]; (repeat' split) <;> first | rfl | (exfalso; omega) | contradiction | (simp_all [Bid.zero]; done)))
  rw [h27]
  have g27 : ¬ (m.kind = 4) := by simpa using h27
  refine OW.last 8 [1, 4, 6, 7, 8, 12, 13] (x' := ⟨(sfq153 no), (sfq100 v b m no)⟩) (by kernel_rfl) (by kernel_rfl) ?_
  refine EL.seq ?_
  refine EL.sreg ?_
  refine OW.run 5 (x' := ⟨(65, .v (.bool (m.bid != no))) :: (64, .v (.bool (m.bid != no))) :: (sfq154 no m), (sfq100 v b m no)⟩) (by kernel_rfl) ?_
  rcases Bool.eq_false_or_eq_true ((m.bid != no)) with h35 | h35
  rw [h35]
  have g35 : ¬ (m.bid = no) := by simpa using h35
  refine OW.last 18 [1, 4, 6, 7, 8, 12, 83] (x' := ⟨(83, .v (.bool true)) :: (12, .ref 4 2 0 0) :: (sfq93 no), (sfq100 v b m no)⟩) (by kernel_rfl) (by kernel_rfl) ?_
  refine EL.condT (by kernel_rfl) ?_
  refine EL.sreg ?_
  refine OW.last 4 [8, 9, 10] (x' := ⟨[(10, VI 0), (9, .emp), (8, .ref 3 8 0 0)], (sfq104 v b m no)⟩) (by kernel_rfl) (by kernel_rfl) ?_
  refine EL.ret ?_
  refine thenL_ret ?_
  refine ⟨.inr rfl, .tup [.agg [VI b.time, VI b.phase, .v (.string b.own), .v (.string b.value), VI b.best.at_.time, VI b.best.at_.who, .v (.string b.best.data), .v (.int .u64 (b.heard.n : Int))], .emp, VI 0], by kernel_rfl, Ale.trans (b := .tup [.agg [VI b.time, VI b.phase, .v (.string b.own), .v (.string b.value), VI b.best.at_.time, VI b.best.at_.who, .v (.string b.best.data), .v (.int .u64 (b.heard.n : Int))], .lst 6 [], VI 0]) (Ale.tup (.cons (Ale.refl) (.cons (Ale.emp) (.cons (Ale.refl) (.nil))))) (Ale.of_eq ?_)⟩
  focus (first | (exfalso; omega) | ((try have hmt := merged_two (bid_ok (v := v) (b := b) (by assumption)).2.1 (vote_copy (m := m) (by assumption))); (try simp only [hmt] at *); rw [hear_yes (by omega) (by assumption) (by assumption) (by omega) (by first | (simp [fitsP, *]; done) | (simp_all [fitsP]; done)) (by omega) (by assumption)]; first | (rw [if_pos (by assumption)]; first | rfl | (simp [heardP, *]; done)) | (rw [if_neg (by assumption)]; first | (simp [heardP, onP, *]; done) | (simp_all [heardP, onP]; done) | (simp only [heardP, onP]))) | (rw [hear_no (by omega) (by assumption) (by assumption) (by first | (simp [fitsP, *]; done) | (simp_all [fitsP]; done) | omega)]; rfl) | (simp only [hearP]; (repeat' split) <;> first | rfl | (exfalso; omega) | contradiction | (simp_all [Bid.zero]; done)))
  rw [h35]
  have g35 : (m.bid = no) := by simpa using h35
  refine OW.last 18 [1, 4, 6, 7, 8, 12, 83] (x' := ⟨(83, .v (.bool true)) :: (12, .ref 4 2 0 0) :: (sfq93 no), (sfq100 v b m no)⟩) (by kernel_rfl) (by kernel_rfl) ?_
  refine EL.condT (by kernel_rfl) ?_
  refine EL.sreg ?_
  refine OW.last 4 [8, 9, 10] (x' := ⟨[(10, VI 0), (9, .emp), (8, .ref 3 8 0 0)], (sfq104 v b m no)⟩) (by kernel_rfl) (by kernel_rfl) ?_
  refine EL.ret ?_
  refine thenL_ret ?_
  refine ⟨.inr rfl, .tup [.agg [VI b.time, VI b.phase, .v (.string b.own), .v (.string b.value), VI b.best.at_.time, VI b.best.at_.who, .v (.string b.best.data), .v (.int .u64 (b.heard.n : Int))], .emp, VI 0], by kernel_rfl, Ale.trans (b := .tup [.agg [VI b.time, VI b.phase, .v (.string b.own), .v (.string b.value), VI b.best.at_.time, VI b.best.at_.who, .v (.string b.best.data), .v (.int .u64 (b.heard.n : Int))], .lst 6 [], VI 0]) (Ale.tup (.cons (Ale.refl) (.cons (Ale.emp) (.cons (Ale.refl) (.nil))))) (Ale.of_eq ?_)⟩
  focus (first | (exfalso; omega) | ((try have hmt := merged_two (bid_ok (v := v) (b := b) (by assumption)).2.1 (vote_copy (m := m) (by assumption))); (try simp only [hmt] at *); rw [hear_yes (by omega) (by assumption) (by assumption) (by omega) (by first | (simp [fitsP, *]; done) | (simp_all [fitsP]; done)) (by omega) (by assumption)]; first | (rw [if_pos (by assumption)]; first | rfl | (simp [heardP, *]; done)) | (rw [if_neg (by assumption)]; first | (simp [heardP, onP, *]; done) | (simp_all [heardP, onP]; done) | (simp only [heardP, onP]))) | (rw [hear_no (by omega) (by assumption) (by assumption) (by first | (simp [fitsP, *]; done) | (simp_all [fitsP]; done) | omega)]; rfl) | (simp only [hearP]; (repeat' split) <;> first | rfl | (exfalso; omega) | contradiction | (simp_all [Bid.zero]; done)))
  rw [h26]
  have g26 : ¬ (b.phase = 2) := by simpa using h26
  refine OW.last 13 [1, 4, 6, 7, 8, 12, 13] (x' := ⟨(sfq153 no), (sfq100 v b m no)⟩) (by kernel_rfl) (by kernel_rfl) ?_
  refine EL.seq ?_
  refine EL.sreg ?_
  refine OW.run 5 (x' := ⟨(65, .v (.bool (m.bid != no))) :: (64, .v (.bool (m.bid != no))) :: (sfq154 no m), (sfq100 v b m no)⟩) (by kernel_rfl) ?_
  rcases Bool.eq_false_or_eq_true ((m.bid != no)) with h36 | h36
  rw [h36]
  have g36 : ¬ (m.bid = no) := by simpa using h36
  refine OW.last 18 [1, 4, 6, 7, 8, 12, 83] (x' := ⟨(83, .v (.bool true)) :: (12, .ref 4 2 0 0) :: (sfq93 no), (sfq100 v b m no)⟩) (by kernel_rfl) (by kernel_rfl) ?_
  refine EL.condT (by kernel_rfl) ?_
  refine EL.sreg ?_
  refine OW.last 4 [8, 9, 10] (x' := ⟨[(10, VI 0), (9, .emp), (8, .ref 3 8 0 0)], (sfq104 v b m no)⟩) (by kernel_rfl) (by kernel_rfl) ?_
  refine EL.ret ?_
  refine thenL_ret ?_
  refine ⟨.inr rfl, .tup [.agg [VI b.time, VI b.phase, .v (.string b.own), .v (.string b.value), VI b.best.at_.time, VI b.best.at_.who, .v (.string b.best.data), .v (.int .u64 (b.heard.n : Int))], .emp, VI 0], by kernel_rfl, Ale.trans (b := .tup [.agg [VI b.time, VI b.phase, .v (.string b.own), .v (.string b.value), VI b.best.at_.time, VI b.best.at_.who, .v (.string b.best.data), .v (.int .u64 (b.heard.n : Int))], .lst 6 [], VI 0]) (Ale.tup (.cons (Ale.refl) (.cons (Ale.emp) (.cons (Ale.refl) (.nil))))) (Ale.of_eq ?_)⟩
  focus (first | (exfalso; omega) | ((try have hmt := merged_two (bid_ok (v := v) (b := b) (by assumption)).2.1 (vote_copy (m := m) (by assumption))); (try simp only [hmt] at *); rw [hear_yes (by omega) (by assumption) (by assumption) (by omega) (by first | (simp [fitsP, *]; done) | (simp_all [fitsP]; done)) (by omega) (by assumption)]; first | (rw [if_pos (by assumption)]; first | rfl | (simp [heardP, *]; done)) | (rw [if_neg (by assumption)]; first | (simp [heardP, onP, *]; done) | (simp_all [heardP, onP]; done) | (simp only [heardP, onP]))) | (rw [hear_no (by omega) (by assumption) (by assumption) (by first | (simp [fitsP, *]; done) | (simp_all [fitsP]; done) | omega)]; rfl) | (simp only [hearP]; (repeat' split) <;> first | rfl | (exfalso; omega) | contradiction | (simp_all [Bid.zero]; done)))
  rw [h36]
  have g36 : (m.bid = no) := by simpa using h36
  refine OW.last 18 [1, 4, 6, 7, 8, 12, 83] (x' := ⟨(83, .v (.bool true)) :: (12, .ref 4 2 0 0) :: (sfq93 no), (sfq100 v b m no)⟩) (by kernel_rfl) (by kernel_rfl) ?_
  refine EL.condT (by kernel_rfl) ?_
  refine EL.sreg ?_
  refine OW.last 4 [8, 9, 10] (x' := ⟨[(10, VI 0), (9, .emp), (8, .ref 3 8 0 0)], (sfq104 v b m no)⟩) (by kernel_rfl) (by kernel_rfl) ?_
  refine EL.ret ?_
  refine thenL_ret ?_
  refine ⟨.inr rfl, .tup [.agg [VI b.time, VI b.phase, .v (.string b.own), .v (.string b.value), VI b.best.at_.time, VI b.best.at_.who, .v (.string b.best.data), .v (.int .u64 (b.heard.n : Int))], .emp, VI 0], by kernel_rfl, Ale.trans (b := .tup [.agg [VI b.time, VI b.phase, .v (.string b.own), .v (.string b.value), VI b.best.at_.time, VI b.best.at_.who, .v (.string b.best.data), .v (.int .u64 (b.heard.n : Int))], .lst 6 [], VI 0]) (Ale.tup (.cons (Ale.refl) (.cons (Ale.emp) (.cons (Ale.refl) (.nil))))) (Ale.of_eq ?_)⟩
  focus (first | (exfalso; omega) | ((try have hmt := merged_two (bid_ok (v := v) (b := b) (by assumption)).2.1 (vote_copy (m := m) (by assumption))); (try simp only [hmt] at *); rw [hear_yes (by omega) (by assumption) (by assumption) (by omega) (by first | (simp [fitsP, *]; done) | (simp_all [fitsP]; done)) (by omega) (by assumption)]; first | (rw [if_pos (by assumption)]; first | rfl | (simp [heardP, *]; done)) | (rw [if_neg (by assumption)]; first | (simp [heardP, onP, *]; done) | (simp_all [heardP, onP]; done) | (simp only [heardP, onP]))) | (rw [hear_no (by omega) (by assumption) (by assumption) (by first | (simp [fitsP, *]; done) | (simp_all [fitsP]; done) | omega)]; rfl) | (simp only [hearP]; (repeat' split) <;> first | rfl | (exfalso; omega) | contradiction | (simp_all [Bid.zero]; done)))
  rw [h3]
  have g3 : ¬ ((b.checkE v.weights v.need) = 0) := by simpa using h3
  refine EL.condF (by kernel_rfl) ?_
  refine EL.skip ?_
  refine thenL_norm ?_
  refine EL.seq ?_
  refine EL.sreg ?_
  refine OW.last 2 [1, 4, 6, 7, 8, 11, 29] (x' := ⟨(29, .v (.bool ((b.checkE v.weights v.need) != 0))) :: (11, VI (b.checkE v.weights v.need)) :: (sfq93 no), (sfq92 v b m)⟩) (by kernel_rfl) (by kernel_rfl) ?_
  have h37 : ((b.checkE v.weights v.need) != 0) = true := (by show (!((b.checkE v.weights v.need) == 0)) = _; rw [h3]; rfl)
  rw [h37]
  refine EL.condT (by kernel_rfl) ?_
  refine EL.sreg ?_
  refine OW.last 5 [8, 9, 10] (x' := ⟨(sfq163 b v), (sfq92 v b m)⟩) (by kernel_rfl) (by kernel_rfl) ?_
  refine EL.ret ?_
  refine thenL_ret ?_
  refine ⟨.inr rfl, .tup [.agg [VI 0, VI 0, .v (.string (⟨#[]⟩)), .v (.string (⟨#[]⟩)), VI 0, VI 0, .v (.string (⟨#[]⟩)), .v (.int .u64 0)], .emp, VI (b.checkE v.weights v.need)], by kernel_rfl, Ale.trans (b := .tup [.agg [VI 0, VI 0, .v (.string (⟨#[]⟩)), .v (.string (⟨#[]⟩)), VI 0, VI 0, .v (.string (⟨#[]⟩)), .v (.int .u64 0)], .lst 6 [], VI (b.checkE v.weights v.need)]) (Ale.tup (.cons (Ale.refl) (.cons (Ale.emp) (.cons (Ale.refl) (.nil))))) (Ale.of_eq ?_)⟩
  focus (first | (exfalso; omega) | ((try have hmt := merged_two (bid_ok (v := v) (b := b) (by assumption)).2.1 (vote_copy (m := m) (by assumption))); (try simp only [hmt] at *); rw [hear_yes (by omega) (by assumption) (by assumption) (by omega) (by first | (simp [fitsP, *]; done) | (simp_all [fitsP]; done)) (by omega) (by assumption)]; first | (rw [if_pos (by assumption)]; first | rfl | (simp [heardP, *]; done)) | (rw [if_neg (by assumption)]; first | (simp [heardP, onP, *]; done) | (simp_all [heardP, onP]; done) | (simp only [heardP, onP]))) | (rw [hear_no (by omega) (by assumption) (by assumption) (by first | (simp [fitsP, *]; done) | (simp_all [fitsP]; done) | omega)]; rfl) | (simp only [hearP]; (repeat' split) <;> first | rfl | (exfalso; omega) | contradiction | (simp_all [Bid.zero]; done)))
end Go.Proofs.YtejilglnpdjepaaDoor
