/- A set and the others are never both enough; together they weigh all: the law QuorumDual returns true. No condition. -/
import Derived.Test.YtfgjfghljhldfaaDoorPQuorL
import Derived.Test.YtfgjfghljhldfaaDoorPQuorC
import Derived.WalkKit
import Derived.Handy
import Derived.ProofKit
import Derived.OpenShut
import Derived.ShutString
import Derived.ChangeOld
import Derived.Below
import Derived.Lib.Hide
import Derived.WalkLawsBesides
import Derived.WalkSpells
import Derived.Deep.QuietTactic
import Derived.BigQuiet
import Derived.Outline
import Derived.SevenTiedAt
namespace Go.Proofs.YtfgjfghljhldfaaDoor
set_option linter.unusedSimpArgs false
set_option linter.unusedVariables false
open Go.ChangeShapes Go.WideShapes Go.ChangeAt Go.RowKit
open Go.ChangeMaps (open_string shut_string)
set_option maxRecDepth 100000
set_option maxHeartbeats 4000000
abbrev qdq0 (weights : List Int) (need : Int) (set : U64) : LS := [(0, .lst 1 (weights.map cI)), (1, VI need), (2, .v (.int .u64 (set.n : Int)))]
abbrev qdq1 (set : U64) (need : Int) (weights : List Int) : LS := (21, .v (.int .u64 (set.n : Int))) :: (20, VI need) :: (19, .lst 1 (weights.map cI)) :: (qdq0 weights need set)
abbrev qdq2 (weights : List Int) (need : Int) (set : U64) (a : Int) (k : Nat) : LS := [(11, VI ((enoughP weights need (uDiff (uMsk (Int.toNat (List.length weights : Int))) set).n).2)), (12, VI ((sumP weights set.n).1)), (13, VI ((sumP weights set.n).2)), (14, VI ((sumP weights (uDiff (uMsk (Int.toNat (List.length weights : Int))) set).n).1)), (15, VI ((sumP weights (uDiff (uMsk (Int.toNat (List.length weights : Int))) set).n).2)), (16, VI a), (17, VI (k : Int))]
abbrev qdq3 (weights : List Int) (need : Int) (set : U64) (k : Nat) : LS := [(11, VI ((enoughP weights need (uDiff (uMsk (Int.toNat (List.length weights : Int))) set).n).2)), (12, VI ((sumP weights set.n).1)), (13, VI ((sumP weights set.n).2)), (14, VI ((sumP weights (uDiff (uMsk (Int.toNat (List.length weights : Int))) set).n).1)), (15, VI ((sumP weights (uDiff (uMsk (Int.toNat (List.length weights : Int))) set).n).2)), (17, VI (k : Int))]
abbrev qdq4 (weights : List Int) (need : Int) (set : U64) : LS := [(11, VI ((enoughP weights need (uDiff (uMsk (Int.toNat (List.length weights : Int))) set).n).2)), (12, VI ((sumP weights set.n).1)), (13, VI ((sumP weights set.n).2)), (14, VI ((sumP weights (uDiff (uMsk (Int.toNat (List.length weights : Int))) set).n).1)), (15, VI ((sumP weights (uDiff (uMsk (Int.toNat (List.length weights : Int))) set).n).2))]
abbrev qdq5 (weights : List Int) (set : U64) (need : Int) (a : Int) (k : Nat) : LS := (87, VI ((sumP weights (uDiff (uMsk (Int.toNat (List.length weights : Int))) set).n).1)) :: (86, VI ((sumP weights set.n).1)) :: (85, .v (.bool true)) :: (84, .v (.bool true)) :: (83, .v (.bool true)) :: (82, .v (.bool false)) :: (81, .v (.bool false)) :: (80, .v (.bool true)) :: (79, .v (.bool true)) :: (78, .v (.bool true)) :: (77, .v (.bool true)) :: (76, .v (.bool true)) :: (75, VI ((sumP weights (uDiff (uMsk (Int.toNat (List.length weights : Int))) set).n).2)) :: (74, .v (.bool true)) :: (73, .v (.bool true)) :: (72, .v (.bool true)) :: (71, VI ((sumP weights set.n).2)) :: (70, .v (.bool true)) :: (69, .v (.bool true)) :: (68, VI ((enoughP weights need (uDiff (uMsk (Int.toNat (List.length weights : Int))) set).n).2)) :: (59, .v (.bool false)) :: (0, .lst 1 (weights.map cI)) :: (7, .v (.bool true)) :: (10, .v (.bool false)) :: (qdq2 weights need set a k)
theorem quorumDual_fn (weights : List Int) (need : Int) (set : U64) (hx : weights.length ≤ 9223372036854775807) : Fn Tryd.prog 8 [.lst 1 (weights.map cI), VI need, .v (.int .u64 (set.n : Int))] (.v (.bool true)) := by
  refine fn_walkW F8_ok (of_decide_eq_true (by kernel_rfl)) ?_
  refine EL.sreg ?_
  refine OW.last 1 [0, 1, 2] (x' := ⟨(qdq0 weights need set), []⟩) (by kernel_rfl) (by kernel_rfl) ?_
  refine EL.sreg ?_
  refine OW.run 3 (x' := ⟨(qdq1 set need weights), []⟩) (by kernel_rfl) ?_
  refine OW.fn (ar := [.lst 1 (weights.map cI), VI need, .v (.int .u64 (set.n : Int))]) (x' := ⟨(22, .tup [.v (.bool ((enoughP weights need set.n).1)), VI ((enoughP weights need set.n).2)]) :: (qdq1 set need weights), []⟩) (by kernel_rfl) (by kernel_rfl) F10_call (enough_fn weights need set hx) (by kernel_rfl) (by kernel_rfl) ?_
  refine OW.last 5 [0, 1, 2, 7, 8] (x' := ⟨(8, VI ((enoughP weights need set.n).2)) :: (7, .v (.bool ((enoughP weights need set.n).1))) :: (qdq0 weights need set), []⟩) (by kernel_rfl) (by kernel_rfl) ?_
  refine EL.seq ?_
  refine EL.sreg ?_
  refine OW.fn (ar := []) (x' := ⟨(25, .v (.bool true)) :: (8, VI ((enoughP weights need set.n).2)) :: (7, .v (.bool ((enoughP weights need set.n).1))) :: (qdq0 weights need set), []⟩) (by kernel_rfl) (by kernel_rfl) F17_call (qbegun_fn) (by kernel_rfl) (by kernel_rfl) ?_
  refine OW.last 1 [0, 1, 2, 7, 8, 26] (x' := ⟨(26, .v (.bool false)) :: (8, VI ((enoughP weights need set.n).2)) :: (7, .v (.bool ((enoughP weights need set.n).1))) :: (qdq0 weights need set), []⟩) (by kernel_rfl) (by kernel_rfl) ?_
  refine EL.condF (by kernel_rfl) ?_
  refine EL.skip ?_
  refine thenL_norm ?_
  refine EL.seq ?_
  refine EL.sreg ?_
  refine OW.last 2 [0, 1, 2, 7, 28] (x' := ⟨(28, .v (.bool (((enoughP weights need set.n).2) != 0))) :: (7, .v (.bool ((enoughP weights need set.n).1))) :: (qdq0 weights need set), []⟩) (by kernel_rfl) (by kernel_rfl) ?_
  rcases Bool.eq_false_or_eq_true ((((enoughP weights need set.n).2) != 0)) with h1 | h1
  rw [h1]
  have g1 : ¬ (((enoughP weights need set.n).2) = 0) := by simpa using h1
  refine EL.condT (by kernel_rfl) ?_
  refine EL.sreg ?_
  refine OW.last 3 [6] (x' := ⟨[(6, .v (.bool (!((enoughP weights need set.n).1))))], []⟩) (by kernel_rfl) (by kernel_rfl) ?_
  refine EL.ret ?_
  refine thenL_ret ?_
  refine ⟨.inr rfl, .v (.bool (!((enoughP weights need set.n).1))), by kernel_rfl, Ale.of_eq ?_⟩
  focus ((refine congrArg (fun b => AV.v (Value.bool b)) ?_; first | rfl | (have h9 := dual_err (by assumption); simp [h9]; done) | (rw [List.drop_eq_nil_of_le (by omega)] at hs; simp only [lsum] at hs; obtain ⟨e1, e2, e3, e4, e5⟩ := dual_law (ws := weights) (need := need) (set := set) (by assumption); first | (exfalso; omega) | (exfalso; exact e4 ⟨by assumption, by assumption⟩) | (simp; omega) | (exfalso; simp_all; done) | (simp_all; done))))
  rw [h1]
  have g1 : (((enoughP weights need set.n).2) = 0) := by simpa using h1
  refine EL.condF (by kernel_rfl) ?_
  refine EL.skip ?_
  refine thenL_norm ?_
  refine EL.sreg ?_
  refine OW.run 1 (x' := ⟨(31, .lst 1 (weights.map cI)) :: (28, .v (.bool false)) :: (7, .v (.bool ((enoughP weights need set.n).1))) :: (qdq0 weights need set), []⟩) (by kernel_rfl) ?_
  refine OW.ope (v := VI (List.length weights : Int)) (u := []) (acc := []) (x' := ⟨(32, VI (List.length weights : Int)) :: (31, .lst 1 (weights.map cI)) :: (28, .v (.bool false)) :: (7, .v (.bool ((enoughP weights need set.n).1))) :: (qdq0 weights need set), []⟩) (by kernel_rfl) (opE_len cI weights (.s 31) 1 (by kernel_rfl) (by kernel_rfl) (.inl rfl)) (by kernel_rfl) ?_
  refine OW.ope (v := .v (.int .u64 (IntKind.u64.wrap (1 * 2 ^ (min (Int.toNat (List.length weights : Int)) IntKind.u64.bits))))) (u := []) (acc := []) (x' := ⟨(33, .v (.int .u64 (IntKind.u64.wrap (1 * 2 ^ (min (Int.toNat (List.length weights : Int)) IntKind.u64.bits))))) :: (32, VI (List.length weights : Int)) :: (31, .lst 1 (weights.map cI)) :: (28, .v (.bool false)) :: (7, .v (.bool ((enoughP weights need set.n).1))) :: (qdq0 weights need set), []⟩) (by kernel_rfl) (opE_shl (.c (.v (.int .u64 1))) (.s 32) .u64 .i64 1 (List.length weights : Int) (by kernel_rfl) (by kernel_rfl) (by kernel_rfl) (by kernel_rfl) (by have hq9 := (enough_ok (ws := weights) (need := need) (by assumption)).1; have hl9 := qc_len hq9; omega)) (by kernel_rfl) ?_
  have e2 : IntKind.u64.wrap (1 * 2 ^ (min (Int.toNat (List.length weights : Int)) IntKind.u64.bits)) = ((2 ^ (Int.toNat (List.length weights : Int)) : Nat) : Int) := shl1 (by have hq9 := (enough_ok (ws := weights) (need := need) (by assumption)).1; have hl9 := qc_len hq9; omega)
  rw [e2]
  refine OW.run 2 (x' := ⟨(35, .v (.int .u64 (set.n : Int))) :: (34, .v (.int .u64 (IntKind.u64.wrap (((2 ^ (Int.toNat (List.length weights : Int)) : Nat) : Int) - 1)))) :: (33, .v (.int .u64 ((2 ^ (Int.toNat (List.length weights : Int)) : Nat) : Int))) :: (32, VI (List.length weights : Int)) :: (31, .lst 1 (weights.map cI)) :: (28, .v (.bool false)) :: (7, .v (.bool ((enoughP weights need set.n).1))) :: (qdq0 weights need set), []⟩) (by kernel_rfl) ?_
  have e3 : IntKind.u64.wrap (((2 ^ (Int.toNat (List.length weights : Int)) : Nat) : Int) - 1) = ((uMsk (Int.toNat (List.length weights : Int))).n : Int) := uMsk_sub (by have hq9 := (enough_ok (ws := weights) (need := need) (by assumption)).1; have hl9 := qc_len hq9; omega)
  rw [e3]
  refine OW.run 2 (x' := ⟨(9, .v (.int .u64 (bits .andNot .u64 ((uMsk (Int.toNat (List.length weights : Int))).n : Int) (set.n : Int)))) :: (36, .v (.int .u64 (bits .andNot .u64 ((uMsk (Int.toNat (List.length weights : Int))).n : Int) (set.n : Int)))) :: (35, .v (.int .u64 (set.n : Int))) :: (34, .v (.int .u64 ((uMsk (Int.toNat (List.length weights : Int))).n : Int))) :: (33, .v (.int .u64 ((2 ^ (Int.toNat (List.length weights : Int)) : Nat) : Int))) :: (32, VI (List.length weights : Int)) :: (31, .lst 1 (weights.map cI)) :: (28, .v (.bool false)) :: (7, .v (.bool ((enoughP weights need set.n).1))) :: (qdq0 weights need set), []⟩) (by kernel_rfl) ?_
  have e4 : bits .andNot .u64 ((uMsk (Int.toNat (List.length weights : Int))).n : Int) (set.n : Int) = ((uDiff (uMsk (Int.toNat (List.length weights : Int))) set).n : Int) := uDiff_bits (by omega)
  rw [e4]
  clear e4
  refine OW.last 0 [0, 1, 2, 7, 9] (x' := ⟨(9, .v (.int .u64 ((uDiff (uMsk (Int.toNat (List.length weights : Int))) set).n : Int))) :: (7, .v (.bool ((enoughP weights need set.n).1))) :: (qdq0 weights need set), []⟩) (by kernel_rfl) (by kernel_rfl) ?_
  refine EL.sreg ?_
  refine OW.run 3 (x' := ⟨(40, .v (.int .u64 ((uDiff (uMsk (Int.toNat (List.length weights : Int))) set).n : Int))) :: (39, VI need) :: (38, .lst 1 (weights.map cI)) :: (9, .v (.int .u64 ((uDiff (uMsk (Int.toNat (List.length weights : Int))) set).n : Int))) :: (7, .v (.bool ((enoughP weights need set.n).1))) :: (qdq0 weights need set), []⟩) (by kernel_rfl) ?_
  refine OW.fn (ar := [.lst 1 (weights.map cI), VI need, .v (.int .u64 ((uDiff (uMsk (Int.toNat (List.length weights : Int))) set).n : Int))]) (x' := ⟨(41, .tup [.v (.bool ((enoughP weights need (uDiff (uMsk (Int.toNat (List.length weights : Int))) set).n).1)), VI ((enoughP weights need (uDiff (uMsk (Int.toNat (List.length weights : Int))) set).n).2)]) :: (40, .v (.int .u64 ((uDiff (uMsk (Int.toNat (List.length weights : Int))) set).n : Int))) :: (39, VI need) :: (38, .lst 1 (weights.map cI)) :: (9, .v (.int .u64 ((uDiff (uMsk (Int.toNat (List.length weights : Int))) set).n : Int))) :: (7, .v (.bool ((enoughP weights need set.n).1))) :: (qdq0 weights need set), []⟩) (by kernel_rfl) (by kernel_rfl) F10_call (enough_fn weights need (uDiff (uMsk (Int.toNat (List.length weights : Int))) set) hx) (by kernel_rfl) (by kernel_rfl) ?_
  refine OW.last 5 [0, 2, 7, 9, 10, 11] (x' := ⟨[(11, VI ((enoughP weights need (uDiff (uMsk (Int.toNat (List.length weights : Int))) set).n).2)), (10, .v (.bool ((enoughP weights need (uDiff (uMsk (Int.toNat (List.length weights : Int))) set).n).1))), (9, .v (.int .u64 ((uDiff (uMsk (Int.toNat (List.length weights : Int))) set).n : Int))), (7, .v (.bool ((enoughP weights need set.n).1))), (0, .lst 1 (weights.map cI)), (2, .v (.int .u64 (set.n : Int)))], []⟩) (by kernel_rfl) (by kernel_rfl) ?_
  refine EL.sreg ?_
  refine OW.run 2 (x' := ⟨[(46, .v (.int .u64 (set.n : Int))), (45, .lst 1 (weights.map cI)), (11, VI ((enoughP weights need (uDiff (uMsk (Int.toNat (List.length weights : Int))) set).n).2)), (10, .v (.bool ((enoughP weights need (uDiff (uMsk (Int.toNat (List.length weights : Int))) set).n).1))), (9, .v (.int .u64 ((uDiff (uMsk (Int.toNat (List.length weights : Int))) set).n : Int))), (7, .v (.bool ((enoughP weights need set.n).1))), (0, .lst 1 (weights.map cI)), (2, .v (.int .u64 (set.n : Int)))], []⟩) (by kernel_rfl) ?_
  refine OW.fn (ar := [.lst 1 (weights.map cI), .v (.int .u64 (set.n : Int))]) (x' := ⟨[(47, .tup [VI ((sumP weights set.n).1), VI ((sumP weights set.n).2)]), (46, .v (.int .u64 (set.n : Int))), (45, .lst 1 (weights.map cI)), (11, VI ((enoughP weights need (uDiff (uMsk (Int.toNat (List.length weights : Int))) set).n).2)), (10, .v (.bool ((enoughP weights need (uDiff (uMsk (Int.toNat (List.length weights : Int))) set).n).1))), (9, .v (.int .u64 ((uDiff (uMsk (Int.toNat (List.length weights : Int))) set).n : Int))), (7, .v (.bool ((enoughP weights need set.n).1))), (0, .lst 1 (weights.map cI)), (2, .v (.int .u64 (set.n : Int)))], []⟩) (by kernel_rfl) (by kernel_rfl) F9_call (sum_fn weights set hx) (by kernel_rfl) (by kernel_rfl) ?_
  refine OW.last 5 [0, 7, 9, 10, 11, 12, 13] (x' := ⟨[(13, VI ((sumP weights set.n).2)), (12, VI ((sumP weights set.n).1)), (11, VI ((enoughP weights need (uDiff (uMsk (Int.toNat (List.length weights : Int))) set).n).2)), (10, .v (.bool ((enoughP weights need (uDiff (uMsk (Int.toNat (List.length weights : Int))) set).n).1))), (9, .v (.int .u64 ((uDiff (uMsk (Int.toNat (List.length weights : Int))) set).n : Int))), (7, .v (.bool ((enoughP weights need set.n).1))), (0, .lst 1 (weights.map cI))], []⟩) (by kernel_rfl) (by kernel_rfl) ?_
  refine EL.sreg ?_
  refine OW.run 2 (x' := ⟨[(52, .v (.int .u64 ((uDiff (uMsk (Int.toNat (List.length weights : Int))) set).n : Int))), (51, .lst 1 (weights.map cI)), (13, VI ((sumP weights set.n).2)), (12, VI ((sumP weights set.n).1)), (11, VI ((enoughP weights need (uDiff (uMsk (Int.toNat (List.length weights : Int))) set).n).2)), (10, .v (.bool ((enoughP weights need (uDiff (uMsk (Int.toNat (List.length weights : Int))) set).n).1))), (9, .v (.int .u64 ((uDiff (uMsk (Int.toNat (List.length weights : Int))) set).n : Int))), (7, .v (.bool ((enoughP weights need set.n).1))), (0, .lst 1 (weights.map cI))], []⟩) (by kernel_rfl) ?_
  refine OW.fn (ar := [.lst 1 (weights.map cI), .v (.int .u64 ((uDiff (uMsk (Int.toNat (List.length weights : Int))) set).n : Int))]) (x' := ⟨[(53, .tup [VI ((sumP weights (uDiff (uMsk (Int.toNat (List.length weights : Int))) set).n).1), VI ((sumP weights (uDiff (uMsk (Int.toNat (List.length weights : Int))) set).n).2)]), (52, .v (.int .u64 ((uDiff (uMsk (Int.toNat (List.length weights : Int))) set).n : Int))), (51, .lst 1 (weights.map cI)), (13, VI ((sumP weights set.n).2)), (12, VI ((sumP weights set.n).1)), (11, VI ((enoughP weights need (uDiff (uMsk (Int.toNat (List.length weights : Int))) set).n).2)), (10, .v (.bool ((enoughP weights need (uDiff (uMsk (Int.toNat (List.length weights : Int))) set).n).1))), (9, .v (.int .u64 ((uDiff (uMsk (Int.toNat (List.length weights : Int))) set).n : Int))), (7, .v (.bool ((enoughP weights need set.n).1))), (0, .lst 1 (weights.map cI))], []⟩) (by kernel_rfl) (by kernel_rfl) F9_call (sum_fn weights (uDiff (uMsk (Int.toNat (List.length weights : Int))) set) hx) (by kernel_rfl) (by kernel_rfl) ?_
  refine OW.last 5 [0, 7, 10, 11, 12, 13, 14, 15] (x' := ⟨[(15, VI ((sumP weights (uDiff (uMsk (Int.toNat (List.length weights : Int))) set).n).2)), (14, VI ((sumP weights (uDiff (uMsk (Int.toNat (List.length weights : Int))) set).n).1)), (13, VI ((sumP weights set.n).2)), (12, VI ((sumP weights set.n).1)), (11, VI ((enoughP weights need (uDiff (uMsk (Int.toNat (List.length weights : Int))) set).n).2)), (10, .v (.bool ((enoughP weights need (uDiff (uMsk (Int.toNat (List.length weights : Int))) set).n).1))), (7, .v (.bool ((enoughP weights need set.n).1))), (0, .lst 1 (weights.map cI))], []⟩) (by kernel_rfl) (by kernel_rfl) ?_
  refine EL.sreg ?_
  refine OW.last 1 [0, 7, 10, 11, 12, 13, 14, 15, 16] (x' := ⟨[(16, VI 0), (15, VI ((sumP weights (uDiff (uMsk (Int.toNat (List.length weights : Int))) set).n).2)), (14, VI ((sumP weights (uDiff (uMsk (Int.toNat (List.length weights : Int))) set).n).1)), (13, VI ((sumP weights set.n).2)), (12, VI ((sumP weights set.n).1)), (11, VI ((enoughP weights need (uDiff (uMsk (Int.toNat (List.length weights : Int))) set).n).2)), (10, .v (.bool ((enoughP weights need (uDiff (uMsk (Int.toNat (List.length weights : Int))) set).n).1))), (7, .v (.bool ((enoughP weights need set.n).1))), (0, .lst 1 (weights.map cI))], []⟩) (by kernel_rfl) (by kernel_rfl) ?_
  refine EL.seq ?_
  refine EL.sreg ?_
  refine OW.last 1 [0, 7, 10, 11, 12, 13, 14, 15, 16, 17] (x' := ⟨[(17, VI 0), (16, VI 0), (15, VI ((sumP weights (uDiff (uMsk (Int.toNat (List.length weights : Int))) set).n).2)), (14, VI ((sumP weights (uDiff (uMsk (Int.toNat (List.length weights : Int))) set).n).1)), (13, VI ((sumP weights set.n).2)), (12, VI ((sumP weights set.n).1)), (11, VI ((enoughP weights need (uDiff (uMsk (Int.toNat (List.length weights : Int))) set).n).2)), (10, .v (.bool ((enoughP weights need (uDiff (uMsk (Int.toNat (List.length weights : Int))) set).n).1))), (7, .v (.bool ((enoughP weights need set.n).1))), (0, .lst 1 (weights.map cI))], []⟩) (by kernel_rfl) (by kernel_rfl) ?_
  refine EL.block ?_
  refine EL.loopN (fun mM xX => ∃ (k : Nat) (a : Int), mM = weights.length - k ∧ (k ≤ weights.length ∧ a + lsum (weights.drop k) = lsum weights ∧ 0 ≤ a) ∧ xX = ⟨(0, .lst 1 (weights.map cI)) :: (7, .v (.bool ((enoughP weights need set.n).1))) :: (10, .v (.bool ((enoughP weights need (uDiff (uMsk (Int.toNat (List.length weights : Int))) set).n).1))) :: (qdq2 weights need set a k), []⟩) (y := (fun (k : Nat) (a : Int) => (⟨(0, .lst 1 (weights.map cI)) :: (7, .v (.bool ((enoughP weights need set.n).1))) :: (10, .v (.bool ((enoughP weights need (uDiff (uMsk (Int.toNat (List.length weights : Int))) set).n).1))) :: (qdq2 weights need set a k), []⟩ : L3)) 0 0) [0, 7, 10, 11, 12, 13, 14, 15, 16, 17] [] [] (by kernel_rfl) trivial ⟨0, 0, rfl, by simp, rfl⟩ ?_
  rintro _ _ ⟨k, a, rfl, hI5, rfl⟩
  obtain ⟨hk, hs, ha⟩ := hI5
  have hwm : ∀ w, w ∈ weights → 0 ≤ w ∧ w ≤ 100 := (nodes_bd (qc_nodes (enough_ok (ws := weights) (need := need) (by assumption)).1)).2.2.2.2
  have hok := enough_ok (ws := weights) (need := need) (by assumption)
  have hbn := nodes_bd (qc_nodes hok.1)
  have hall := (qc_need hok.1).2.2.2
  have hdn := lsum_nonneg (l := weights.drop k) (fun w hw => (hbn.2.2.2.2 w (List.mem_of_mem_drop hw)).1)
  refine EL.seq ?_
  refine EL.sreg ?_
  refine OW.run 2 (x' := ⟨(57, .lst 1 (weights.map cI)) :: (56, VI (k : Int)) :: (0, .lst 1 (weights.map cI)) :: (7, .v (.bool ((enoughP weights need set.n).1))) :: (10, .v (.bool ((enoughP weights need (uDiff (uMsk (Int.toNat (List.length weights : Int))) set).n).1))) :: (qdq2 weights need set a k), []⟩) (by kernel_rfl) ?_
  refine OW.ope (v := VI (List.length weights : Int)) (u := []) (acc := []) (x' := ⟨(58, VI (List.length weights : Int)) :: (57, .lst 1 (weights.map cI)) :: (56, VI (k : Int)) :: (0, .lst 1 (weights.map cI)) :: (7, .v (.bool ((enoughP weights need set.n).1))) :: (10, .v (.bool ((enoughP weights need (uDiff (uMsk (Int.toNat (List.length weights : Int))) set).n).1))) :: (qdq2 weights need set a k), []⟩) (by kernel_rfl) (opE_len cI weights (.s 57) 1 (by kernel_rfl) (by kernel_rfl) (.inl rfl)) (by kernel_rfl) ?_
  refine OW.last 1 [0, 7, 10, 11, 12, 13, 14, 15, 16, 17, 59] (x' := ⟨(59, .v (.bool (decide ((k : Int) < (List.length weights : Int))))) :: (0, .lst 1 (weights.map cI)) :: (7, .v (.bool ((enoughP weights need set.n).1))) :: (10, .v (.bool ((enoughP weights need (uDiff (uMsk (Int.toNat (List.length weights : Int))) set).n).1))) :: (qdq2 weights need set a k), []⟩) (by kernel_rfl) (by kernel_rfl) ?_
  rcases Bool.eq_false_or_eq_true (decide ((k : Int) < (List.length weights : Int))) with h6 | h6
  rw [h6]
  have g6 : ((k : Int) < (List.length weights : Int)) := of_decide_eq_true h6
  have n6 : ((k) < (List.length weights)) := by omega
  refine EL.condT (by kernel_rfl) ?_
  refine EL.skip ?_
  refine thenL_norm ?_
  refine EL.seq ?_
  refine EL.block ?_
  refine EL.reg0 ?_
  refine OW.run 3 (x' := ⟨(64, VI (k : Int)) :: (63, .lst 1 (weights.map cI)) :: (62, VI a) :: (59, .v (.bool true)) :: (0, .lst 1 (weights.map cI)) :: (7, .v (.bool ((enoughP weights need set.n).1))) :: (10, .v (.bool ((enoughP weights need (uDiff (uMsk (Int.toNat (List.length weights : Int))) set).n).1))) :: (qdq2 weights need set a k), []⟩) (by kernel_rfl) ?_
  obtain ⟨a8, ha8⟩ : ∃ y, weights[((k : Int) : Int).toNat]? = some y := idx_ex ⟨by omega, by omega⟩
  have iha8 : weights[k]? = some a8 := by simpa using ha8
  have dha8 := drop_get iha8
  have ma8 := hwm _ (List.mem_of_getElem? ha8)
  refine OW.ope (v := .pim [VI a8] 0) (u := []) (acc := []) (x' := ⟨(65, .pim [VI a8] 0) :: (64, VI (k : Int)) :: (63, .lst 1 (weights.map cI)) :: (62, VI a) :: (59, .v (.bool true)) :: (0, .lst 1 (weights.map cI)) :: (7, .v (.bool ((enoughP weights need set.n).1))) :: (10, .v (.bool ((enoughP weights need (uDiff (uMsk (Int.toNat (List.length weights : Int))) set).n).1))) :: (qdq2 weights need set a k), []⟩) (by kernel_rfl) (opE_iad cI weights (.s 63) (.s 64) 1 .i64 (k : Int) a8 (by kernel_rfl) (by kernel_rfl) (.inl rfl) rfl (by omega) ha8) (by kernel_rfl) ?_
  refine OW.run 3 (x' := ⟨(16, VI (IntKind.i64.wrap (a + a8))) :: (67, VI (IntKind.i64.wrap (a + a8))) :: (66, VI a8) :: (65, .pim [VI a8] 0) :: (64, VI (k : Int)) :: (63, .lst 1 (weights.map cI)) :: (62, VI a) :: (59, .v (.bool true)) :: (0, .lst 1 (weights.map cI)) :: (7, .v (.bool ((enoughP weights need set.n).1))) :: (10, .v (.bool ((enoughP weights need (uDiff (uMsk (Int.toNat (List.length weights : Int))) set).n).1))) :: (qdq3 weights need set k), []⟩) (by kernel_rfl) ?_
  have e9 : IntKind.i64.wrap (a + a8) = a + a8 := wr64 (by omega)
  rw [e9]
  refine OW.end 0 (x' := ⟨(16, VI (a + a8)) :: (67, VI (a + a8)) :: (66, VI a8) :: (65, .pim [VI a8] 0) :: (64, VI (k : Int)) :: (63, .lst 1 (weights.map cI)) :: (62, VI a) :: (59, .v (.bool true)) :: (0, .lst 1 (weights.map cI)) :: (7, .v (.bool ((enoughP weights need set.n).1))) :: (10, .v (.bool ((enoughP weights need (uDiff (uMsk (Int.toNat (List.length weights : Int))) set).n).1))) :: (qdq3 weights need set k), []⟩) (by kernel_rfl) (by kernel_rfl) ?_
  refine inBlk_norm ?_
  refine thenL_norm ?_
  refine EL.reg0 ?_
  refine OW.run 3 (x' := ⟨(17, VI (IntKind.i64.wrap ((k : Int) + 1))) :: (61, VI (IntKind.i64.wrap ((k : Int) + 1))) :: (60, VI (k : Int)) :: (16, VI (a + a8)) :: (67, VI (a + a8)) :: (66, VI a8) :: (65, .pim [VI a8] 0) :: (64, VI (k : Int)) :: (63, .lst 1 (weights.map cI)) :: (62, VI a) :: (59, .v (.bool true)) :: (0, .lst 1 (weights.map cI)) :: (7, .v (.bool ((enoughP weights need set.n).1))) :: (10, .v (.bool ((enoughP weights need (uDiff (uMsk (Int.toNat (List.length weights : Int))) set).n).1))) :: (qdq4 weights need set), []⟩) (by kernel_rfl) ?_
  have e10 : IntKind.i64.wrap ((k : Int) + 1) = (k : Int) + 1 := wr64 (by omega)
  rw [e10]
  refine OW.end 0 (x' := ⟨(17, VI ((k : Int) + 1)) :: (61, VI ((k : Int) + 1)) :: (60, VI (k : Int)) :: (16, VI (a + a8)) :: (67, VI (a + a8)) :: (66, VI a8) :: (65, .pim [VI a8] 0) :: (64, VI (k : Int)) :: (63, .lst 1 (weights.map cI)) :: (62, VI a) :: (59, .v (.bool true)) :: (0, .lst 1 (weights.map cI)) :: (7, .v (.bool ((enoughP weights need set.n).1))) :: (10, .v (.bool ((enoughP weights need (uDiff (uMsk (Int.toNat (List.length weights : Int))) set).n).1))) :: (qdq4 weights need set), []⟩) (by kernel_rfl) (by kernel_rfl) ?_
  refine thenL_norm ?_
  refine round_end (live := [0, 7, 10, 11, 12, 13, 14, 15, 16, 17]) (src := []) (es := []) (y := (fun (k : Nat) (a : Int) => (⟨(0, .lst 1 (weights.map cI)) :: (7, .v (.bool ((enoughP weights need set.n).1))) :: (10, .v (.bool ((enoughP weights need (uDiff (uMsk (Int.toNat (List.length weights : Int))) set).n).1))) :: (qdq2 weights need set a k), []⟩ : L3)) (k + 1) (a + a8)) ?_ trivial ?_ ⟨(k + 1), (a + a8), rfl, ?_, rfl⟩
  kernel_rfl
  omega
  focus ((rw [‹weights.drop k = _›, lsum] at hs; exact ⟨by omega, by omega, by omega⟩))
  rw [h6]
  have g6 : ¬ ((k : Int) < (List.length weights : Int)) := of_decide_eq_false h6
  have n6 : ¬ ((k) < (List.length weights)) := by omega
  refine EL.condF (by kernel_rfl) ?_
  refine EL.exit ?_
  refine thenL_exit ?_
  refine thenL_exit ?_
  refine inBlk_hit ?_
  refine thenL_norm ?_
  refine EL.sreg ?_
  refine OW.run 3 (x' := ⟨(70, .v (.bool (((enoughP weights need (uDiff (uMsk (Int.toNat (List.length weights : Int))) set).n).2) == 0))) :: (69, .v (.bool (((enoughP weights need (uDiff (uMsk (Int.toNat (List.length weights : Int))) set).n).2) == 0))) :: (68, VI ((enoughP weights need (uDiff (uMsk (Int.toNat (List.length weights : Int))) set).n).2)) :: (59, .v (.bool false)) :: (0, .lst 1 (weights.map cI)) :: (7, .v (.bool ((enoughP weights need set.n).1))) :: (10, .v (.bool ((enoughP weights need (uDiff (uMsk (Int.toNat (List.length weights : Int))) set).n).1))) :: (qdq2 weights need set a k), []⟩) (by kernel_rfl) ?_
  rcases Bool.eq_false_or_eq_true ((((enoughP weights need (uDiff (uMsk (Int.toNat (List.length weights : Int))) set).n).2) == 0)) with h11 | h11
  rw [h11]
  have g11 : (((enoughP weights need (uDiff (uMsk (Int.toNat (List.length weights : Int))) set).n).2) = 0) := by simpa using h11
  refine OW.run 4 (x' := ⟨(74, .v (.bool (((sumP weights set.n).2) == 0))) :: (73, .v (.bool (((sumP weights set.n).2) == 0))) :: (72, .v (.bool (((sumP weights set.n).2) == 0))) :: (71, VI ((sumP weights set.n).2)) :: (70, .v (.bool true)) :: (69, .v (.bool true)) :: (68, VI ((enoughP weights need (uDiff (uMsk (Int.toNat (List.length weights : Int))) set).n).2)) :: (59, .v (.bool false)) :: (0, .lst 1 (weights.map cI)) :: (7, .v (.bool ((enoughP weights need set.n).1))) :: (10, .v (.bool ((enoughP weights need (uDiff (uMsk (Int.toNat (List.length weights : Int))) set).n).1))) :: (qdq2 weights need set a k), []⟩) (by kernel_rfl) ?_
  rcases Bool.eq_false_or_eq_true ((((sumP weights set.n).2) == 0)) with h12 | h12
  rw [h12]
  have g12 : (((sumP weights set.n).2) = 0) := by simpa using h12
  refine OW.run 4 (x' := ⟨(78, .v (.bool (((sumP weights (uDiff (uMsk (Int.toNat (List.length weights : Int))) set).n).2) == 0))) :: (77, .v (.bool (((sumP weights (uDiff (uMsk (Int.toNat (List.length weights : Int))) set).n).2) == 0))) :: (76, .v (.bool (((sumP weights (uDiff (uMsk (Int.toNat (List.length weights : Int))) set).n).2) == 0))) :: (75, VI ((sumP weights (uDiff (uMsk (Int.toNat (List.length weights : Int))) set).n).2)) :: (74, .v (.bool true)) :: (73, .v (.bool true)) :: (72, .v (.bool true)) :: (71, VI ((sumP weights set.n).2)) :: (70, .v (.bool true)) :: (69, .v (.bool true)) :: (68, VI ((enoughP weights need (uDiff (uMsk (Int.toNat (List.length weights : Int))) set).n).2)) :: (59, .v (.bool false)) :: (0, .lst 1 (weights.map cI)) :: (7, .v (.bool ((enoughP weights need set.n).1))) :: (10, .v (.bool ((enoughP weights need (uDiff (uMsk (Int.toNat (List.length weights : Int))) set).n).1))) :: (qdq2 weights need set a k), []⟩) (by kernel_rfl) ?_
  rcases Bool.eq_false_or_eq_true ((((sumP weights (uDiff (uMsk (Int.toNat (List.length weights : Int))) set).n).2) == 0)) with h13 | h13
  rw [h13]
  have g13 : (((sumP weights (uDiff (uMsk (Int.toNat (List.length weights : Int))) set).n).2) = 0) := by simpa using h13
  refine OW.run 2 (x' := ⟨(80, .v (.bool ((enoughP weights need set.n).1))) :: (79, .v (.bool ((enoughP weights need set.n).1))) :: (78, .v (.bool true)) :: (77, .v (.bool true)) :: (76, .v (.bool true)) :: (75, VI ((sumP weights (uDiff (uMsk (Int.toNat (List.length weights : Int))) set).n).2)) :: (74, .v (.bool true)) :: (73, .v (.bool true)) :: (72, .v (.bool true)) :: (71, VI ((sumP weights set.n).2)) :: (70, .v (.bool true)) :: (69, .v (.bool true)) :: (68, VI ((enoughP weights need (uDiff (uMsk (Int.toNat (List.length weights : Int))) set).n).2)) :: (59, .v (.bool false)) :: (0, .lst 1 (weights.map cI)) :: (7, .v (.bool ((enoughP weights need set.n).1))) :: (10, .v (.bool ((enoughP weights need (uDiff (uMsk (Int.toNat (List.length weights : Int))) set).n).1))) :: (qdq2 weights need set a k), []⟩) (by kernel_rfl) ?_
  rcases Bool.eq_false_or_eq_true ((enoughP weights need set.n).1) with h14 | h14
  rw [h14]
  refine OW.run 5 (x' := ⟨(85, .v (.bool (!((enoughP weights need (uDiff (uMsk (Int.toNat (List.length weights : Int))) set).n).1)))) :: (84, .v (.bool (!((enoughP weights need (uDiff (uMsk (Int.toNat (List.length weights : Int))) set).n).1)))) :: (83, .v (.bool (!((enoughP weights need (uDiff (uMsk (Int.toNat (List.length weights : Int))) set).n).1)))) :: (82, .v (.bool ((enoughP weights need (uDiff (uMsk (Int.toNat (List.length weights : Int))) set).n).1))) :: (81, .v (.bool ((enoughP weights need (uDiff (uMsk (Int.toNat (List.length weights : Int))) set).n).1))) :: (80, .v (.bool true)) :: (79, .v (.bool true)) :: (78, .v (.bool true)) :: (77, .v (.bool true)) :: (76, .v (.bool true)) :: (75, VI ((sumP weights (uDiff (uMsk (Int.toNat (List.length weights : Int))) set).n).2)) :: (74, .v (.bool true)) :: (73, .v (.bool true)) :: (72, .v (.bool true)) :: (71, VI ((sumP weights set.n).2)) :: (70, .v (.bool true)) :: (69, .v (.bool true)) :: (68, VI ((enoughP weights need (uDiff (uMsk (Int.toNat (List.length weights : Int))) set).n).2)) :: (59, .v (.bool false)) :: (0, .lst 1 (weights.map cI)) :: (7, .v (.bool true)) :: (10, .v (.bool ((enoughP weights need (uDiff (uMsk (Int.toNat (List.length weights : Int))) set).n).1))) :: (qdq2 weights need set a k), []⟩) (by kernel_rfl) ?_
  rcases Bool.eq_false_or_eq_true ((enoughP weights need (uDiff (uMsk (Int.toNat (List.length weights : Int))) set).n).1) with h15 | h15
  rw [h15]
  refine OW.last 7 [6] (x' := ⟨[(6, .v (.bool false))], []⟩) (by kernel_rfl) (by kernel_rfl) ?_
  refine EL.ret ?_
  refine ⟨.inr rfl, .v (.bool false), by kernel_rfl, Ale.of_eq ?_⟩
  focus ((refine congrArg (fun b => AV.v (Value.bool b)) ?_; first | rfl | (have h9 := dual_err (by assumption); simp [h9]; done) | (rw [List.drop_eq_nil_of_le (by omega)] at hs; simp only [lsum] at hs; obtain ⟨e1, e2, e3, e4, e5⟩ := dual_law (ws := weights) (need := need) (set := set) (by assumption); first | (exfalso; omega) | (exfalso; exact e4 ⟨by assumption, by assumption⟩) | (simp; omega) | (exfalso; simp_all; done) | (simp_all; done))))
  rw [h15]
  refine OW.run 7 (x' := ⟨(6, .v (.bool ((IntKind.i64.wrap (((sumP weights set.n).1) + ((sumP weights (uDiff (uMsk (Int.toNat (List.length weights : Int))) set).n).1))) == a))) :: (91, .v (.bool ((IntKind.i64.wrap (((sumP weights set.n).1) + ((sumP weights (uDiff (uMsk (Int.toNat (List.length weights : Int))) set).n).1))) == a))) :: (90, .v (.bool ((IntKind.i64.wrap (((sumP weights set.n).1) + ((sumP weights (uDiff (uMsk (Int.toNat (List.length weights : Int))) set).n).1))) == a))) :: (89, VI a) :: (88, VI (IntKind.i64.wrap (((sumP weights set.n).1) + ((sumP weights (uDiff (uMsk (Int.toNat (List.length weights : Int))) set).n).1)))) :: (qdq5 weights set need a k), []⟩) (by kernel_rfl) ?_
  have e16 : IntKind.i64.wrap (((sumP weights set.n).1) + ((sumP weights (uDiff (uMsk (Int.toNat (List.length weights : Int))) set).n).1)) = ((sumP weights set.n).1) + ((sumP weights (uDiff (uMsk (Int.toNat (List.length weights : Int))) set).n).1) := wr64 (by have h9 := sum_bd weights set.n; have h8 := sum_bd weights (uDiff (uMsk (Int.toNat (List.length weights : Int))) set).n; omega)
  rw [e16]
  refine OW.last 0 [6] (x' := ⟨[(6, .v (.bool ((((sumP weights set.n).1) + ((sumP weights (uDiff (uMsk (Int.toNat (List.length weights : Int))) set).n).1)) == a)))], []⟩) (by kernel_rfl) (by kernel_rfl) ?_
  refine EL.ret ?_
  refine ⟨.inr rfl, .v (.bool ((((sumP weights set.n).1) + ((sumP weights (uDiff (uMsk (Int.toNat (List.length weights : Int))) set).n).1)) == a)), by kernel_rfl, Ale.of_eq ?_⟩
  focus ((refine congrArg (fun b => AV.v (Value.bool b)) ?_; first | rfl | (have h9 := dual_err (by assumption); simp [h9]; done) | (rw [List.drop_eq_nil_of_le (by omega)] at hs; simp only [lsum] at hs; obtain ⟨e1, e2, e3, e4, e5⟩ := dual_law (ws := weights) (need := need) (set := set) (by assumption); first | (exfalso; omega) | (exfalso; exact e4 ⟨by assumption, by assumption⟩) | (simp; omega) | (exfalso; simp_all; done) | (simp_all; done))))
  rw [h14]
  refine OW.run 12 (x' := ⟨(6, .v (.bool ((IntKind.i64.wrap (((sumP weights set.n).1) + ((sumP weights (uDiff (uMsk (Int.toNat (List.length weights : Int))) set).n).1))) == a))) :: (91, .v (.bool ((IntKind.i64.wrap (((sumP weights set.n).1) + ((sumP weights (uDiff (uMsk (Int.toNat (List.length weights : Int))) set).n).1))) == a))) :: (90, .v (.bool ((IntKind.i64.wrap (((sumP weights set.n).1) + ((sumP weights (uDiff (uMsk (Int.toNat (List.length weights : Int))) set).n).1))) == a))) :: (89, VI a) :: (88, VI (IntKind.i64.wrap (((sumP weights set.n).1) + ((sumP weights (uDiff (uMsk (Int.toNat (List.length weights : Int))) set).n).1)))) :: (87, VI ((sumP weights (uDiff (uMsk (Int.toNat (List.length weights : Int))) set).n).1)) :: (86, VI ((sumP weights set.n).1)) :: (85, .v (.bool true)) :: (84, .v (.bool true)) :: (83, .v (.bool true)) :: (82, .v (.bool false)) :: (81, .v undef) :: (80, .v (.bool false)) :: (79, .v (.bool false)) :: (78, .v (.bool true)) :: (77, .v (.bool true)) :: (76, .v (.bool true)) :: (75, VI ((sumP weights (uDiff (uMsk (Int.toNat (List.length weights : Int))) set).n).2)) :: (74, .v (.bool true)) :: (73, .v (.bool true)) :: (72, .v (.bool true)) :: (71, VI ((sumP weights set.n).2)) :: (70, .v (.bool true)) :: (69, .v (.bool true)) :: (68, VI ((enoughP weights need (uDiff (uMsk (Int.toNat (List.length weights : Int))) set).n).2)) :: (59, .v (.bool false)) :: (0, .lst 1 (weights.map cI)) :: (7, .v (.bool false)) :: (10, .v (.bool ((enoughP weights need (uDiff (uMsk (Int.toNat (List.length weights : Int))) set).n).1))) :: (qdq2 weights need set a k), []⟩) (by kernel_rfl) ?_
  have e17 : IntKind.i64.wrap (((sumP weights set.n).1) + ((sumP weights (uDiff (uMsk (Int.toNat (List.length weights : Int))) set).n).1)) = ((sumP weights set.n).1) + ((sumP weights (uDiff (uMsk (Int.toNat (List.length weights : Int))) set).n).1) := wr64 (by have h9 := sum_bd weights set.n; have h8 := sum_bd weights (uDiff (uMsk (Int.toNat (List.length weights : Int))) set).n; omega)
  rw [e17]
  refine OW.last 0 [6] (x' := ⟨[(6, .v (.bool ((((sumP weights set.n).1) + ((sumP weights (uDiff (uMsk (Int.toNat (List.length weights : Int))) set).n).1)) == a)))], []⟩) (by kernel_rfl) (by kernel_rfl) ?_
  refine EL.ret ?_
  refine ⟨.inr rfl, .v (.bool ((((sumP weights set.n).1) + ((sumP weights (uDiff (uMsk (Int.toNat (List.length weights : Int))) set).n).1)) == a)), by kernel_rfl, Ale.of_eq ?_⟩
  focus ((refine congrArg (fun b => AV.v (Value.bool b)) ?_; first | rfl | (have h9 := dual_err (by assumption); simp [h9]; done) | (rw [List.drop_eq_nil_of_le (by omega)] at hs; simp only [lsum] at hs; obtain ⟨e1, e2, e3, e4, e5⟩ := dual_law (ws := weights) (need := need) (set := set) (by assumption); first | (exfalso; omega) | (exfalso; exact e4 ⟨by assumption, by assumption⟩) | (simp; omega) | (exfalso; simp_all; done) | (simp_all; done))))
  rw [h13]
  have g13 : ¬ (((sumP weights (uDiff (uMsk (Int.toNat (List.length weights : Int))) set).n).2) = 0) := by simpa using h13
  refine OW.last 14 [6] (x' := ⟨[(6, .v (.bool false))], []⟩) (by kernel_rfl) (by kernel_rfl) ?_
  refine EL.ret ?_
  refine ⟨.inr rfl, .v (.bool false), by kernel_rfl, Ale.of_eq ?_⟩
  focus ((refine congrArg (fun b => AV.v (Value.bool b)) ?_; first | rfl | (have h9 := dual_err (by assumption); simp [h9]; done) | (rw [List.drop_eq_nil_of_le (by omega)] at hs; simp only [lsum] at hs; obtain ⟨e1, e2, e3, e4, e5⟩ := dual_law (ws := weights) (need := need) (set := set) (by assumption); first | (exfalso; omega) | (exfalso; exact e4 ⟨by assumption, by assumption⟩) | (simp; omega) | (exfalso; simp_all; done) | (simp_all; done))))
  rw [h12]
  have g12 : ¬ (((sumP weights set.n).2) = 0) := by simpa using h12
  refine OW.last 18 [6] (x' := ⟨[(6, .v (.bool false))], []⟩) (by kernel_rfl) (by kernel_rfl) ?_
  refine EL.ret ?_
  refine ⟨.inr rfl, .v (.bool false), by kernel_rfl, Ale.of_eq ?_⟩
  focus ((refine congrArg (fun b => AV.v (Value.bool b)) ?_; first | rfl | (have h9 := dual_err (by assumption); simp [h9]; done) | (rw [List.drop_eq_nil_of_le (by omega)] at hs; simp only [lsum] at hs; obtain ⟨e1, e2, e3, e4, e5⟩ := dual_law (ws := weights) (need := need) (set := set) (by assumption); first | (exfalso; omega) | (exfalso; exact e4 ⟨by assumption, by assumption⟩) | (simp; omega) | (exfalso; simp_all; done) | (simp_all; done))))
  rw [h11]
  have g11 : ¬ (((enoughP weights need (uDiff (uMsk (Int.toNat (List.length weights : Int))) set).n).2) = 0) := by simpa using h11
  refine OW.last 22 [6] (x' := ⟨[(6, .v (.bool false))], []⟩) (by kernel_rfl) (by kernel_rfl) ?_
  refine EL.ret ?_
  refine ⟨.inr rfl, .v (.bool false), by kernel_rfl, Ale.of_eq ?_⟩
  focus ((refine congrArg (fun b => AV.v (Value.bool b)) ?_; first | rfl | (have h9 := dual_err (by assumption); simp [h9]; done) | (rw [List.drop_eq_nil_of_le (by omega)] at hs; simp only [lsum] at hs; obtain ⟨e1, e2, e3, e4, e5⟩ := dual_law (ws := weights) (need := need) (set := set) (by assumption); first | (exfalso; omega) | (exfalso; exact e4 ⟨by assumption, by assumption⟩) | (simp; omega) | (exfalso; simp_all; done) | (simp_all; done))))
theorem QuorumDual_walk {w : World} (hG : GlE (E0 w fun b => b < w.heap.size)) (weights : List Int) (Aweights : Option Addr) (nweights cweights : Nat) (rweights : GoT.rep w w.heap.size [.slice Aweights nweights cweights] weights) (need : Int) (_wneed : (Lit.int .i64 need).wf = true) (set : U64) : Calls Tryd.prog 8 #[.slice Aweights nweights cweights, I need, .int .u64 (set.n : Int)] w fun e w' => e = .returned (.bool true) ∧ Below w.heap.size w w' := by
  have lweights := rep_len rweights
  exact fn_law (vs := [.slice Aweights nweights cweights, I need, .int .u64 (set.n : Int)]) (quorumDual_fn weights need set (by first | assumption | omega)) hG (.cons (rep_list (fun x : Int => [I x]) _ int_flat (fun _ => rfl) (by intro x v hv; simp at hv; rcases hv with rfl <;> exact ⟨rfl, rfl⟩) rweights) (.cons (.v rfl) (.cons (.v rfl) (.nil))))
theorem QuorumDual_own : ownKnob Tryd.prog.godebug = none := by kernel_rfl
theorem QuorumDual_laidOut : laidOutB Tryd.prog = true := by kernel_rfl
set_option maxRecDepth 100000 in
set_option linter.unusedVariables false in
theorem QuorumDual_lifted (os : Os) (started : os.Started) (H : Type) (enc : TypeId × Value → H) :
    ReturnsInHanded {} Tryd.checked os 8 .any (fun w args => (Rows.quorumDualSpec.pre enc Tryd.prog Tryd.f8 [] false w args ∧ laidMetH Tryd.prog Rows.quorumDualRow.laid w) ∧ sizedMet enc Tryd.prog Tryd.f8 (OpenSpec.ofChange Rows.quorumDualSpec) false w args)
      (Rows.quorumDualSpec.post enc Tryd.prog Tryd.f8 false true false false) := by
  refine returnsInHanded_of_change_and (C := Tryd.checked) (X := fun w _ => laidMetH Tryd.prog Rows.quorumDualRow.laid w) (fun _ _ _ hh h => h.of_heap hh) QuorumDual_own started (by kernel_rfl) Tryd.func8
    (ChangeSpec.witness_shaped (enc := enc) (C := Tryd.checked) (os := os) (X := fun w _ => laidMetH Tryd.prog Rows.quorumDualRow.laid w) false (World.doorLaid Tryd.prog 14 os) #[.slice none 0 0, .int .i64 0, .int .u64 0] 8 rfl (World.shaped_of_RefB (by kernel_rfl) (by kernel_rfl)) (by kernel_rfl) (by kernel_rfl) (by kernel_rfl) (laidMetH_of_parts3 (fuel := 8) (laidMet_of_run' 8 (by kernel_rfl) (by kernel_rfl)) (by kernel_rfl) (by kernel_rfl))) ?_
  intro W base args ds gs before hval0 hW _ _ hL _
  have hval : ∀ (j : Nat) t v, Tryd.f8.params[j]? = some t → args[j]? = some v → Value.okWide Tryd.prog W .any base t v := hval0
  have hW' := hW
  obtain ⟨p, q, hA0, hV, rfl, hfz, hnd⟩ := hW
  have hA : DataW.TrodAll enc Tryd.prog W 0 (fun _ => true) true Tryd.f8.params.toList args.toList ds p := hA0
  rw [Tryd.params8] at hA hval
  obtain ⟨v0, vs0, d0, ds0, p0, q0, hargs, rfl, rfl, h0, r0⟩ := trodAll_cons hA
  obtain ⟨v1, vs1, d1, ds1, p1, q1, rfl, rfl, rfl, h1, r1⟩ := trodAll_cons r0
  obtain ⟨v2, vs2, d2, ds2, p2, q2, rfl, rfl, rfl, h2, r2⟩ := trodAll_cons r1
  obtain ⟨rfl, rfl, rfl⟩ := trodAll_nil r2
  obtain rfl : args = #[v0, v1, v2] := by cases args; simp_all
  obtain ⟨rfl, rfl⟩ := trodVars_none hV
  have k0 := h0
  have lt0 : ∀ x ∈ p0, x.block < W.heap.size := by obtain ⟨m, hm⟩ := k0; exact DataW.trod_lt m _ _ _ hm
  obtain ⟨x0, A0, n0, c0, rfl, w0⟩ := open_list opens_Li64 Tryd.underlying22 (hval 0 22 v0 rfl rfl) h0
  have k1 := h1
  have lt1 : ∀ x ∈ p1, x.block < W.heap.size := by obtain ⟨m, hm⟩ := k1; exact DataW.trod_lt m _ _ _ hm
  obtain ⟨a1, rfl, e1, e1', w1⟩ := open_int Tryd.underlying3 (hval 1 3 v1 rfl rfl) h1
  have k2 := h2
  have lt2 : ∀ x ∈ p2, x.block < W.heap.size := by obtain ⟨m, hm⟩ := k2; exact DataW.trod_lt m _ _ _ hm
  obtain ⟨a2, rfl, e2, e2', w2⟩ := open_int Tryd.underlying23 (hval 2 23 v2 rfl rfl) h2
  obtain ⟨x2, rfl⟩ := u64_of_wf w2
  clear hA0 hval0
  refine (QuorumDual_walk (w := W) (glE_of hL) x0 A0 n0 c0 w0 a1 w1 x2).mono fun e W' ⟨he, bel⟩ => ?_
  subst he
  exact ⟨_, rfl, _, _, _, [], _, [], hW', trodAll_mk1 (shut_bool Tryd.underlying4 _), (trodAll_cons_mk (Below.trod QuorumDual_laidOut (by kernel_rfl) (of_decide_eq_true (by kernel_rfl)) k0 bel lt0) (trodAll_cons_mk (Below.trod QuorumDual_laidOut (by kernel_rfl) (of_decide_eq_true (by kernel_rfl)) k1 bel lt1) (trodAll_cons_mk (Below.trod QuorumDual_laidOut (by kernel_rfl) (of_decide_eq_true (by kernel_rfl)) k2 bel lt2) trodAll_mk0))), rfl, bel.frame _, fun h => by cases h⟩
set_option maxRecDepth 100000 in
set_option maxHeartbeats 4000000 in
theorem QuorumDual_row : Rows.QuorumDualSaid :=
  OpenClaim.holds_of_wide 8 Tryd.f8 rfl rfl rfl rfl rfl rfl rfl ⟨rfl, rfl, rfl, rfl, rfl⟩ rfl rfl rfl rfl rfl (by kernel_rfl) Tryd.func8 (by kernel_rfl)
    (of_decide_eq_true (by kernel_rfl)) (by unfold Func.isWrapper; first | (rw [if_pos (by decide +kernel)]; kernel_rfl) | (rw [if_neg (by decide +kernel)]; exact ⟨rfl, rfl⟩))
    (fun os started H enc _ => QuorumDual_lifted os started H enc)
set_option maxRecDepth 100000 in
set_option maxHeartbeats 4000000 in
theorem QuorumDual_holds : Rows.QuorumDualCardSaid :=
  Claim7.holds_tied_plain_at .later [] [.data] true (true, "4e0091b368fd50dbe6aea04a975ad067ec1fbf576cf131f96a83b4fbf0e1ad13") false
    QuorumDual_row (fun _ h => by cases h) (by kernel_rfl) (fun _ h => by cases h) quorumDual_row_tie rfl ⟨rfl, rfl⟩ (by kernel_rfl) rfl
    (fun f fn hf hfn => by
      obtain rfl : f = 8 := Option.some.inj ((show Tryd.prog.funcNamed "supercargo/supercargolaw.QuorumDual" = some 8 by kernel_rfl).symm.trans hf) |>.symm
      obtain rfl : fn = Tryd.f8 := (Option.some.inj (Tryd.func8.symm.trans hfn)).symm
      exact ⟨by kernel_rfl, fun j t ht => by
        rw [Tryd.params8] at ht
        have hm : t ∈ [22, 3, 23] := by simpa using Array.mem_of_getElem? ht
        have hall : ([22, 3, 23].all fun u => !Tryd.prog.wantsStandIn u) = true := by kernel_rfl
        exact (show Tryd.prog.wantsStandIn t = false by simpa using List.all_eq_true.1 hall t hm)⟩)
    (by kernel_rfl)
end Go.Proofs.YtfgjfghljhldfaaDoor
