/- With more nodes it is still enough; sums of sets that share none are the sum of both: the law QuorumRises returns true. No condition. -/
import Derived.Test.YtfgjfghljhldfaaDoorPQuorL
import Derived.Test.YtfgjfghljhldfaaDoorPQuorC
import Derived.WalkKit
import Derived.Handy
import Derived.ProofKit
import Derived.OpenShut
import Derived.ShutString
import Derived.ChangeOld
import Derived.Below
import Derived.Lib.Hide
import Derived.WalkLawsBesides
import Derived.WalkSpells
import Derived.Deep.QuietTactic
import Derived.BigQuiet
import Derived.Outline
import Derived.SevenTiedAt
namespace Go.Proofs.YtfgjfghljhldfaaDoor
set_option linter.unusedSimpArgs false
set_option linter.unusedVariables false
open Go.ChangeShapes Go.WideShapes Go.ChangeAt Go.RowKit
open Go.ChangeMaps (open_string shut_string)
set_option maxRecDepth 100000
set_option maxHeartbeats 4000000
abbrev qrq0 (weights : List Int) (need : Int) (a : U64) (b : U64) : LS := [(0, .lst 1 (weights.map cI)), (1, VI need), (2, .v (.int .u64 (a.n : Int))), (3, .v (.int .u64 (b.n : Int)))]
abbrev qrq1 (a : U64) (need : Int) (weights : List Int) (b : U64) : LS := (24, .v (.int .u64 (a.n : Int))) :: (23, VI need) :: (22, .lst 1 (weights.map cI)) :: (qrq0 weights need a b)
abbrev qrq2 (weights : List Int) (a : U64) (b : U64) : LS := [(0, .lst 1 (weights.map cI)), (2, .v (.int .u64 (a.n : Int))), (3, .v (.int .u64 (b.n : Int)))]
theorem quorumRises_fn (weights : List Int) (need : Int) (a : U64) (b : U64) (hx : weights.length ≤ 9223372036854775807) : Fn Tryd.prog 5 [.lst 1 (weights.map cI), VI need, .v (.int .u64 (a.n : Int)), .v (.int .u64 (b.n : Int))] (.v (.bool true)) := by
  refine fn_walkW F5_ok (of_decide_eq_true (by kernel_rfl)) ?_
  refine EL.sreg ?_
  refine OW.last 1 [0, 1, 2, 3] (x' := ⟨(qrq0 weights need a b), []⟩) (by kernel_rfl) (by kernel_rfl) ?_
  refine EL.sreg ?_
  refine OW.run 3 (x' := ⟨(qrq1 a need weights b), []⟩) (by kernel_rfl) ?_
  refine OW.fn (ar := [.lst 1 (weights.map cI), VI need, .v (.int .u64 (a.n : Int))]) (x' := ⟨(25, .tup [.v (.bool ((enoughP weights need a.n).1)), VI ((enoughP weights need a.n).2)]) :: (qrq1 a need weights b), []⟩) (by kernel_rfl) (by kernel_rfl) F10_call (enough_fn weights need a hx) (by kernel_rfl) (by kernel_rfl) ?_
  refine OW.last 5 [0, 1, 2, 3, 9, 10] (x' := ⟨(10, VI ((enoughP weights need a.n).2)) :: (9, .v (.bool ((enoughP weights need a.n).1))) :: (qrq0 weights need a b), []⟩) (by kernel_rfl) (by kernel_rfl) ?_
  refine EL.sreg ?_
  refine OW.run 5 (x' := ⟨(33, .v (.int .u64 (bits .or .u64 (a.n : Int) (b.n : Int)))) :: (32, .v (.int .u64 (b.n : Int))) :: (31, .v (.int .u64 (a.n : Int))) :: (30, VI need) :: (29, .lst 1 (weights.map cI)) :: (10, VI ((enoughP weights need a.n).2)) :: (9, .v (.bool ((enoughP weights need a.n).1))) :: (qrq0 weights need a b), []⟩) (by kernel_rfl) ?_
  have e1 : bits .or .u64 (a.n : Int) (b.n : Int) = ((uOr a b).n : Int) := uOr_bits (by omega)
  rw [e1]
  clear e1
  refine OW.fn (ar := [.lst 1 (weights.map cI), VI need, .v (.int .u64 ((uOr a b).n : Int))]) (x' := ⟨(34, .tup [.v (.bool ((enoughP weights need (uOr a b).n).1)), VI ((enoughP weights need (uOr a b).n).2)]) :: (33, .v (.int .u64 ((uOr a b).n : Int))) :: (32, .v (.int .u64 (b.n : Int))) :: (31, .v (.int .u64 (a.n : Int))) :: (30, VI need) :: (29, .lst 1 (weights.map cI)) :: (10, VI ((enoughP weights need a.n).2)) :: (9, .v (.bool ((enoughP weights need a.n).1))) :: (qrq0 weights need a b), []⟩) (by kernel_rfl) (by kernel_rfl) F10_call (enough_fn weights need (uOr a b) hx) (by kernel_rfl) (by kernel_rfl) ?_
  refine OW.last 5 [0, 2, 3, 9, 10, 11, 12] (x' := ⟨(12, VI ((enoughP weights need (uOr a b).n).2)) :: (11, .v (.bool ((enoughP weights need (uOr a b).n).1))) :: (10, VI ((enoughP weights need a.n).2)) :: (9, .v (.bool ((enoughP weights need a.n).1))) :: (qrq2 weights a b), []⟩) (by kernel_rfl) (by kernel_rfl) ?_
  refine EL.seq ?_
  refine EL.sreg ?_
  refine OW.fn (ar := []) (x' := ⟨(37, .v (.bool true)) :: (12, VI ((enoughP weights need (uOr a b).n).2)) :: (11, .v (.bool ((enoughP weights need (uOr a b).n).1))) :: (10, VI ((enoughP weights need a.n).2)) :: (9, .v (.bool ((enoughP weights need a.n).1))) :: (qrq2 weights a b), []⟩) (by kernel_rfl) (by kernel_rfl) F17_call (qbegun_fn) (by kernel_rfl) (by kernel_rfl) ?_
  refine OW.last 1 [0, 2, 3, 9, 10, 11, 12, 38] (x' := ⟨(38, .v (.bool false)) :: (12, VI ((enoughP weights need (uOr a b).n).2)) :: (11, .v (.bool ((enoughP weights need (uOr a b).n).1))) :: (10, VI ((enoughP weights need a.n).2)) :: (9, .v (.bool ((enoughP weights need a.n).1))) :: (qrq2 weights a b), []⟩) (by kernel_rfl) (by kernel_rfl) ?_
  refine EL.condF (by kernel_rfl) ?_
  refine EL.skip ?_
  refine thenL_norm ?_
  refine EL.seq ?_
  refine EL.sreg ?_
  refine OW.run 3 (x' := ⟨(41, .v (.bool (((enoughP weights need a.n).2) != 0))) :: (40, .v (.bool (((enoughP weights need a.n).2) != 0))) :: (39, VI ((enoughP weights need a.n).2)) :: (38, .v (.bool false)) :: (12, VI ((enoughP weights need (uOr a b).n).2)) :: (11, .v (.bool ((enoughP weights need (uOr a b).n).1))) :: (10, VI ((enoughP weights need a.n).2)) :: (9, .v (.bool ((enoughP weights need a.n).1))) :: (qrq2 weights a b), []⟩) (by kernel_rfl) ?_
  rcases Bool.eq_false_or_eq_true ((((enoughP weights need a.n).2) != 0)) with h2 | h2
  rw [h2]
  have g2 : ¬ (((enoughP weights need a.n).2) = 0) := by simpa using h2
  refine OW.last 3 [0, 2, 3, 9, 11, 44] (x' := ⟨(44, .v (.bool true)) :: (11, .v (.bool ((enoughP weights need (uOr a b).n).1))) :: (9, .v (.bool ((enoughP weights need a.n).1))) :: (qrq2 weights a b), []⟩) (by kernel_rfl) (by kernel_rfl) ?_
  refine EL.condT (by kernel_rfl) ?_
  refine EL.sreg ?_
  refine OW.last 1 [8] (x' := ⟨[(8, .v (.bool true))], []⟩) (by kernel_rfl) (by kernel_rfl) ?_
  refine EL.ret ?_
  refine thenL_ret ?_
  refine ⟨.inr rfl, .v (.bool true), by kernel_rfl, Ale.of_eq ?_⟩
  focus ((refine congrArg (fun b => AV.v (Value.bool b)) ?_; first | rfl | (obtain ⟨e1, e2, e3, e4, e5, e6⟩ := rises (ws := weights) (need := need) (a := a) (b := b) (by assumption) (by assumption); first | exact e6 (by assumption) | (exfalso; simp only [e1, e2, e3, e4] at *; first | omega | (simp_all; done)) | (simp only [e1, e2, e3, e4] at *; simp_all; done))))
  rw [h2]
  have g2 : (((enoughP weights need a.n).2) = 0) := by simpa using h2
  refine OW.last 3 [0, 2, 3, 9, 11, 44] (x' := ⟨(44, .v (.bool (((enoughP weights need (uOr a b).n).2) != 0))) :: (11, .v (.bool ((enoughP weights need (uOr a b).n).1))) :: (9, .v (.bool ((enoughP weights need a.n).1))) :: (qrq2 weights a b), []⟩) (by kernel_rfl) (by kernel_rfl) ?_
  rcases Bool.eq_false_or_eq_true ((((enoughP weights need (uOr a b).n).2) != 0)) with h3 | h3
  rw [h3]
  have g3 : ¬ (((enoughP weights need (uOr a b).n).2) = 0) := by simpa using h3
  refine EL.condT (by kernel_rfl) ?_
  refine EL.sreg ?_
  refine OW.last 1 [8] (x' := ⟨[(8, .v (.bool true))], []⟩) (by kernel_rfl) (by kernel_rfl) ?_
  refine EL.ret ?_
  refine thenL_ret ?_
  refine ⟨.inr rfl, .v (.bool true), by kernel_rfl, Ale.of_eq ?_⟩
  focus ((refine congrArg (fun b => AV.v (Value.bool b)) ?_; first | rfl | (obtain ⟨e1, e2, e3, e4, e5, e6⟩ := rises (ws := weights) (need := need) (a := a) (b := b) (by assumption) (by assumption); first | exact e6 (by assumption) | (exfalso; simp only [e1, e2, e3, e4] at *; first | omega | (simp_all; done)) | (simp only [e1, e2, e3, e4] at *; simp_all; done))))
  rw [h3]
  have g3 : (((enoughP weights need (uOr a b).n).2) = 0) := by simpa using h3
  refine EL.condF (by kernel_rfl) ?_
  refine EL.skip ?_
  refine thenL_norm ?_
  refine EL.sreg ?_
  refine OW.run 2 (x' := ⟨(47, .v (.int .u64 (a.n : Int))) :: (46, .lst 1 (weights.map cI)) :: (44, .v (.bool false)) :: (11, .v (.bool ((enoughP weights need (uOr a b).n).1))) :: (9, .v (.bool ((enoughP weights need a.n).1))) :: (qrq2 weights a b), []⟩) (by kernel_rfl) ?_
  refine OW.fn (ar := [.lst 1 (weights.map cI), .v (.int .u64 (a.n : Int))]) (x' := ⟨(48, .tup [VI ((sumP weights a.n).1), VI ((sumP weights a.n).2)]) :: (47, .v (.int .u64 (a.n : Int))) :: (46, .lst 1 (weights.map cI)) :: (44, .v (.bool false)) :: (11, .v (.bool ((enoughP weights need (uOr a b).n).1))) :: (9, .v (.bool ((enoughP weights need a.n).1))) :: (qrq2 weights a b), []⟩) (by kernel_rfl) (by kernel_rfl) F9_call (sum_fn weights a hx) (by kernel_rfl) (by kernel_rfl) ?_
  refine OW.last 5 [0, 2, 3, 9, 11, 13, 14] (x' := ⟨(14, VI ((sumP weights a.n).2)) :: (13, VI ((sumP weights a.n).1)) :: (11, .v (.bool ((enoughP weights need (uOr a b).n).1))) :: (9, .v (.bool ((enoughP weights need a.n).1))) :: (qrq2 weights a b), []⟩) (by kernel_rfl) (by kernel_rfl) ?_
  refine EL.sreg ?_
  refine OW.run 2 (x' := ⟨(53, .v (.int .u64 (b.n : Int))) :: (52, .lst 1 (weights.map cI)) :: (14, VI ((sumP weights a.n).2)) :: (13, VI ((sumP weights a.n).1)) :: (11, .v (.bool ((enoughP weights need (uOr a b).n).1))) :: (9, .v (.bool ((enoughP weights need a.n).1))) :: (qrq2 weights a b), []⟩) (by kernel_rfl) ?_
  refine OW.fn (ar := [.lst 1 (weights.map cI), .v (.int .u64 (b.n : Int))]) (x' := ⟨(54, .tup [VI ((sumP weights b.n).1), VI ((sumP weights b.n).2)]) :: (53, .v (.int .u64 (b.n : Int))) :: (52, .lst 1 (weights.map cI)) :: (14, VI ((sumP weights a.n).2)) :: (13, VI ((sumP weights a.n).1)) :: (11, .v (.bool ((enoughP weights need (uOr a b).n).1))) :: (9, .v (.bool ((enoughP weights need a.n).1))) :: (qrq2 weights a b), []⟩) (by kernel_rfl) (by kernel_rfl) F9_call (sum_fn weights b hx) (by kernel_rfl) (by kernel_rfl) ?_
  refine OW.last 5 [0, 2, 3, 9, 11, 13, 14, 15, 16] (x' := ⟨(16, VI ((sumP weights b.n).2)) :: (15, VI ((sumP weights b.n).1)) :: (14, VI ((sumP weights a.n).2)) :: (13, VI ((sumP weights a.n).1)) :: (11, .v (.bool ((enoughP weights need (uOr a b).n).1))) :: (9, .v (.bool ((enoughP weights need a.n).1))) :: (qrq2 weights a b), []⟩) (by kernel_rfl) (by kernel_rfl) ?_
  refine EL.sreg ?_
  refine OW.run 4 (x' := ⟨(61, .v (.int .u64 (bits .or .u64 (a.n : Int) (b.n : Int)))) :: (60, .v (.int .u64 (b.n : Int))) :: (59, .v (.int .u64 (a.n : Int))) :: (58, .lst 1 (weights.map cI)) :: (16, VI ((sumP weights b.n).2)) :: (15, VI ((sumP weights b.n).1)) :: (14, VI ((sumP weights a.n).2)) :: (13, VI ((sumP weights a.n).1)) :: (11, .v (.bool ((enoughP weights need (uOr a b).n).1))) :: (9, .v (.bool ((enoughP weights need a.n).1))) :: (qrq2 weights a b), []⟩) (by kernel_rfl) ?_
  have e4 : bits .or .u64 (a.n : Int) (b.n : Int) = ((uOr a b).n : Int) := uOr_bits (by omega)
  rw [e4]
  clear e4
  refine OW.fn (ar := [.lst 1 (weights.map cI), .v (.int .u64 ((uOr a b).n : Int))]) (x' := ⟨(62, .tup [VI ((sumP weights (uOr a b).n).1), VI ((sumP weights (uOr a b).n).2)]) :: (61, .v (.int .u64 ((uOr a b).n : Int))) :: (60, .v (.int .u64 (b.n : Int))) :: (59, .v (.int .u64 (a.n : Int))) :: (58, .lst 1 (weights.map cI)) :: (16, VI ((sumP weights b.n).2)) :: (15, VI ((sumP weights b.n).1)) :: (14, VI ((sumP weights a.n).2)) :: (13, VI ((sumP weights a.n).1)) :: (11, .v (.bool ((enoughP weights need (uOr a b).n).1))) :: (9, .v (.bool ((enoughP weights need a.n).1))) :: (qrq2 weights a b), []⟩) (by kernel_rfl) (by kernel_rfl) F9_call (sum_fn weights (uOr a b) hx) (by kernel_rfl) (by kernel_rfl) ?_
  refine OW.last 5 [0, 2, 3, 9, 11, 13, 14, 15, 16, 17, 18] (x' := ⟨(18, VI ((sumP weights (uOr a b).n).2)) :: (17, VI ((sumP weights (uOr a b).n).1)) :: (16, VI ((sumP weights b.n).2)) :: (15, VI ((sumP weights b.n).1)) :: (14, VI ((sumP weights a.n).2)) :: (13, VI ((sumP weights a.n).1)) :: (11, .v (.bool ((enoughP weights need (uOr a b).n).1))) :: (9, .v (.bool ((enoughP weights need a.n).1))) :: (qrq2 weights a b), []⟩) (by kernel_rfl) (by kernel_rfl) ?_
  refine EL.sreg ?_
  refine OW.run 4 (x' := ⟨(69, .v (.int .u64 (bits .and .u64 (a.n : Int) (b.n : Int)))) :: (68, .v (.int .u64 (b.n : Int))) :: (67, .v (.int .u64 (a.n : Int))) :: (66, .lst 1 (weights.map cI)) :: (18, VI ((sumP weights (uOr a b).n).2)) :: (17, VI ((sumP weights (uOr a b).n).1)) :: (16, VI ((sumP weights b.n).2)) :: (15, VI ((sumP weights b.n).1)) :: (14, VI ((sumP weights a.n).2)) :: (13, VI ((sumP weights a.n).1)) :: (11, .v (.bool ((enoughP weights need (uOr a b).n).1))) :: (9, .v (.bool ((enoughP weights need a.n).1))) :: (qrq2 weights a b), []⟩) (by kernel_rfl) ?_
  have e5 : bits .and .u64 (a.n : Int) (b.n : Int) = ((uAnd a b).n : Int) := uAnd_bits (by omega)
  rw [e5]
  clear e5
  refine OW.fn (ar := [.lst 1 (weights.map cI), .v (.int .u64 ((uAnd a b).n : Int))]) (x' := ⟨(70, .tup [VI ((sumP weights (uAnd a b).n).1), VI ((sumP weights (uAnd a b).n).2)]) :: (69, .v (.int .u64 ((uAnd a b).n : Int))) :: (68, .v (.int .u64 (b.n : Int))) :: (67, .v (.int .u64 (a.n : Int))) :: (66, .lst 1 (weights.map cI)) :: (18, VI ((sumP weights (uOr a b).n).2)) :: (17, VI ((sumP weights (uOr a b).n).1)) :: (16, VI ((sumP weights b.n).2)) :: (15, VI ((sumP weights b.n).1)) :: (14, VI ((sumP weights a.n).2)) :: (13, VI ((sumP weights a.n).1)) :: (11, .v (.bool ((enoughP weights need (uOr a b).n).1))) :: (9, .v (.bool ((enoughP weights need a.n).1))) :: (qrq2 weights a b), []⟩) (by kernel_rfl) (by kernel_rfl) F9_call (sum_fn weights (uAnd a b) hx) (by kernel_rfl) (by kernel_rfl) ?_
  refine OW.last 5 [9, 11, 13, 14, 15, 16, 17, 18, 19, 20] (x' := ⟨[(20, VI ((sumP weights (uAnd a b).n).2)), (19, VI ((sumP weights (uAnd a b).n).1)), (18, VI ((sumP weights (uOr a b).n).2)), (17, VI ((sumP weights (uOr a b).n).1)), (16, VI ((sumP weights b.n).2)), (15, VI ((sumP weights b.n).1)), (14, VI ((sumP weights a.n).2)), (13, VI ((sumP weights a.n).1)), (11, .v (.bool ((enoughP weights need (uOr a b).n).1))), (9, .v (.bool ((enoughP weights need a.n).1)))], []⟩) (by kernel_rfl) (by kernel_rfl) ?_
  refine EL.sreg ?_
  refine OW.run 3 (x' := ⟨[(75, .v (.bool (((sumP weights a.n).2) == 0))), (74, .v (.bool (((sumP weights a.n).2) == 0))), (73, VI ((sumP weights a.n).2)), (20, VI ((sumP weights (uAnd a b).n).2)), (19, VI ((sumP weights (uAnd a b).n).1)), (18, VI ((sumP weights (uOr a b).n).2)), (17, VI ((sumP weights (uOr a b).n).1)), (16, VI ((sumP weights b.n).2)), (15, VI ((sumP weights b.n).1)), (14, VI ((sumP weights a.n).2)), (13, VI ((sumP weights a.n).1)), (11, .v (.bool ((enoughP weights need (uOr a b).n).1))), (9, .v (.bool ((enoughP weights need a.n).1)))], []⟩) (by kernel_rfl) ?_
  rcases Bool.eq_false_or_eq_true ((((sumP weights a.n).2) == 0)) with h6 | h6
  rw [h6]
  have g6 : (((sumP weights a.n).2) = 0) := by simpa using h6
  refine OW.run 4 (x' := ⟨[(79, .v (.bool (((sumP weights b.n).2) == 0))), (78, .v (.bool (((sumP weights b.n).2) == 0))), (77, .v (.bool (((sumP weights b.n).2) == 0))), (76, VI ((sumP weights b.n).2)), (75, .v (.bool true)), (74, .v (.bool true)), (73, VI ((sumP weights a.n).2)), (20, VI ((sumP weights (uAnd a b).n).2)), (19, VI ((sumP weights (uAnd a b).n).1)), (18, VI ((sumP weights (uOr a b).n).2)), (17, VI ((sumP weights (uOr a b).n).1)), (16, VI ((sumP weights b.n).2)), (15, VI ((sumP weights b.n).1)), (14, VI ((sumP weights a.n).2)), (13, VI ((sumP weights a.n).1)), (11, .v (.bool ((enoughP weights need (uOr a b).n).1))), (9, .v (.bool ((enoughP weights need a.n).1)))], []⟩) (by kernel_rfl) ?_
  rcases Bool.eq_false_or_eq_true ((((sumP weights b.n).2) == 0)) with h7 | h7
  rw [h7]
  have g7 : (((sumP weights b.n).2) = 0) := by simpa using h7
  refine OW.run 4 (x' := ⟨[(83, .v (.bool (((sumP weights (uOr a b).n).2) == 0))), (82, .v (.bool (((sumP weights (uOr a b).n).2) == 0))), (81, .v (.bool (((sumP weights (uOr a b).n).2) == 0))), (80, VI ((sumP weights (uOr a b).n).2)), (79, .v (.bool true)), (78, .v (.bool true)), (77, .v (.bool true)), (76, VI ((sumP weights b.n).2)), (75, .v (.bool true)), (74, .v (.bool true)), (73, VI ((sumP weights a.n).2)), (20, VI ((sumP weights (uAnd a b).n).2)), (19, VI ((sumP weights (uAnd a b).n).1)), (18, VI ((sumP weights (uOr a b).n).2)), (17, VI ((sumP weights (uOr a b).n).1)), (16, VI ((sumP weights b.n).2)), (15, VI ((sumP weights b.n).1)), (14, VI ((sumP weights a.n).2)), (13, VI ((sumP weights a.n).1)), (11, .v (.bool ((enoughP weights need (uOr a b).n).1))), (9, .v (.bool ((enoughP weights need a.n).1)))], []⟩) (by kernel_rfl) ?_
  rcases Bool.eq_false_or_eq_true ((((sumP weights (uOr a b).n).2) == 0)) with h8 | h8
  rw [h8]
  have g8 : (((sumP weights (uOr a b).n).2) = 0) := by simpa using h8
  refine OW.run 4 (x' := ⟨[(87, .v (.bool (((sumP weights (uAnd a b).n).2) == 0))), (86, .v (.bool (((sumP weights (uAnd a b).n).2) == 0))), (85, .v (.bool (((sumP weights (uAnd a b).n).2) == 0))), (84, VI ((sumP weights (uAnd a b).n).2)), (83, .v (.bool true)), (82, .v (.bool true)), (81, .v (.bool true)), (80, VI ((sumP weights (uOr a b).n).2)), (79, .v (.bool true)), (78, .v (.bool true)), (77, .v (.bool true)), (76, VI ((sumP weights b.n).2)), (75, .v (.bool true)), (74, .v (.bool true)), (73, VI ((sumP weights a.n).2)), (20, VI ((sumP weights (uAnd a b).n).2)), (19, VI ((sumP weights (uAnd a b).n).1)), (18, VI ((sumP weights (uOr a b).n).2)), (17, VI ((sumP weights (uOr a b).n).1)), (16, VI ((sumP weights b.n).2)), (15, VI ((sumP weights b.n).1)), (14, VI ((sumP weights a.n).2)), (13, VI ((sumP weights a.n).1)), (11, .v (.bool ((enoughP weights need (uOr a b).n).1))), (9, .v (.bool ((enoughP weights need a.n).1)))], []⟩) (by kernel_rfl) ?_
  rcases Bool.eq_false_or_eq_true ((((sumP weights (uAnd a b).n).2) == 0)) with h9 | h9
  rw [h9]
  have g9 : (((sumP weights (uAnd a b).n).2) = 0) := by simpa using h9
  refine OW.run 9 (x' := ⟨[(96, .v (.bool ((IntKind.i64.wrap (((sumP weights (uOr a b).n).1) + ((sumP weights (uAnd a b).n).1))) == IntKind.i64.wrap (((sumP weights a.n).1) + ((sumP weights b.n).1))))), (95, .v (.bool ((IntKind.i64.wrap (((sumP weights (uOr a b).n).1) + ((sumP weights (uAnd a b).n).1))) == IntKind.i64.wrap (((sumP weights a.n).1) + ((sumP weights b.n).1))))), (94, .v (.bool ((IntKind.i64.wrap (((sumP weights (uOr a b).n).1) + ((sumP weights (uAnd a b).n).1))) == IntKind.i64.wrap (((sumP weights a.n).1) + ((sumP weights b.n).1))))), (93, VI (IntKind.i64.wrap (((sumP weights a.n).1) + ((sumP weights b.n).1)))), (92, VI ((sumP weights b.n).1)), (91, VI ((sumP weights a.n).1)), (90, VI (IntKind.i64.wrap (((sumP weights (uOr a b).n).1) + ((sumP weights (uAnd a b).n).1)))), (89, VI ((sumP weights (uAnd a b).n).1)), (88, VI ((sumP weights (uOr a b).n).1)), (87, .v (.bool true)), (86, .v (.bool true)), (85, .v (.bool true)), (84, VI ((sumP weights (uAnd a b).n).2)), (83, .v (.bool true)), (82, .v (.bool true)), (81, .v (.bool true)), (80, VI ((sumP weights (uOr a b).n).2)), (79, .v (.bool true)), (78, .v (.bool true)), (77, .v (.bool true)), (76, VI ((sumP weights b.n).2)), (75, .v (.bool true)), (74, .v (.bool true)), (73, VI ((sumP weights a.n).2)), (20, VI ((sumP weights (uAnd a b).n).2)), (19, VI ((sumP weights (uAnd a b).n).1)), (18, VI ((sumP weights (uOr a b).n).2)), (17, VI ((sumP weights (uOr a b).n).1)), (16, VI ((sumP weights b.n).2)), (15, VI ((sumP weights b.n).1)), (14, VI ((sumP weights a.n).2)), (13, VI ((sumP weights a.n).1)), (11, .v (.bool ((enoughP weights need (uOr a b).n).1))), (9, .v (.bool ((enoughP weights need a.n).1)))], []⟩) (by kernel_rfl) ?_
  have e10 : IntKind.i64.wrap (((sumP weights (uOr a b).n).1) + ((sumP weights (uAnd a b).n).1)) = ((sumP weights (uOr a b).n).1) + ((sumP weights (uAnd a b).n).1) := wr64 (by have h9 := sum_bd weights a.n; have h8 := sum_bd weights b.n; have h7 := sum_bd weights (uOr a b).n; have h6 := sum_bd weights (uAnd a b).n; omega)
  rw [e10]
  have e11 : IntKind.i64.wrap (((sumP weights a.n).1) + ((sumP weights b.n).1)) = ((sumP weights a.n).1) + ((sumP weights b.n).1) := wr64 (by have h9 := sum_bd weights a.n; have h8 := sum_bd weights b.n; have h7 := sum_bd weights (uOr a b).n; have h6 := sum_bd weights (uAnd a b).n; omega)
  rw [e11]
  rcases Bool.eq_false_or_eq_true (((((sumP weights (uOr a b).n).1) + ((sumP weights (uAnd a b).n).1)) == (((sumP weights a.n).1) + ((sumP weights b.n).1)))) with h12 | h12
  rw [h12]
  have g12 : ((((sumP weights (uOr a b).n).1) + ((sumP weights (uAnd a b).n).1)) = (((sumP weights a.n).1) + ((sumP weights b.n).1))) := by simpa using h12
  refine OW.run 3 (x' := ⟨[(99, .v (.bool (!((enoughP weights need a.n).1)))), (98, .v (.bool (!((enoughP weights need a.n).1)))), (97, .v (.bool ((enoughP weights need a.n).1))), (96, .v (.bool true)), (95, .v (.bool true)), (94, .v (.bool true)), (93, VI (((sumP weights a.n).1) + ((sumP weights b.n).1))), (92, VI ((sumP weights b.n).1)), (91, VI ((sumP weights a.n).1)), (90, VI (((sumP weights (uOr a b).n).1) + ((sumP weights (uAnd a b).n).1))), (89, VI ((sumP weights (uAnd a b).n).1)), (88, VI ((sumP weights (uOr a b).n).1)), (87, .v (.bool true)), (86, .v (.bool true)), (85, .v (.bool true)), (84, VI ((sumP weights (uAnd a b).n).2)), (83, .v (.bool true)), (82, .v (.bool true)), (81, .v (.bool true)), (80, VI ((sumP weights (uOr a b).n).2)), (79, .v (.bool true)), (78, .v (.bool true)), (77, .v (.bool true)), (76, VI ((sumP weights b.n).2)), (75, .v (.bool true)), (74, .v (.bool true)), (73, VI ((sumP weights a.n).2)), (20, VI ((sumP weights (uAnd a b).n).2)), (19, VI ((sumP weights (uAnd a b).n).1)), (18, VI ((sumP weights (uOr a b).n).2)), (17, VI ((sumP weights (uOr a b).n).1)), (16, VI ((sumP weights b.n).2)), (15, VI ((sumP weights b.n).1)), (14, VI ((sumP weights a.n).2)), (13, VI ((sumP weights a.n).1)), (11, .v (.bool ((enoughP weights need (uOr a b).n).1))), (9, .v (.bool ((enoughP weights need a.n).1)))], []⟩) (by kernel_rfl) ?_
  rcases Bool.eq_false_or_eq_true ((enoughP weights need a.n).1) with h13 | h13
  rw [h13]
  refine OW.last 4 [8] (x' := ⟨[(8, .v (.bool ((enoughP weights need (uOr a b).n).1)))], []⟩) (by kernel_rfl) (by kernel_rfl) ?_
  refine EL.ret ?_
  refine ⟨.inr rfl, .v (.bool ((enoughP weights need (uOr a b).n).1)), by kernel_rfl, Ale.of_eq ?_⟩
  focus ((refine congrArg (fun b => AV.v (Value.bool b)) ?_; first | rfl | (obtain ⟨e1, e2, e3, e4, e5, e6⟩ := rises (ws := weights) (need := need) (a := a) (b := b) (by assumption) (by assumption); first | exact e6 (by assumption) | (exfalso; simp only [e1, e2, e3, e4] at *; first | omega | (simp_all; done)) | (simp only [e1, e2, e3, e4] at *; simp_all; done))))
  rw [h13]
  refine OW.last 4 [8] (x' := ⟨[(8, .v (.bool true))], []⟩) (by kernel_rfl) (by kernel_rfl) ?_
  refine EL.ret ?_
  refine ⟨.inr rfl, .v (.bool true), by kernel_rfl, Ale.of_eq ?_⟩
  focus ((refine congrArg (fun b => AV.v (Value.bool b)) ?_; first | rfl | (obtain ⟨e1, e2, e3, e4, e5, e6⟩ := rises (ws := weights) (need := need) (a := a) (b := b) (by assumption) (by assumption); first | exact e6 (by assumption) | (exfalso; simp only [e1, e2, e3, e4] at *; first | omega | (simp_all; done)) | (simp only [e1, e2, e3, e4] at *; simp_all; done))))
  rw [h12]
  have g12 : ¬ ((((sumP weights (uOr a b).n).1) + ((sumP weights (uAnd a b).n).1)) = (((sumP weights a.n).1) + ((sumP weights b.n).1))) := by simpa using h12
  refine OW.last 7 [8] (x' := ⟨[(8, .v (.bool false))], []⟩) (by kernel_rfl) (by kernel_rfl) ?_
  refine EL.ret ?_
  refine ⟨.inr rfl, .v (.bool false), by kernel_rfl, Ale.of_eq ?_⟩
  focus ((refine congrArg (fun b => AV.v (Value.bool b)) ?_; first | rfl | (obtain ⟨e1, e2, e3, e4, e5, e6⟩ := rises (ws := weights) (need := need) (a := a) (b := b) (by assumption) (by assumption); first | exact e6 (by assumption) | (exfalso; simp only [e1, e2, e3, e4] at *; first | omega | (simp_all; done)) | (simp only [e1, e2, e3, e4] at *; simp_all; done))))
  rw [h9]
  have g9 : ¬ (((sumP weights (uAnd a b).n).2) = 0) := by simpa using h9
  refine OW.last 16 [8] (x' := ⟨[(8, .v (.bool false))], []⟩) (by kernel_rfl) (by kernel_rfl) ?_
  refine EL.ret ?_
  refine ⟨.inr rfl, .v (.bool false), by kernel_rfl, Ale.of_eq ?_⟩
  focus ((refine congrArg (fun b => AV.v (Value.bool b)) ?_; first | rfl | (obtain ⟨e1, e2, e3, e4, e5, e6⟩ := rises (ws := weights) (need := need) (a := a) (b := b) (by assumption) (by assumption); first | exact e6 (by assumption) | (exfalso; simp only [e1, e2, e3, e4] at *; first | omega | (simp_all; done)) | (simp only [e1, e2, e3, e4] at *; simp_all; done))))
  rw [h8]
  have g8 : ¬ (((sumP weights (uOr a b).n).2) = 0) := by simpa using h8
  refine OW.last 20 [8] (x' := ⟨[(8, .v (.bool false))], []⟩) (by kernel_rfl) (by kernel_rfl) ?_
  refine EL.ret ?_
  refine ⟨.inr rfl, .v (.bool false), by kernel_rfl, Ale.of_eq ?_⟩
  focus ((refine congrArg (fun b => AV.v (Value.bool b)) ?_; first | rfl | (obtain ⟨e1, e2, e3, e4, e5, e6⟩ := rises (ws := weights) (need := need) (a := a) (b := b) (by assumption) (by assumption); first | exact e6 (by assumption) | (exfalso; simp only [e1, e2, e3, e4] at *; first | omega | (simp_all; done)) | (simp only [e1, e2, e3, e4] at *; simp_all; done))))
  rw [h7]
  have g7 : ¬ (((sumP weights b.n).2) = 0) := by simpa using h7
  refine OW.last 24 [8] (x' := ⟨[(8, .v (.bool false))], []⟩) (by kernel_rfl) (by kernel_rfl) ?_
  refine EL.ret ?_
  refine ⟨.inr rfl, .v (.bool false), by kernel_rfl, Ale.of_eq ?_⟩
  focus ((refine congrArg (fun b => AV.v (Value.bool b)) ?_; first | rfl | (obtain ⟨e1, e2, e3, e4, e5, e6⟩ := rises (ws := weights) (need := need) (a := a) (b := b) (by assumption) (by assumption); first | exact e6 (by assumption) | (exfalso; simp only [e1, e2, e3, e4] at *; first | omega | (simp_all; done)) | (simp only [e1, e2, e3, e4] at *; simp_all; done))))
  rw [h6]
  have g6 : ¬ (((sumP weights a.n).2) = 0) := by simpa using h6
  refine OW.last 28 [8] (x' := ⟨[(8, .v (.bool false))], []⟩) (by kernel_rfl) (by kernel_rfl) ?_
  refine EL.ret ?_
  refine ⟨.inr rfl, .v (.bool false), by kernel_rfl, Ale.of_eq ?_⟩
  focus ((refine congrArg (fun b => AV.v (Value.bool b)) ?_; first | rfl | (obtain ⟨e1, e2, e3, e4, e5, e6⟩ := rises (ws := weights) (need := need) (a := a) (b := b) (by assumption) (by assumption); first | exact e6 (by assumption) | (exfalso; simp only [e1, e2, e3, e4] at *; first | omega | (simp_all; done)) | (simp only [e1, e2, e3, e4] at *; simp_all; done))))
theorem QuorumRises_walk {w : World} (hG : GlE (E0 w fun b => b < w.heap.size)) (weights : List Int) (Aweights : Option Addr) (nweights cweights : Nat) (rweights : GoT.rep w w.heap.size [.slice Aweights nweights cweights] weights) (need : Int) (_wneed : (Lit.int .i64 need).wf = true) (a : U64) (b : U64) : Calls Tryd.prog 5 #[.slice Aweights nweights cweights, I need, .int .u64 (a.n : Int), .int .u64 (b.n : Int)] w fun e w' => e = .returned (.bool true) ∧ Below w.heap.size w w' := by
  have lweights := rep_len rweights
  exact fn_law (vs := [.slice Aweights nweights cweights, I need, .int .u64 (a.n : Int), .int .u64 (b.n : Int)]) (quorumRises_fn weights need a b (by first | assumption | omega)) hG (.cons (rep_list (fun x : Int => [I x]) _ int_flat (fun _ => rfl) (by intro x v hv; simp at hv; rcases hv with rfl <;> exact ⟨rfl, rfl⟩) rweights) (.cons (.v rfl) (.cons (.v rfl) (.cons (.v rfl) (.nil)))))
theorem QuorumRises_own : ownKnob Tryd.prog.godebug = none := by kernel_rfl
theorem QuorumRises_laidOut : laidOutB Tryd.prog = true := by kernel_rfl
set_option maxRecDepth 100000 in
set_option linter.unusedVariables false in
theorem QuorumRises_lifted (os : Os) (started : os.Started) (H : Type) (enc : TypeId × Value → H) :
    ReturnsInHanded {} Tryd.checked os 5 .any (fun w args => (Rows.quorumRisesSpec.pre enc Tryd.prog Tryd.f5 [] false w args ∧ laidMetH Tryd.prog Rows.quorumRisesRow.laid w) ∧ sizedMet enc Tryd.prog Tryd.f5 (OpenSpec.ofChange Rows.quorumRisesSpec) false w args)
      (Rows.quorumRisesSpec.post enc Tryd.prog Tryd.f5 false true false false) := by
  refine returnsInHanded_of_change_and (C := Tryd.checked) (X := fun w _ => laidMetH Tryd.prog Rows.quorumRisesRow.laid w) (fun _ _ _ hh h => h.of_heap hh) QuorumRises_own started (by kernel_rfl) Tryd.func5
    (ChangeSpec.witness_shaped (enc := enc) (C := Tryd.checked) (os := os) (X := fun w _ => laidMetH Tryd.prog Rows.quorumRisesRow.laid w) false (World.doorLaid Tryd.prog 14 os) #[.slice none 0 0, .int .i64 0, .int .u64 0, .int .u64 0] 8 rfl (World.shaped_of_RefB (by kernel_rfl) (by kernel_rfl)) (by kernel_rfl) (by kernel_rfl) (by kernel_rfl) (laidMetH_of_parts3 (fuel := 8) (laidMet_of_run' 8 (by kernel_rfl) (by kernel_rfl)) (by kernel_rfl) (by kernel_rfl))) ?_
  intro W base args ds gs before hval0 hW _ _ hL _
  have hval : ∀ (j : Nat) t v, Tryd.f5.params[j]? = some t → args[j]? = some v → Value.okWide Tryd.prog W .any base t v := hval0
  have hW' := hW
  obtain ⟨p, q, hA0, hV, rfl, hfz, hnd⟩ := hW
  have hA : DataW.TrodAll enc Tryd.prog W 0 (fun _ => true) true Tryd.f5.params.toList args.toList ds p := hA0
  rw [Tryd.params5] at hA hval
  obtain ⟨v0, vs0, d0, ds0, p0, q0, hargs, rfl, rfl, h0, r0⟩ := trodAll_cons hA
  obtain ⟨v1, vs1, d1, ds1, p1, q1, rfl, rfl, rfl, h1, r1⟩ := trodAll_cons r0
  obtain ⟨v2, vs2, d2, ds2, p2, q2, rfl, rfl, rfl, h2, r2⟩ := trodAll_cons r1
  obtain ⟨v3, vs3, d3, ds3, p3, q3, rfl, rfl, rfl, h3, r3⟩ := trodAll_cons r2
  obtain ⟨rfl, rfl, rfl⟩ := trodAll_nil r3
  obtain rfl : args = #[v0, v1, v2, v3] := by cases args; simp_all
  obtain ⟨rfl, rfl⟩ := trodVars_none hV
  have k0 := h0
  have lt0 : ∀ x ∈ p0, x.block < W.heap.size := by obtain ⟨m, hm⟩ := k0; exact DataW.trod_lt m _ _ _ hm
  obtain ⟨x0, A0, n0, c0, rfl, w0⟩ := open_list opens_Li64 Tryd.underlying22 (hval 0 22 v0 rfl rfl) h0
  have k1 := h1
  have lt1 : ∀ x ∈ p1, x.block < W.heap.size := by obtain ⟨m, hm⟩ := k1; exact DataW.trod_lt m _ _ _ hm
  obtain ⟨a1, rfl, e1, e1', w1⟩ := open_int Tryd.underlying3 (hval 1 3 v1 rfl rfl) h1
  have k2 := h2
  have lt2 : ∀ x ∈ p2, x.block < W.heap.size := by obtain ⟨m, hm⟩ := k2; exact DataW.trod_lt m _ _ _ hm
  obtain ⟨a2, rfl, e2, e2', w2⟩ := open_int Tryd.underlying23 (hval 2 23 v2 rfl rfl) h2
  obtain ⟨x2, rfl⟩ := u64_of_wf w2
  have k3 := h3
  have lt3 : ∀ x ∈ p3, x.block < W.heap.size := by obtain ⟨m, hm⟩ := k3; exact DataW.trod_lt m _ _ _ hm
  obtain ⟨a3, rfl, e3, e3', w3⟩ := open_int Tryd.underlying23 (hval 3 23 v3 rfl rfl) h3
  obtain ⟨x3, rfl⟩ := u64_of_wf w3
  clear hA0 hval0
  refine (QuorumRises_walk (w := W) (glE_of hL) x0 A0 n0 c0 w0 a1 w1 x2 x3).mono fun e W' ⟨he, bel⟩ => ?_
  subst he
  exact ⟨_, rfl, _, _, _, [], _, [], hW', trodAll_mk1 (shut_bool Tryd.underlying4 _), (trodAll_cons_mk (Below.trod QuorumRises_laidOut (by kernel_rfl) (of_decide_eq_true (by kernel_rfl)) k0 bel lt0) (trodAll_cons_mk (Below.trod QuorumRises_laidOut (by kernel_rfl) (of_decide_eq_true (by kernel_rfl)) k1 bel lt1) (trodAll_cons_mk (Below.trod QuorumRises_laidOut (by kernel_rfl) (of_decide_eq_true (by kernel_rfl)) k2 bel lt2) (trodAll_cons_mk (Below.trod QuorumRises_laidOut (by kernel_rfl) (of_decide_eq_true (by kernel_rfl)) k3 bel lt3) trodAll_mk0)))), rfl, bel.frame _, fun h => by cases h⟩
set_option maxRecDepth 100000 in
set_option maxHeartbeats 4000000 in
theorem QuorumRises_row : Rows.QuorumRisesSaid :=
  OpenClaim.holds_of_wide 5 Tryd.f5 rfl rfl rfl rfl rfl rfl rfl ⟨rfl, rfl, rfl, rfl, rfl⟩ rfl rfl rfl rfl rfl (by kernel_rfl) Tryd.func5 (by kernel_rfl)
    (of_decide_eq_true (by kernel_rfl)) (by unfold Func.isWrapper; first | (rw [if_pos (by decide +kernel)]; kernel_rfl) | (rw [if_neg (by decide +kernel)]; exact ⟨rfl, rfl⟩))
    (fun os started H enc _ => QuorumRises_lifted os started H enc)
set_option maxRecDepth 100000 in
set_option maxHeartbeats 4000000 in
theorem QuorumRises_holds : Rows.QuorumRisesCardSaid :=
  Claim7.holds_tied_plain_at .later [] [.data] true (true, "4e0091b368fd50dbe6aea04a975ad067ec1fbf576cf131f96a83b4fbf0e1ad13") false
    QuorumRises_row (fun _ h => by cases h) (by kernel_rfl) (fun _ h => by cases h) quorumRises_row_tie rfl ⟨rfl, rfl⟩ (by kernel_rfl) rfl
    (fun f fn hf hfn => by
      obtain rfl : f = 5 := Option.some.inj ((show Tryd.prog.funcNamed "supercargo/supercargolaw.QuorumRises" = some 5 by kernel_rfl).symm.trans hf) |>.symm
      obtain rfl : fn = Tryd.f5 := (Option.some.inj (Tryd.func5.symm.trans hfn)).symm
      exact ⟨by kernel_rfl, fun j t ht => by
        rw [Tryd.params5] at ht
        have hm : t ∈ [22, 3, 23, 23] := by simpa using Array.mem_of_getElem? ht
        have hall : ([22, 3, 23, 23].all fun u => !Tryd.prog.wantsStandIn u) = true := by kernel_rfl
        exact (show Tryd.prog.wantsStandIn t = false by simpa using List.all_eq_true.1 hall t hm)⟩)
    (by kernel_rfl)
end Go.Proofs.YtfgjfghljhldfaaDoor
