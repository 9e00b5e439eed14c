/- Of nodes that weigh all the same more than half are enough: the law QuorumEven returns true. No condition. -/
import Derived.Test.YtfgjfghljhldfaaDoorPQuorL
import Derived.Test.YtfgjfghljhldfaaDoorPQuorC
import Derived.WalkKit
import Derived.Handy
import Derived.ProofKit
import Derived.OpenShut
import Derived.ShutString
import Derived.ChangeOld
import Derived.Below
import Derived.Lib.Hide
import Derived.WalkLawsBesides
import Derived.WalkSpells
import Derived.Deep.QuietTactic
import Derived.BigQuiet
import Derived.Outline
import Derived.SevenTiedAt
namespace Go.Proofs.YtfgjfghljhldfaaDoor
set_option linter.unusedSimpArgs false
set_option linter.unusedVariables false
open Go.ChangeShapes Go.WideShapes Go.ChangeAt Go.RowKit
open Go.ChangeMaps (open_string shut_string)
set_option maxRecDepth 100000
set_option maxHeartbeats 4000000
abbrev qeq0 (n : Int) (weight : Int) : LS := [(12, .v (.bool true)), (0, VI n), (1, VI weight)]
abbrev qeq1 (n : Int) (weight : Int) : LS := [(13, .v (.bool false)), (0, VI n), (1, VI weight)]
abbrev qeq2 (n : Int) (weight : Int) : LS := [(27, .v (.bool true)), (0, VI n), (1, VI weight)]
abbrev qeq3 (n : Int) (weight : Int) : LS := (17, VI n) :: (16, .v (.bool false)) :: (15, .v (.bool false)) :: (14, VI n) :: (qeq1 n weight)
abbrev qeq4 (weight : Int) (n : Int) : LS := (21, VI weight) :: (20, .v (.bool false)) :: (19, .v (.bool false)) :: (18, .v (.bool false)) :: (qeq3 n weight)
abbrev qeq5 (n : Int) (weight : Int) : LS := [(6, VI 0), (5, .emp), (0, VI n), (1, VI weight)]
abbrev qeq6 (n : Int) (weight : Int) (out : List Int) (k : Nat) : LS := [(0, VI n), (1, VI weight), (5, .own 0 1 0 (List.length out)), (6, VI (k : Int))]
abbrev qeq7 (weight : Int) (out : List Int) (n : Int) (k : Nat) : LS := (35, .own 1 1 0 1) :: (34, VI weight) :: (33, .own 0 1 0 (List.length out)) :: (30, .v (.bool true)) :: (qeq6 n weight out k)
abbrev qeq8 (weight : Int) (out : List Int) : LB := [none, some ⟨1, [[VI weight]]⟩, some ⟨1, ((out ++ ([weight])).map cI)⟩]
abbrev qeq9 (out : List Int) (weight : Int) (n : Int) (k : Nat) : LS := (36, .own 2 1 0 (List.length (out ++ ([weight])))) :: (qeq7 weight out n k)
abbrev qeq10 (out : List Int) (weight : Int) (n : Int) (k : Nat) : LS := [(5, .own 2 1 0 (List.length (out ++ ([weight])))), (36, .own 2 1 0 (List.length (out ++ ([weight])))), (35, .own 1 1 0 1), (34, VI weight), (33, .own 0 1 0 (List.length out)), (30, .v (.bool true)), (0, VI n), (1, VI weight), (6, VI (k : Int))]
abbrev qeq11 (k : Nat) (out : List Int) (weight : Int) (n : Int) : LS := [(31, VI (k : Int)), (5, .own 2 1 0 (List.length (out ++ ([weight])))), (36, .own 2 1 0 (List.length (out ++ ([weight])))), (35, .own 1 1 0 1), (34, VI weight), (33, .own 0 1 0 (List.length out)), (30, .v (.bool true)), (0, VI n), (1, VI weight)]
abbrev qeq12 (k : Nat) (out : List Int) (weight : Int) (n : Int) : LS := (6, VI ((k : Int) + 1)) :: (32, VI ((k : Int) + 1)) :: (qeq11 k out weight n)
abbrev qeq13 (weight : Int) (n : Int) (out : List Int) (k : Nat) : LS := (38, VI weight) :: (37, VI n) :: (30, .v (.bool false)) :: (qeq6 n weight out k)
abbrev qeq14 (n : Int) (weight : Int) (out : List Int) : LS := [(7, VI (((n * weight) / 2) + 1)), (0, VI n), (5, .own 0 1 0 (List.length out))]
abbrev qeq15 (n : Int) (weight : Int) (out : List Int) : LS := (44, VI (((n * weight) / 2) + 1)) :: (43, .own 0 1 0 (List.length out)) :: (qeq14 n weight out)
abbrev qeq16 (out : List Int) (n : Int) (weight : Int) : LS := (45, .tup [VI ((leastP out (((n * weight) / 2) + 1)).1), VI ((leastP out (((n * weight) / 2) + 1)).2)]) :: (qeq15 n weight out)
abbrev qeq17 (out : List Int) (n : Int) (weight : Int) : LS := (9, VI ((leastP out (((n * weight) / 2) + 1)).2)) :: (8, VI ((leastP out (((n * weight) / 2) + 1)).1)) :: (qeq14 n weight out)
abbrev qeq18 (n : Int) (weight : Int) (out : List Int) : LS := (50, VI (((n * weight) / 2) + 1)) :: (49, .own 0 1 0 (List.length out)) :: (qeq17 out n weight)
abbrev qeq19 (out : List Int) (n : Int) (weight : Int) : LS := (51, .tup [VI ((spareP out (((n * weight) / 2) + 1)).1), VI ((spareP out (((n * weight) / 2) + 1)).2)]) :: (qeq18 n weight out)
abbrev qeq20 (out : List Int) (n : Int) (weight : Int) : LS := [(11, VI ((spareP out (((n * weight) / 2) + 1)).2)), (10, VI ((spareP out (((n * weight) / 2) + 1)).1)), (9, VI ((leastP out (((n * weight) / 2) + 1)).2)), (8, VI ((leastP out (((n * weight) / 2) + 1)).1)), (0, VI n)]
abbrev qeq21 (out : List Int) (n : Int) (weight : Int) : LS := (54, VI ((leastP out (((n * weight) / 2) + 1)).2)) :: (qeq20 out n weight)
abbrev qeq22 (out : List Int) (n : Int) (weight : Int) : LS := (57, VI ((spareP out (((n * weight) / 2) + 1)).2)) :: (56, .v (.bool true)) :: (55, .v (.bool true)) :: (qeq21 out n weight)
abbrev qeq23 (n : Int) (out : List Int) (weight : Int) : LS := (62, VI n) :: (61, VI ((leastP out (((n * weight) / 2) + 1)).1)) :: (60, .v (.bool true)) :: (59, .v (.bool true)) :: (58, .v (.bool true)) :: (qeq22 out n weight)
abbrev qeq24 (out : List Int) (n : Int) (weight : Int) : LS := (70, VI ((leastP out (((n * weight) / 2) + 1)).1)) :: (69, VI n) :: (68, VI ((spareP out (((n * weight) / 2) + 1)).1)) :: (67, .v (.bool true)) :: (66, .v (.bool true)) :: (65, .v (.bool true)) :: (64, VI ((n / 2) + 1)) :: (63, VI (n / 2)) :: (qeq23 n out weight)
theorem quorumEven_fn (n : Int) (weight : Int) : Fn Tryd.prog 7 [VI n, VI weight] (.v (.bool true)) := by
  refine fn_walkW F7_ok (of_decide_eq_true (by kernel_rfl)) ?_
  refine EL.sreg ?_
  refine OW.last 1 [0, 1] (x' := ⟨[(0, VI n), (1, VI weight)], []⟩) (by kernel_rfl) (by kernel_rfl) ?_
  refine EL.seq ?_
  refine EL.sreg ?_
  refine OW.fn (ar := []) (x' := ⟨(qeq0 n weight), []⟩) (by kernel_rfl) (by kernel_rfl) F17_call (qbegun_fn) (by kernel_rfl) (by kernel_rfl) ?_
  refine OW.last 1 [0, 1, 13] (x' := ⟨(qeq1 n weight), []⟩) (by kernel_rfl) (by kernel_rfl) ?_
  refine EL.condF (by kernel_rfl) ?_
  refine EL.skip ?_
  refine thenL_norm ?_
  refine EL.seq ?_
  refine EL.sreg ?_
  refine OW.run 3 (x' := ⟨(16, .v (.bool (decide (n < 1)))) :: (15, .v (.bool (decide (n < 1)))) :: (14, VI n) :: (qeq1 n weight), []⟩) (by kernel_rfl) ?_
  rcases Bool.eq_false_or_eq_true (decide (n < 1)) with h1 | h1
  rw [h1]
  have g1 : (n < 1) := of_decide_eq_true h1
  refine OW.last 11 [0, 1, 27] (x' := ⟨(qeq2 n weight), []⟩) (by kernel_rfl) (by kernel_rfl) ?_
  refine EL.condT (by kernel_rfl) ?_
  refine EL.sreg ?_
  refine OW.last 1 [4] (x' := ⟨[(4, .v (.bool true))], []⟩) (by kernel_rfl) (by kernel_rfl) ?_
  refine EL.ret ?_
  refine thenL_ret ?_
  refine ⟨.inr rfl, .v (.bool true), by kernel_rfl, Ale.of_eq ?_⟩
  focus ((refine congrArg (fun b => AV.v (Value.bool b)) ?_; first | rfl | (have hkn : (k : Int) = n := (by omega); have he := even_law (n := k) (w := weight) (by omega) (by omega); rw [hkn, ← ho] at he; obtain ⟨e1, e2, e3, e4⟩ := he; first | (exfalso; omega) | (simp; omega))))
  rw [h1]
  have g1 : ¬ (n < 1) := of_decide_eq_false h1
  refine OW.run 4 (x' := ⟨(20, .v (.bool (decide (n > 12)))) :: (19, .v (.bool (decide (n > 12)))) :: (18, .v (.bool (decide (n > 12)))) :: (qeq3 n weight), []⟩) (by kernel_rfl) ?_
  rcases Bool.eq_false_or_eq_true (decide (n > 12)) with h2 | h2
  rw [h2]
  have g2 : (n > 12) := of_decide_eq_true h2
  refine OW.last 7 [0, 1, 27] (x' := ⟨(qeq2 n weight), []⟩) (by kernel_rfl) (by kernel_rfl) ?_
  refine EL.condT (by kernel_rfl) ?_
  refine EL.sreg ?_
  refine OW.last 1 [4] (x' := ⟨[(4, .v (.bool true))], []⟩) (by kernel_rfl) (by kernel_rfl) ?_
  refine EL.ret ?_
  refine thenL_ret ?_
  refine ⟨.inr rfl, .v (.bool true), by kernel_rfl, Ale.of_eq ?_⟩
  focus ((refine congrArg (fun b => AV.v (Value.bool b)) ?_; first | rfl | (have hkn : (k : Int) = n := (by omega); have he := even_law (n := k) (w := weight) (by omega) (by omega); rw [hkn, ← ho] at he; obtain ⟨e1, e2, e3, e4⟩ := he; first | (exfalso; omega) | (simp; omega))))
  rw [h2]
  have g2 : ¬ (n > 12) := of_decide_eq_false h2
  refine OW.run 4 (x' := ⟨(24, .v (.bool (decide (weight < 1)))) :: (23, .v (.bool (decide (weight < 1)))) :: (22, .v (.bool (decide (weight < 1)))) :: (qeq4 weight n), []⟩) (by kernel_rfl) ?_
  rcases Bool.eq_false_or_eq_true (decide (weight < 1)) with h3 | h3
  rw [h3]
  have g3 : (weight < 1) := of_decide_eq_true h3
  refine OW.last 3 [0, 1, 27] (x' := ⟨(qeq2 n weight), []⟩) (by kernel_rfl) (by kernel_rfl) ?_
  refine EL.condT (by kernel_rfl) ?_
  refine EL.sreg ?_
  refine OW.last 1 [4] (x' := ⟨[(4, .v (.bool true))], []⟩) (by kernel_rfl) (by kernel_rfl) ?_
  refine EL.ret ?_
  refine thenL_ret ?_
  refine ⟨.inr rfl, .v (.bool true), by kernel_rfl, Ale.of_eq ?_⟩
  focus ((refine congrArg (fun b => AV.v (Value.bool b)) ?_; first | rfl | (have hkn : (k : Int) = n := (by omega); have he := even_law (n := k) (w := weight) (by omega) (by omega); rw [hkn, ← ho] at he; obtain ⟨e1, e2, e3, e4⟩ := he; first | (exfalso; omega) | (simp; omega))))
  rw [h3]
  have g3 : ¬ (weight < 1) := of_decide_eq_false h3
  refine OW.last 3 [0, 1, 27] (x' := ⟨[(27, .v (.bool (decide (weight > 100)))), (0, VI n), (1, VI weight)], []⟩) (by kernel_rfl) (by kernel_rfl) ?_
  rcases Bool.eq_false_or_eq_true (decide (weight > 100)) with h4 | h4
  rw [h4]
  have g4 : (weight > 100) := of_decide_eq_true h4
  refine EL.condT (by kernel_rfl) ?_
  refine EL.sreg ?_
  refine OW.last 1 [4] (x' := ⟨[(4, .v (.bool true))], []⟩) (by kernel_rfl) (by kernel_rfl) ?_
  refine EL.ret ?_
  refine thenL_ret ?_
  refine ⟨.inr rfl, .v (.bool true), by kernel_rfl, Ale.of_eq ?_⟩
  focus ((refine congrArg (fun b => AV.v (Value.bool b)) ?_; first | rfl | (have hkn : (k : Int) = n := (by omega); have he := even_law (n := k) (w := weight) (by omega) (by omega); rw [hkn, ← ho] at he; obtain ⟨e1, e2, e3, e4⟩ := he; first | (exfalso; omega) | (simp; omega))))
  rw [h4]
  have g4 : ¬ (weight > 100) := of_decide_eq_false h4
  refine EL.condF (by kernel_rfl) ?_
  refine EL.skip ?_
  refine thenL_norm ?_
  refine EL.sreg ?_
  refine OW.last 1 [0, 1, 5] (x' := ⟨[(5, .emp), (0, VI n), (1, VI weight)], []⟩) (by kernel_rfl) (by kernel_rfl) ?_
  refine EL.seq ?_
  refine EL.sreg ?_
  refine OW.last 1 [0, 1, 5, 6] (x' := ⟨(qeq5 n weight), []⟩) (by kernel_rfl) (by kernel_rfl) ?_
  refine EL.block ?_
  refine EL.loopN (fun mM xX => ∃ (k : Nat) (out : List Int), mM = n.toNat - k ∧ ((k : Int) ≤ n ∧ out = List.replicate k weight) ∧ xX = ⟨(qeq6 n weight out k), [some ⟨1, (out.map cI)⟩]⟩) (y := (fun (k : Nat) (out : List Int) => (⟨(qeq6 n weight out k), [some ⟨1, (out.map cI)⟩]⟩ : L3)) 0 []) [0, 1, 5, 6] [.new 1] [(5, 0)] (by kernel_rfl) trivial ⟨0, [], rfl, by exact ⟨by omega, rfl⟩, rfl⟩ ?_
  rintro _ _ ⟨k, out, rfl, hI5, rfl⟩
  obtain ⟨hk, ho⟩ := hI5
  have hp1 : 0 ≤ n * weight := Int.mul_nonneg (by omega) (by omega)
  have hp2 : n * weight ≤ 12 * 100 := Int.mul_le_mul (by omega) (by omega) (by omega) (by omega)
  refine EL.seq ?_
  refine EL.sreg ?_
  refine OW.last 3 [0, 1, 5, 6, 30] (x' := ⟨(30, .v (.bool (decide ((k : Int) < n)))) :: (qeq6 n weight out k), [some ⟨1, (out.map cI)⟩]⟩) (by kernel_rfl) (by kernel_rfl) ?_
  rcases Bool.eq_false_or_eq_true (decide ((k : Int) < n)) with h6 | h6
  rw [h6]
  have g6 : ((k : Int) < n) := of_decide_eq_true h6
  refine EL.condT (by kernel_rfl) ?_
  refine EL.skip ?_
  refine thenL_norm ?_
  refine EL.seq ?_
  refine EL.block ?_
  refine EL.reg0 ?_
  refine OW.run 3 (x' := ⟨(qeq7 weight out n k), [some ⟨1, (out.map cI)⟩, some ⟨1, [[VI weight]]⟩]⟩) (by kernel_rfl) ?_
  refine OW.ope (v := .own 2 1 0 (List.length (out ++ ([weight])))) (u := [(0, none), (2, some ⟨1, ((out ++ ([weight])).map cI)⟩)]) (acc := [1, 0]) (x' := ⟨(qeq9 out weight n k), (qeq8 weight out)⟩) (by kernel_rfl) (opE_appO cI out ([weight]) (.s 33) (.s 35) 1 8 0 (.own 1 1 0 1) _ (by kernel_rfl) (by kernel_rfl) rfl (by kernel_rfl) rfl (.own (els := [[VI weight]]) (by kernel_rfl) (by kernel_rfl) (of_decide_eq_true (by kernel_rfl))) (by rw [ho]; simp; omega)) (by kernel_rfl) ?_
  refine OW.end 1 (x' := ⟨(qeq10 out weight n k), (qeq8 weight out)⟩) (by kernel_rfl) (by kernel_rfl) ?_
  refine inBlk_norm ?_
  refine thenL_norm ?_
  refine EL.reg0 ?_
  refine OW.run 3 (x' := ⟨(6, VI (IntKind.i64.wrap ((k : Int) + 1))) :: (32, VI (IntKind.i64.wrap ((k : Int) + 1))) :: (qeq11 k out weight n), (qeq8 weight out)⟩) (by kernel_rfl) ?_
  have e7 : IntKind.i64.wrap ((k : Int) + 1) = (k : Int) + 1 := wr64 (by omega)
  rw [e7]
  refine OW.end 0 (x' := ⟨(qeq12 k out weight n), (qeq8 weight out)⟩) (by kernel_rfl) (by kernel_rfl) ?_
  refine thenL_norm ?_
  refine round_end (live := [0, 1, 5, 6]) (src := [.old 2 true]) (es := []) (y := (fun (k : Nat) (out : List Int) => (⟨(qeq6 n weight out k), [some ⟨1, (out.map cI)⟩]⟩ : L3)) (k + 1) (out ++ ([weight]))) ?_ ⟨pucI (out ++ ([weight])) (by kernel_rfl), trivial⟩ ?_ ⟨(k + 1), (out ++ ([weight])), rfl, ?_, rfl⟩
  kernel_rfl
  omega
  focus ((refine ⟨by omega, ?_⟩; rw [ho, List.replicate_succ']))
  rw [h6]
  have g6 : ¬ ((k : Int) < n) := of_decide_eq_false h6
  refine EL.condF (by kernel_rfl) ?_
  refine EL.exit ?_
  refine thenL_exit ?_
  refine thenL_exit ?_
  refine inBlk_hit ?_
  refine thenL_norm ?_
  refine EL.sreg ?_
  refine OW.run 6 (x' := ⟨(7, VI (IntKind.i64.wrap ((IntKind.i64.wrap ((IntKind.i64.wrap (n * weight)).tdiv 2)) + 1))) :: (41, VI (IntKind.i64.wrap ((IntKind.i64.wrap ((IntKind.i64.wrap (n * weight)).tdiv 2)) + 1))) :: (40, VI (IntKind.i64.wrap ((IntKind.i64.wrap (n * weight)).tdiv 2))) :: (39, VI (IntKind.i64.wrap (n * weight))) :: (qeq13 weight n out k), [some ⟨1, (out.map cI)⟩]⟩) (by kernel_rfl) ?_
  have e8 : IntKind.i64.wrap (n * weight) = n * weight := wr64 (by omega)
  rw [e8]
  have e9 : IntKind.i64.wrap ((n * weight).tdiv 2) = (n * weight) / 2 := quo64 (by omega)
  rw [e9]
  have e10 : IntKind.i64.wrap (((n * weight) / 2) + 1) = ((n * weight) / 2) + 1 := wr64 (by omega)
  rw [e10]
  refine OW.last 0 [0, 5, 7] (x' := ⟨(qeq14 n weight out), [some ⟨1, (out.map cI)⟩]⟩) (by kernel_rfl) (by kernel_rfl) ?_
  refine EL.sreg ?_
  refine OW.run 2 (x' := ⟨(qeq15 n weight out), [some ⟨1, (out.map cI)⟩]⟩) (by kernel_rfl) ?_
  refine OW.fn (ar := [.own 0 1 0 (List.length out), VI (((n * weight) / 2) + 1)]) (x' := ⟨(qeq16 out n weight), [some ⟨1, (out.map cI)⟩]⟩) (by kernel_rfl) (by kernel_rfl) F11_call (least_fn out (((n * weight) / 2) + 1) (by rw [ho]; simp; omega)) (snapAs_cons (snapA_map cI out (by kernel_rfl) (by intro y; kernel_rfl) (by simp)) (snapAs_cons (by kernel_rfl) (snapAs_nil))) (by kernel_rfl) ?_
  refine OW.last 5 [0, 5, 7, 8, 9] (x' := ⟨(qeq17 out n weight), [some ⟨1, (out.map cI)⟩]⟩) (by kernel_rfl) (by kernel_rfl) ?_
  refine EL.sreg ?_
  refine OW.run 2 (x' := ⟨(qeq18 n weight out), [some ⟨1, (out.map cI)⟩]⟩) (by kernel_rfl) ?_
  refine OW.fn (ar := [.own 0 1 0 (List.length out), VI (((n * weight) / 2) + 1)]) (x' := ⟨(qeq19 out n weight), [some ⟨1, (out.map cI)⟩]⟩) (by kernel_rfl) (by kernel_rfl) F12_call (spare_fn out (((n * weight) / 2) + 1) (by rw [ho]; simp; omega)) (snapAs_cons (snapA_map cI out (by kernel_rfl) (by intro y; kernel_rfl) (by simp)) (snapAs_cons (by kernel_rfl) (snapAs_nil))) (by kernel_rfl) ?_
  refine OW.last 5 [0, 8, 9, 10, 11] (x' := ⟨(qeq20 out n weight), [some ⟨1, (out.map cI)⟩]⟩) (by kernel_rfl) (by kernel_rfl) ?_
  refine EL.sreg ?_
  refine OW.run 3 (x' := ⟨(56, .v (.bool (((leastP out (((n * weight) / 2) + 1)).2) == 0))) :: (55, .v (.bool (((leastP out (((n * weight) / 2) + 1)).2) == 0))) :: (qeq21 out n weight), [some ⟨1, (out.map cI)⟩]⟩) (by kernel_rfl) ?_
  rcases Bool.eq_false_or_eq_true ((((leastP out (((n * weight) / 2) + 1)).2) == 0)) with h11 | h11
  rw [h11]
  have g11 : (((leastP out (((n * weight) / 2) + 1)).2) = 0) := by simpa using h11
  refine OW.run 4 (x' := ⟨(60, .v (.bool (((spareP out (((n * weight) / 2) + 1)).2) == 0))) :: (59, .v (.bool (((spareP out (((n * weight) / 2) + 1)).2) == 0))) :: (58, .v (.bool (((spareP out (((n * weight) / 2) + 1)).2) == 0))) :: (qeq22 out n weight), [some ⟨1, (out.map cI)⟩]⟩) (by kernel_rfl) ?_
  rcases Bool.eq_false_or_eq_true ((((spareP out (((n * weight) / 2) + 1)).2) == 0)) with h12 | h12
  rw [h12]
  have g12 : (((spareP out (((n * weight) / 2) + 1)).2) = 0) := by simpa using h12
  refine OW.run 7 (x' := ⟨(67, .v (.bool (((leastP out (((n * weight) / 2) + 1)).1) == IntKind.i64.wrap ((IntKind.i64.wrap ((n).tdiv 2)) + 1)))) :: (66, .v (.bool (((leastP out (((n * weight) / 2) + 1)).1) == IntKind.i64.wrap ((IntKind.i64.wrap ((n).tdiv 2)) + 1)))) :: (65, .v (.bool (((leastP out (((n * weight) / 2) + 1)).1) == IntKind.i64.wrap ((IntKind.i64.wrap ((n).tdiv 2)) + 1)))) :: (64, VI (IntKind.i64.wrap ((IntKind.i64.wrap ((n).tdiv 2)) + 1))) :: (63, VI (IntKind.i64.wrap ((n).tdiv 2))) :: (qeq23 n out weight), [some ⟨1, (out.map cI)⟩]⟩) (by kernel_rfl) ?_
  have e13 : IntKind.i64.wrap ((n).tdiv 2) = n / 2 := quo64 (by omega)
  rw [e13]
  have e14 : IntKind.i64.wrap ((n / 2) + 1) = (n / 2) + 1 := wr64 (by omega)
  rw [e14]
  rcases Bool.eq_false_or_eq_true ((((leastP out (((n * weight) / 2) + 1)).1) == ((n / 2) + 1))) with h15 | h15
  rw [h15]
  have g15 : (((leastP out (((n * weight) / 2) + 1)).1) = ((n / 2) + 1)) := by simpa using h15
  refine OW.run 7 (x' := ⟨(4, .v (.bool (((spareP out (((n * weight) / 2) + 1)).1) == IntKind.i64.wrap (n - ((leastP out (((n * weight) / 2) + 1)).1))))) :: (73, .v (.bool (((spareP out (((n * weight) / 2) + 1)).1) == IntKind.i64.wrap (n - ((leastP out (((n * weight) / 2) + 1)).1))))) :: (72, .v (.bool (((spareP out (((n * weight) / 2) + 1)).1) == IntKind.i64.wrap (n - ((leastP out (((n * weight) / 2) + 1)).1))))) :: (71, VI (IntKind.i64.wrap (n - ((leastP out (((n * weight) / 2) + 1)).1)))) :: (qeq24 out n weight), [some ⟨1, (out.map cI)⟩]⟩) (by kernel_rfl) ?_
  have e16 : IntKind.i64.wrap (n - ((leastP out (((n * weight) / 2) + 1)).1)) = n - ((leastP out (((n * weight) / 2) + 1)).1) := wr64 (by have hkn : (k : Int) = n := (by omega); have he := even_law (n := k) (w := weight) (by omega) (by omega); rw [hkn, ← ho] at he; omega)
  rw [e16]
  refine OW.last 0 [4] (x' := ⟨[(4, .v (.bool (((spareP out (((n * weight) / 2) + 1)).1) == (n - ((leastP out (((n * weight) / 2) + 1)).1)))))], [some ⟨1, (out.map cI)⟩]⟩) (by kernel_rfl) (by kernel_rfl) ?_
  refine EL.ret ?_
  refine ⟨.inr rfl, .v (.bool (((spareP out (((n * weight) / 2) + 1)).1) == (n - ((leastP out (((n * weight) / 2) + 1)).1)))), by kernel_rfl, Ale.of_eq ?_⟩
  focus ((refine congrArg (fun b => AV.v (Value.bool b)) ?_; first | rfl | (have hkn : (k : Int) = n := (by omega); have he := even_law (n := k) (w := weight) (by omega) (by omega); rw [hkn, ← ho] at he; obtain ⟨e1, e2, e3, e4⟩ := he; first | (exfalso; omega) | (simp; omega))))
  rw [h15]
  have g15 : ¬ (((leastP out (((n * weight) / 2) + 1)).1) = ((n / 2) + 1)) := by simpa using h15
  refine OW.last 7 [4] (x' := ⟨[(4, .v (.bool false))], [some ⟨1, (out.map cI)⟩]⟩) (by kernel_rfl) (by kernel_rfl) ?_
  refine EL.ret ?_
  refine ⟨.inr rfl, .v (.bool false), by kernel_rfl, Ale.of_eq ?_⟩
  focus ((refine congrArg (fun b => AV.v (Value.bool b)) ?_; first | rfl | (have hkn : (k : Int) = n := (by omega); have he := even_law (n := k) (w := weight) (by omega) (by omega); rw [hkn, ← ho] at he; obtain ⟨e1, e2, e3, e4⟩ := he; first | (exfalso; omega) | (simp; omega))))
  rw [h12]
  have g12 : ¬ (((spareP out (((n * weight) / 2) + 1)).2) = 0) := by simpa using h12
  refine OW.last 14 [4] (x' := ⟨[(4, .v (.bool false))], [some ⟨1, (out.map cI)⟩]⟩) (by kernel_rfl) (by kernel_rfl) ?_
  refine EL.ret ?_
  refine ⟨.inr rfl, .v (.bool false), by kernel_rfl, Ale.of_eq ?_⟩
  focus ((refine congrArg (fun b => AV.v (Value.bool b)) ?_; first | rfl | (have hkn : (k : Int) = n := (by omega); have he := even_law (n := k) (w := weight) (by omega) (by omega); rw [hkn, ← ho] at he; obtain ⟨e1, e2, e3, e4⟩ := he; first | (exfalso; omega) | (simp; omega))))
  rw [h11]
  have g11 : ¬ (((leastP out (((n * weight) / 2) + 1)).2) = 0) := by simpa using h11
  refine OW.last 18 [4] (x' := ⟨[(4, .v (.bool false))], [some ⟨1, (out.map cI)⟩]⟩) (by kernel_rfl) (by kernel_rfl) ?_
  refine EL.ret ?_
  refine ⟨.inr rfl, .v (.bool false), by kernel_rfl, Ale.of_eq ?_⟩
  focus ((refine congrArg (fun b => AV.v (Value.bool b)) ?_; first | rfl | (have hkn : (k : Int) = n := (by omega); have he := even_law (n := k) (w := weight) (by omega) (by omega); rw [hkn, ← ho] at he; obtain ⟨e1, e2, e3, e4⟩ := he; first | (exfalso; omega) | (simp; omega))))
theorem QuorumEven_walk {w : World} (hG : GlE (E0 w fun b => b < w.heap.size)) (n : Int) (_wn : (Lit.int .i64 n).wf = true) (weight : Int) (_wweight : (Lit.int .i64 weight).wf = true) : Calls Tryd.prog 7 #[I n, I weight] w fun e w' => e = .returned (.bool true) ∧ Below w.heap.size w w' := by
  exact fn_law (vs := [I n, I weight]) (quorumEven_fn n weight ) hG (.cons (.v rfl) (.cons (.v rfl) (.nil)))
theorem QuorumEven_own : ownKnob Tryd.prog.godebug = none := by kernel_rfl
theorem QuorumEven_laidOut : laidOutB Tryd.prog = true := by kernel_rfl
set_option maxRecDepth 100000 in
set_option linter.unusedVariables false in
theorem QuorumEven_lifted (os : Os) (started : os.Started) (H : Type) (enc : TypeId × Value → H) :
    ReturnsInHanded {} Tryd.checked os 7 .any (fun w args => (Rows.quorumEvenSpec.pre enc Tryd.prog Tryd.f7 [] false w args ∧ laidMetH Tryd.prog Rows.quorumEvenRow.laid w) ∧ sizedMet enc Tryd.prog Tryd.f7 (OpenSpec.ofChange Rows.quorumEvenSpec) false w args)
      (Rows.quorumEvenSpec.post enc Tryd.prog Tryd.f7 false true false false) := by
  refine returnsInHanded_of_change_and (C := Tryd.checked) (X := fun w _ => laidMetH Tryd.prog Rows.quorumEvenRow.laid w) (fun _ _ _ hh h => h.of_heap hh) QuorumEven_own started (by kernel_rfl) Tryd.func7
    (ChangeSpec.witness_shaped (enc := enc) (C := Tryd.checked) (os := os) (X := fun w _ => laidMetH Tryd.prog Rows.quorumEvenRow.laid w) false (World.doorLaid Tryd.prog 14 os) #[.int .i64 0, .int .i64 0] 8 rfl (World.shaped_of_RefB (by kernel_rfl) (by kernel_rfl)) (by kernel_rfl) (by kernel_rfl) (by kernel_rfl) (laidMetH_of_parts3 (fuel := 8) (laidMet_of_run' 8 (by kernel_rfl) (by kernel_rfl)) (by kernel_rfl) (by kernel_rfl))) ?_
  intro W base args ds gs before hval0 hW _ _ hL _
  have hval : ∀ (j : Nat) t v, Tryd.f7.params[j]? = some t → args[j]? = some v → Value.okWide Tryd.prog W .any base t v := hval0
  have hW' := hW
  obtain ⟨p, q, hA0, hV, rfl, hfz, hnd⟩ := hW
  have hA : DataW.TrodAll enc Tryd.prog W 0 (fun _ => true) true Tryd.f7.params.toList args.toList ds p := hA0
  rw [Tryd.params7] at hA hval
  obtain ⟨v0, vs0, d0, ds0, p0, q0, hargs, rfl, rfl, h0, r0⟩ := trodAll_cons hA
  obtain ⟨v1, vs1, d1, ds1, p1, q1, rfl, rfl, rfl, h1, r1⟩ := trodAll_cons r0
  obtain ⟨rfl, rfl, rfl⟩ := trodAll_nil r1
  obtain rfl : args = #[v0, v1] := by cases args; simp_all
  obtain ⟨rfl, rfl⟩ := trodVars_none hV
  have k0 := h0
  have lt0 : ∀ x ∈ p0, x.block < W.heap.size := by obtain ⟨m, hm⟩ := k0; exact DataW.trod_lt m _ _ _ hm
  obtain ⟨a0, rfl, e0, e0', w0⟩ := open_int Tryd.underlying3 (hval 0 3 v0 rfl rfl) h0
  have k1 := h1
  have lt1 : ∀ x ∈ p1, x.block < W.heap.size := by obtain ⟨m, hm⟩ := k1; exact DataW.trod_lt m _ _ _ hm
  obtain ⟨a1, rfl, e1, e1', w1⟩ := open_int Tryd.underlying3 (hval 1 3 v1 rfl rfl) h1
  clear hA0 hval0
  refine (QuorumEven_walk (w := W) (glE_of hL) a0 w0 a1 w1).mono fun e W' ⟨he, bel⟩ => ?_
  subst he
  exact ⟨_, rfl, _, _, _, [], _, [], hW', trodAll_mk1 (shut_bool Tryd.underlying4 _), (trodAll_cons_mk (Below.trod QuorumEven_laidOut (by kernel_rfl) (of_decide_eq_true (by kernel_rfl)) k0 bel lt0) (trodAll_cons_mk (Below.trod QuorumEven_laidOut (by kernel_rfl) (of_decide_eq_true (by kernel_rfl)) k1 bel lt1) trodAll_mk0)), rfl, bel.frame _, fun h => by cases h⟩
set_option maxRecDepth 100000 in
set_option maxHeartbeats 4000000 in
theorem QuorumEven_row : Rows.QuorumEvenSaid :=
  OpenClaim.holds_of_wide 7 Tryd.f7 rfl rfl rfl rfl rfl rfl rfl ⟨rfl, rfl, rfl, rfl, rfl⟩ rfl rfl rfl rfl rfl (by kernel_rfl) Tryd.func7 (by kernel_rfl)
    (of_decide_eq_true (by kernel_rfl)) (by unfold Func.isWrapper; first | (rw [if_pos (by decide +kernel)]; kernel_rfl) | (rw [if_neg (by decide +kernel)]; exact ⟨rfl, rfl⟩))
    (fun os started H enc _ => QuorumEven_lifted os started H enc)
set_option maxRecDepth 100000 in
set_option maxHeartbeats 4000000 in
theorem QuorumEven_holds : Rows.QuorumEvenCardSaid :=
  Claim7.holds_tied_plain_at .later [] [.data] true (true, "4e0091b368fd50dbe6aea04a975ad067ec1fbf576cf131f96a83b4fbf0e1ad13") false
    QuorumEven_row (fun _ h => by cases h) (by kernel_rfl) (fun _ h => by cases h) quorumEven_row_tie rfl ⟨rfl, rfl⟩ (by kernel_rfl) rfl
    (fun f fn hf hfn => by
      obtain rfl : f = 7 := Option.some.inj ((show Tryd.prog.funcNamed "supercargo/supercargolaw.QuorumEven" = some 7 by kernel_rfl).symm.trans hf) |>.symm
      obtain rfl : fn = Tryd.f7 := (Option.some.inj (Tryd.func7.symm.trans hfn)).symm
      exact ⟨by kernel_rfl, fun j t ht => by
        rw [Tryd.params7] at ht
        have hm : t ∈ [3, 3] := by simpa using Array.mem_of_getElem? ht
        have hall : ([3, 3].all fun u => !Tryd.prog.wantsStandIn u) = true := by kernel_rfl
        exact (show Tryd.prog.wantsStandIn t = false by simpa using List.all_eq_true.1 hall t hm)⟩)
    (by kernel_rfl)
end Go.Proofs.YtfgjfghljhldfaaDoor
