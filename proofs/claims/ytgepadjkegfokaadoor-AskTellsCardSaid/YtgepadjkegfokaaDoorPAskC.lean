/- What Hear and Serve of package ask answer. No condition. -/
import Derived.Test.YtgepadjkegfokaaDoorPAskB
import Derived.Test.YtgepadjkegfokaaDoorPAvFix
set_option maxRecDepth 100000
set_option maxHeartbeats 4000000
set_option linter.unusedVariables false
set_option linter.unusedSimpArgs false
namespace Go.Proofs.YtgepadjkegfokaaDoor
/-- The next timestamp. -/
def nextP (s : Stamp) (who : Int) : Stamp × Int := if s.okS ∧ (0 ≤ who ∧ who ≤ 31) ∧ ¬ s.time = 1000000 then (⟨s.time + 1, who⟩, 0) else (⟨0, 0⟩, 3)
def max2 (a b : Stamp) : Stamp := if b.cmp a > 0 then b else a
def max1 (s : Stamp) : Stamp := if s.okS then s else ⟨0, 0⟩
theorem sck {s : Stamp} : s.checkE = 0 ↔ s.okS := by unfold Stamp.checkE; split <;> simp_all
theorem max2_zero {s : Stamp} (h : s.okS) : max2 ⟨0, 0⟩ s = s := by
  unfold max2 Stamp.cmp cmpP
  unfold Stamp.okS at h
  obtain ⟨t, w⟩ := s
  dsimp only at *
  (repeat' split) <;> first | rfl | (exfalso; omega) | (rw [Stamp.mk.injEq]; omega)
abbrev acq0 (a : Stamp) (b : Stamp) : LS := [(4, .ref 0 2 0 0), (0, .lst 2 [[VI a.time, VI a.who], [VI b.time, VI b.who]]), (1, .fn 40 [])]
abbrev acq1 (a : Stamp) : LB := [some ⟨2, [[VI 0, VI 0]]⟩, some ⟨2, [[VI a.time, VI a.who]]⟩]
abbrev acq2 (a : Stamp) (b : Stamp) : LS := (17, .v (.bool true)) :: (6, VI 1) :: (5, .ref 1 2 0 0) :: (acq0 a b)
abbrev acq3 (a : Stamp) (b : Stamp) : LS := (25, .agg [VI a.time, VI a.who]) :: (24, .agg [VI b.time, VI b.who]) :: (23, .pim [VI b.time, VI b.who] 0) :: (22, VI 1) :: (21, .lst 2 [[VI a.time, VI a.who], [VI b.time, VI b.who]]) :: (20, .fn 40 []) :: (acq2 a b)
abbrev acq4 (b : Stamp) : LB := [some ⟨2, [[VI 0, VI 0]]⟩, some ⟨2, [[VI b.time, VI b.who]]⟩]
abbrev acq5 (b : Stamp) (a : Stamp) : LS := (31, .agg [VI b.time, VI b.who]) :: (30, .pim [VI b.time, VI b.who] 0) :: (29, VI 1) :: (28, .lst 2 [[VI a.time, VI a.who], [VI b.time, VI b.who]]) :: (27, .v (.bool true)) :: (6, VI 1) :: (5, .ref 1 2 0 0) :: (acq0 a b)
abbrev acq6 (b : Stamp) (a : Stamp) : LS := (6, VI 2) :: (19, VI 2) :: (18, VI 1) :: (31, .agg [VI b.time, VI b.who]) :: (30, .pim [VI b.time, VI b.who] 0) :: (29, VI 1) :: (28, .lst 2 [[VI a.time, VI a.who], [VI b.time, VI b.who]]) :: (27, .v (.bool true)) :: (5, .ref 1 2 0 0) :: (acq0 a b)
abbrev acq7 (a : Stamp) (b : Stamp) : LS := (17, .v (.bool false)) :: (6, VI 2) :: (5, .ref 1 2 0 0) :: (acq0 a b)
abbrev acq8 (b : Stamp) : LB := [some ⟨2, [[VI b.time, VI b.who]]⟩, some ⟨2, [[VI b.time, VI b.who]]⟩]
abbrev acq9 (a : Stamp) (b : Stamp) : LS := (6, VI 2) :: (19, VI 2) :: (18, VI 1) :: (27, .v (.bool false)) :: (5, .ref 1 2 0 0) :: (acq0 a b)
abbrev acq10 (a : Stamp) : LB := [some ⟨2, [[VI a.time, VI a.who]]⟩, some ⟨2, [[VI a.time, VI a.who]]⟩]
theorem max2_fn (a : Stamp) (b : Stamp) : Fn Tryd.prog 60 [.lst 2 [[VI a.time, VI a.who], [VI b.time, VI b.who]], .fn 40 []] (.agg [VI ((max2 a b).time), VI ((max2 a b).who)]) := by
  refine fn_walkW F60_ok (of_decide_eq_true (by kernel_rfl)) ?_
  refine EL.sreg ?_
  refine OW.last 1 [0, 1, 4] (x' := ⟨(acq0 a b), [some ⟨2, [[VI 0, VI 0]]⟩]⟩) (by kernel_rfl) (by kernel_rfl) ?_
  refine EL.seq ?_
  refine EL.sreg ?_
  refine OW.last 3 [0, 1, 4, 9] (x' := ⟨(9, .v (.bool false)) :: (acq0 a b), [some ⟨2, [[VI 0, VI 0]]⟩]⟩) (by kernel_rfl) (by kernel_rfl) ?_
  refine EL.condF (by kernel_rfl) ?_
  refine EL.skip ?_
  refine thenL_norm ?_
  refine EL.sreg ?_
  refine OW.last 5 [0, 1, 4, 5] (x' := ⟨(5, .ref 1 2 0 0) :: (acq0 a b), (acq1 a)⟩) (by kernel_rfl) (by kernel_rfl) ?_
  refine EL.seq ?_
  refine EL.sreg ?_
  refine OW.last 1 [0, 1, 4, 5, 6] (x' := ⟨(6, VI 1) :: (5, .ref 1 2 0 0) :: (acq0 a b), (acq1 a)⟩) (by kernel_rfl) (by kernel_rfl) ?_
  refine EL.block ?_
  refine EL.unroll 3 ?_
  refine JU.step ?_
  refine EL.seq ?_
  refine EL.sreg ?_
  refine OW.last 4 [0, 1, 4, 5, 6, 17] (x' := ⟨(acq2 a b), (acq1 a)⟩) (by kernel_rfl) (by kernel_rfl) ?_
  refine EL.condT (by kernel_rfl) ?_
  refine EL.skip ?_
  refine thenL_norm ?_
  refine EL.seq ?_
  refine EL.block ?_
  refine EL.sdraw ?_
  refine DW.run 6 (x' := ⟨(acq3 a b), (acq1 a)⟩) (by kernel_rfl) ?_
  refine DW.fn (ar := [.agg [VI b.time, VI b.who], .agg [VI a.time, VI a.who]]) (x' := ⟨(26, VI (b.cmp a)) :: (acq3 a b), (acq1 a)⟩) (by kernel_rfl) (by kernel_rfl) F40_call (compare_fn b a) (by kernel_rfl) (by kernel_rfl) ?_
  refine DW.last 1 [0, 1, 4, 5, 6, 27] (x' := ⟨(27, .v (.bool (decide ((b.cmp a) > 0)))) :: (6, VI 1) :: (5, .ref 1 2 0 0) :: (acq0 a b), (acq1 a)⟩) (by kernel_rfl) (by kernel_rfl) ?_
  rcases Bool.eq_false_or_eq_true (decide ((b.cmp a) > 0)) with h1 | h1
  rw [h1]
  have g1 : ((b.cmp a) > 0) := of_decide_eq_true h1
  refine EL.condT (by kernel_rfl) ?_
  refine EL.reg0 ?_
  refine OW.end 5 (x' := ⟨(acq5 b a), (acq4 b)⟩) (by kernel_rfl) (by kernel_rfl) ?_
  refine inBlk_norm ?_
  refine thenL_norm ?_
  refine EL.reg0 ?_
  refine OW.end 3 (x' := ⟨(acq6 b a), (acq4 b)⟩) (by kernel_rfl) (by kernel_rfl) ?_
  refine thenL_norm ?_
  refine JU.step ?_
  refine EL.seq ?_
  refine EL.sreg ?_
  refine OW.last 4 [0, 1, 4, 5, 6, 17] (x' := ⟨(acq7 a b), (acq4 b)⟩) (by kernel_rfl) (by kernel_rfl) ?_
  refine EL.condF (by kernel_rfl) ?_
  refine EL.exit ?_
  refine thenL_exit ?_
  refine thenL_exit ?_
  refine inBlk_hit ?_
  refine thenL_norm ?_
  refine EL.sreg ?_
  refine OW.last 2 [4] (x' := ⟨[(4, .ref 0 2 0 0)], (acq8 b)⟩) (by kernel_rfl) (by kernel_rfl) ?_
  refine EL.ret ?_
  refine ⟨.inr rfl, .agg [VI b.time, VI b.who], by kernel_rfl, Ale.of_eq ?_⟩
  focus (first | rfl | (simp [max2, *]; done))
  rw [h1]
  have g1 : ¬ ((b.cmp a) > 0) := of_decide_eq_false h1
  refine EL.condF (by kernel_rfl) ?_
  refine EL.skip ?_
  refine inBlk_norm ?_
  refine thenL_norm ?_
  refine EL.reg0 ?_
  refine OW.end 3 (x' := ⟨(acq9 a b), (acq1 a)⟩) (by kernel_rfl) (by kernel_rfl) ?_
  refine thenL_norm ?_
  refine JU.step ?_
  refine EL.seq ?_
  refine EL.sreg ?_
  refine OW.last 4 [0, 1, 4, 5, 6, 17] (x' := ⟨(acq7 a b), (acq1 a)⟩) (by kernel_rfl) (by kernel_rfl) ?_
  refine EL.condF (by kernel_rfl) ?_
  refine EL.exit ?_
  refine thenL_exit ?_
  refine thenL_exit ?_
  refine inBlk_hit ?_
  refine thenL_norm ?_
  refine EL.sreg ?_
  refine OW.last 2 [4] (x' := ⟨[(4, .ref 0 2 0 0)], (acq10 a)⟩) (by kernel_rfl) (by kernel_rfl) ?_
  refine EL.ret ?_
  refine ⟨.inr rfl, .agg [VI a.time, VI a.who], by kernel_rfl, Ale.of_eq ?_⟩
  focus (first | rfl | (simp [max2, *]; done))
abbrev acq11 (s : Stamp) : LS := [(9, .v (.bool false)), (2, .ref 0 2 0 0), (0, .lst 2 [[VI s.time, VI s.who]])]
abbrev acq12 (s : Stamp) : LS := [(13, VI 0), (12, VI 1), (11, .lst 2 [[VI s.time, VI s.who]]), (2, .ref 0 2 0 0), (0, .lst 2 [[VI s.time, VI s.who]])]
abbrev acq13 (s : Stamp) : LB := [some ⟨2, [[VI 0, VI 0]]⟩, some ⟨2, [[VI s.time, VI s.who]]⟩]
abbrev acq14 (s : Stamp) : LS := (17, .agg [VI s.time, VI s.who]) :: (5, .ref 1 2 0 0) :: (acq12 s)
abbrev acq15 (s : Stamp) : LS := [(13, VI 1), (23, VI 1), (20, .v (.bool false)), (6, VI s.checkE), (12, VI 1), (11, .lst 2 [[VI s.time, VI s.who]]), (2, .ref 0 2 0 0), (0, .lst 2 [[VI s.time, VI s.who]])]
abbrev acq16 (s : Stamp) : LS := [(14, .v (.bool false)), (13, VI 1), (12, VI 1), (11, .lst 2 [[VI s.time, VI s.who]]), (2, .ref 0 2 0 0), (0, .lst 2 [[VI s.time, VI s.who]])]
abbrev acq17 (s : Stamp) : LB := [some ⟨2, [[VI 0, VI 0]]⟩, some ⟨2, [[VI s.time, VI s.who]]⟩, none, some ⟨2, [[VI 0, VI 0], [VI s.time, VI s.who]]⟩]
abbrev acq18 (s : Stamp) : LS := (27, .own 3 2 0 2) :: (26, .lst 2 [[VI s.time, VI s.who]]) :: (25, .own 2 2 0 1) :: (24, .agg [VI 0, VI 0]) :: (acq16 s)
abbrev acq19 (s : Stamp) : AV := .agg [VI ((max2 (⟨0, 0⟩ : Stamp) s).time), VI ((max2 (⟨0, 0⟩ : Stamp) s).who)]
abbrev acq20 (s : Stamp) : OB := some ⟨2, [[VI ((max2 (⟨0, 0⟩ : Stamp) s).time), VI ((max2 (⟨0, 0⟩ : Stamp) s).who)]]⟩
abbrev acq21 (s : Stamp) : LB := [(acq20 s), some ⟨2, [[VI s.time, VI s.who]]⟩, none, some ⟨2, [[VI 0, VI 0], [VI s.time, VI s.who]]⟩]
theorem max1_fn (s : Stamp) : Fn Tryd.prog 59 [.lst 2 [[VI s.time, VI s.who]]] (.tup [.agg [VI ((max1 s).time), VI ((max1 s).who)], VI s.checkE]) := by
  refine fn_walkW F59_ok (of_decide_eq_true (by kernel_rfl)) ?_
  refine EL.sreg ?_
  refine OW.last 2 [0, 2] (x' := ⟨[(2, .ref 0 2 0 0), (0, .lst 2 [[VI s.time, VI s.who]])], [some ⟨2, [[VI 0, VI 0]]⟩]⟩) (by kernel_rfl) (by kernel_rfl) ?_
  refine EL.seq ?_
  refine EL.sreg ?_
  refine OW.last 3 [0, 2, 9] (x' := ⟨(acq11 s), [some ⟨2, [[VI 0, VI 0]]⟩]⟩) (by kernel_rfl) (by kernel_rfl) ?_
  refine EL.condF (by kernel_rfl) ?_
  refine EL.skip ?_
  refine thenL_norm ?_
  refine EL.seq ?_
  refine EL.sreg ?_
  refine OW.last 3 [0, 2, 11, 12, 13] (x' := ⟨(acq12 s), [some ⟨2, [[VI 0, VI 0]]⟩]⟩) (by kernel_rfl) (by kernel_rfl) ?_
  refine EL.block ?_
  refine EL.unroll 3 ?_
  refine JU.step ?_
  refine EL.sreg ?_
  refine OW.last 1 [0, 2, 11, 12, 13, 14] (x' := ⟨(14, .v (.bool true)) :: (acq12 s), [some ⟨2, [[VI 0, VI 0]]⟩]⟩) (by kernel_rfl) (by kernel_rfl) ?_
  refine EL.seq ?_
  refine EL.condT (by kernel_rfl) ?_
  refine EL.skip ?_
  refine thenL_norm ?_
  refine EL.seq ?_
  refine EL.block ?_
  refine EL.sreg ?_
  refine OW.last 4 [0, 2, 5, 11, 12, 13] (x' := ⟨(5, .ref 1 2 0 0) :: (acq12 s), (acq13 s)⟩) (by kernel_rfl) (by kernel_rfl) ?_
  refine EL.sreg ?_
  refine OW.run 1 (x' := ⟨(acq14 s), (acq13 s)⟩) (by kernel_rfl) ?_
  refine OW.fn (ar := [.agg [VI s.time, VI s.who]]) (x' := ⟨(18, VI s.checkE) :: (acq14 s), (acq13 s)⟩) (by kernel_rfl) (by kernel_rfl) F50_call (scheck_fn s) (by kernel_rfl) (by kernel_rfl) ?_
  refine OW.last 1 [0, 2, 6, 11, 12, 13] (x' := ⟨(6, VI s.checkE) :: (acq12 s), (acq13 s)⟩) (by kernel_rfl) (by kernel_rfl) ?_
  refine EL.sreg ?_
  refine OW.last 2 [0, 2, 6, 11, 12, 13, 20] (x' := ⟨(20, .v (.bool (s.checkE != 0))) :: (6, VI s.checkE) :: (acq12 s), (acq13 s)⟩) (by kernel_rfl) (by kernel_rfl) ?_
  rcases Bool.eq_false_or_eq_true ((s.checkE != 0)) with h1 | h1
  rw [h1]
  have g1 : ¬ (s.checkE = 0) := by simpa using h1
  refine EL.condT (by kernel_rfl) ?_
  refine EL.sreg ?_
  refine OW.last 4 [2, 3] (x' := ⟨[(3, VI s.checkE), (2, .ref 0 2 0 0)], (acq13 s)⟩) (by kernel_rfl) (by kernel_rfl) ?_
  refine EL.ret ?_
  refine inBlk_ret ?_
  refine thenL_ret ?_
  refine thenL_ret ?_
  refine inBlk_ret ?_
  refine thenL_ret ?_
  refine ⟨.inr rfl, .tup [.agg [VI 0, VI 0], VI s.checkE], by kernel_rfl, Ale.of_eq ?_⟩
  focus (first | (have ho : s.okS := sck.1 (by assumption); simp [max2_zero ho, max1, Stamp.checkE, ho]; done) | (have ho : ¬ s.okS := (fun h => absurd (sck.2 h) (by assumption)); simp [max1, Stamp.checkE, ho]; done))
  rw [h1]
  have g1 : (s.checkE = 0) := by simpa using h1
  refine EL.condF (by kernel_rfl) ?_
  refine EL.skip ?_
  refine inBlk_norm ?_
  refine thenL_norm ?_
  refine EL.reg0 ?_
  refine OW.end 2 (x' := ⟨(acq15 s), (acq13 s)⟩) (by kernel_rfl) (by kernel_rfl) ?_
  refine thenL_norm ?_
  refine JU.step ?_
  refine EL.sreg ?_
  refine OW.last 1 [0, 2, 11, 12, 13, 14] (x' := ⟨(acq16 s), (acq13 s)⟩) (by kernel_rfl) (by kernel_rfl) ?_
  refine EL.seq ?_
  refine EL.condF (by kernel_rfl) ?_
  refine EL.exit ?_
  refine thenL_exit ?_
  refine thenL_exit ?_
  refine inBlk_hit ?_
  refine thenL_norm ?_
  refine EL.sreg ?_
  refine OW.run 4 (x' := ⟨(acq18 s), (acq17 s)⟩) (by kernel_rfl) ?_
  refine OW.fn (ar := [.own 3 2 0 2, .fn 40 []]) (x' := ⟨(28, (acq19 s)) :: (acq18 s), (acq17 s)⟩) (by kernel_rfl) (by kernel_rfl) F60_call (max2_fn (⟨0, 0⟩ : Stamp) s) (by kernel_rfl) (by kernel_rfl) ?_
  refine OW.last 2 [2, 3] (x' := ⟨[(3, VI 0), (2, .ref 0 2 0 0)], (acq21 s)⟩) (by kernel_rfl) (by kernel_rfl) ?_
  refine EL.ret ?_
  refine ⟨.inr rfl, .tup [.agg [VI ((max2 (⟨0, 0⟩ : Stamp) s).time), VI ((max2 (⟨0, 0⟩ : Stamp) s).who)], VI 0], by kernel_rfl, Ale.of_eq ?_⟩
  focus (first | (have ho : s.okS := sck.1 (by assumption); simp [max2_zero ho, max1, Stamp.checkE, ho]; done) | (have ho : ¬ s.okS := (fun h => absurd (sck.2 h) (by assumption)); simp [max1, Stamp.checkE, ho]; done))
abbrev acq22 (s : Stamp) (who : Int) : LS := [(4, .ref 0 2 0 0), (0, .lst 2 [[VI s.time, VI s.who]]), (1, VI who)]
abbrev acq23 (s : Stamp) (who : Int) : LS := (10, .tup [.agg [VI ((max1 s).time), VI ((max1 s).who)], VI s.checkE]) :: (9, .lst 2 [[VI s.time, VI s.who]]) :: (acq22 s who)
abbrev acq24 (s : Stamp) : LB := [some ⟨2, [[VI 0, VI 0]]⟩, some ⟨2, [[VI ((max1 s).time), VI ((max1 s).who)]]⟩]
abbrev acq25 (s : Stamp) (who : Int) : LS := [(7, VI s.checkE), (6, .ref 1 2 0 0), (4, .ref 0 2 0 0), (1, VI who)]
abbrev acq26 (who : Int) (s : Stamp) : LS := (16, VI who) :: (15, .v (.bool true)) :: (14, .v (.bool true)) :: (13, VI s.checkE) :: (acq25 s who)
abbrev acq27 (who : Int) : LS := [(7, VI 3), (24, .v (.bool true)), (6, .ref 1 2 0 0), (4, .ref 0 2 0 0), (1, VI who)]
abbrev acq28 (who : Int) : LS := [(26, .v (.bool true)), (7, VI 3), (6, .ref 1 2 0 0), (4, .ref 0 2 0 0), (1, VI who)]
abbrev acq29 (s : Stamp) (who : Int) : LS := (30, VI ((max1 s).time)) :: (29, .ref 1 2 0 0) :: (26, .v (.bool false)) :: (acq25 s who)
abbrev acq30 (s : Stamp) (who : Int) : LB := [some ⟨2, [[VI (((max1 s).time) + 1), VI who]]⟩, some ⟨2, [[VI ((max1 s).time), VI ((max1 s).who)]]⟩]
theorem next_fn (s : Stamp) (who : Int) : Fn Tryd.prog 56 [.lst 2 [[VI s.time, VI s.who]], VI who] (.tup [.agg [VI (((nextP s who).1).time), VI (((nextP s who).1).who)], VI ((nextP s who).2)]) := by
  refine fn_walkW F56_ok (of_decide_eq_true (by kernel_rfl)) ?_
  refine EL.sreg ?_
  refine OW.last 2 [0, 1, 4] (x' := ⟨(acq22 s who), [some ⟨2, [[VI 0, VI 0]]⟩]⟩) (by kernel_rfl) (by kernel_rfl) ?_
  refine EL.sreg ?_
  refine OW.run 1 (x' := ⟨(9, .lst 2 [[VI s.time, VI s.who]]) :: (acq22 s who), [some ⟨2, [[VI 0, VI 0]]⟩]⟩) (by kernel_rfl) ?_
  refine OW.fn (ar := [.lst 2 [[VI s.time, VI s.who]]]) (x' := ⟨(acq23 s who), [some ⟨2, [[VI 0, VI 0]]⟩]⟩) (by kernel_rfl) (by kernel_rfl) F59_call (max1_fn s) (by kernel_rfl) (by kernel_rfl) ?_
  refine OW.last 6 [1, 4, 6, 7] (x' := ⟨(acq25 s who), (acq24 s)⟩) (by kernel_rfl) (by kernel_rfl) ?_
  refine EL.seq ?_
  refine EL.sreg ?_
  refine OW.run 3 (x' := ⟨(15, .v (.bool (s.checkE == 0))) :: (14, .v (.bool (s.checkE == 0))) :: (13, VI s.checkE) :: (acq25 s who), (acq24 s)⟩) (by kernel_rfl) ?_
  rcases Bool.eq_false_or_eq_true ((s.checkE == 0)) with h1 | h1
  rw [h1]
  have g1 : (s.checkE = 0) := by simpa using h1
  refine OW.run 1 (x' := ⟨(acq26 who s), (acq24 s)⟩) (by kernel_rfl) ?_
  refine OW.fn (ar := [VI who]) (x' := ⟨(17, .v (.bool (wi who 0 31))) :: (acq26 who s), (acq24 s)⟩) (by kernel_rfl) (by kernel_rfl) F57_call (who_fn who) (by kernel_rfl) (by kernel_rfl) ?_
  refine OW.run 2 (x' := ⟨(19, .v (.bool (!(wi who 0 31)))) :: (18, .v (.bool (!(wi who 0 31)))) :: (17, .v (.bool (wi who 0 31))) :: (acq26 who s), (acq24 s)⟩) (by kernel_rfl) ?_
  rcases Bool.eq_false_or_eq_true (wi who 0 31) with h2 | h2
  rw [h2]
  have g2 : ((0 : Int) ≤ who ∧ (who : Int) ≤ 31) := wi_iff.1 h2
  refine OW.last 5 [1, 4, 6, 7, 24] (x' := ⟨(24, .v (.bool (((max1 s).time) == 1000000))) :: (acq25 s who), (acq24 s)⟩) (by kernel_rfl) (by kernel_rfl) ?_
  rcases Bool.eq_false_or_eq_true ((((max1 s).time) == 1000000)) with h3 | h3
  rw [h3]
  have g3 : (((max1 s).time) = 1000000) := by simpa using h3
  refine EL.condT (by kernel_rfl) ?_
  refine EL.reg0 ?_
  refine OW.end 1 (x' := ⟨(acq27 who), (acq24 s)⟩) (by kernel_rfl) (by kernel_rfl) ?_
  refine thenL_norm ?_
  refine EL.seq ?_
  refine EL.sreg ?_
  refine OW.last 2 [1, 4, 6, 7, 26] (x' := ⟨(acq28 who), (acq24 s)⟩) (by kernel_rfl) (by kernel_rfl) ?_
  refine EL.condT (by kernel_rfl) ?_
  refine EL.sreg ?_
  refine OW.last 4 [4, 5] (x' := ⟨[(5, VI 3), (4, .ref 0 2 0 0)], (acq24 s)⟩) (by kernel_rfl) (by kernel_rfl) ?_
  refine EL.ret ?_
  refine thenL_ret ?_
  refine ⟨.inr rfl, .tup [.agg [VI 0, VI 0], VI 3], by kernel_rfl, Ale.of_eq ?_⟩
  focus (first | (have ho : s.okS := sck.1 (by assumption); (try simp only [max1, if_pos ho] at *); first | (simp [nextP, ho, *]; done) | (have hn9 : nextP s who = (⟨0, 0⟩, 3) := if_neg (fun ⟨_, k1, k2⟩ => by omega); first | (rw [hn9]; done) | (rw [hn9]; rfl)) | (simp only [nextP]; split <;> first | rfl | (exfalso; omega) | (simp_all; done) | (simp_all; omega))) | (have ho : ¬ s.okS := (fun h => absurd (sck.2 h) (by assumption)); simp [nextP, Stamp.checkE, ho]; done))
  rw [h3]
  have g3 : ¬ (((max1 s).time) = 1000000) := by simpa using h3
  refine EL.condF (by kernel_rfl) ?_
  refine EL.skip ?_
  refine thenL_norm ?_
  refine EL.seq ?_
  refine EL.sreg ?_
  refine OW.last 2 [1, 4, 6, 7, 26] (x' := ⟨(26, .v (.bool (s.checkE != 0))) :: (acq25 s who), (acq24 s)⟩) (by kernel_rfl) (by kernel_rfl) ?_
  have h4 : (s.checkE != 0) = false := (by show (!(s.checkE == 0)) = _; rw [h1]; rfl)
  rw [h4]
  refine EL.condF (by kernel_rfl) ?_
  refine EL.skip ?_
  refine thenL_norm ?_
  refine EL.sreg ?_
  refine OW.run 7 (x' := ⟨(5, VI 0) :: (33, .agg [VI (IntKind.i64.wrap (((max1 s).time) + 1)), VI who]) :: (32, VI who) :: (31, VI (IntKind.i64.wrap (((max1 s).time) + 1))) :: (acq29 s who), [some ⟨2, [[VI (IntKind.i64.wrap (((max1 s).time) + 1)), VI who]]⟩, some ⟨2, [[VI ((max1 s).time), VI ((max1 s).who)]]⟩]⟩) (by kernel_rfl) ?_
  have e5 : IntKind.i64.wrap (((max1 s).time) + 1) = ((max1 s).time) + 1 := wr64 (by unfold max1; split <;> (try unfold Stamp.okS at *) <;> first | omega | (simp; done))
  rw [e5]
  refine OW.last 0 [4, 5] (x' := ⟨[(5, VI 0), (4, .ref 0 2 0 0)], (acq30 s who)⟩) (by kernel_rfl) (by kernel_rfl) ?_
  refine EL.ret ?_
  refine ⟨.inr rfl, .tup [.agg [VI (((max1 s).time) + 1), VI who], VI 0], by kernel_rfl, Ale.of_eq ?_⟩
  focus (first | (have ho : s.okS := sck.1 (by assumption); (try simp only [max1, if_pos ho] at *); first | (simp [nextP, ho, *]; done) | (have hn9 : nextP s who = (⟨0, 0⟩, 3) := if_neg (fun ⟨_, k1, k2⟩ => by omega); first | (rw [hn9]; done) | (rw [hn9]; rfl)) | (simp only [nextP]; split <;> first | rfl | (exfalso; omega) | (simp_all; done) | (simp_all; omega))) | (have ho : ¬ s.okS := (fun h => absurd (sck.2 h) (by assumption)); simp [nextP, Stamp.checkE, ho]; done))
  rw [h2]
  have g2 : ¬ ((0 : Int) ≤ who ∧ (who : Int) ≤ 31) := fun hh => Bool.noConfusion ((wi_iff.2 hh).symm.trans h2)
  refine OW.last 5 [1, 4, 6, 7, 24] (x' := ⟨(24, .v (.bool true)) :: (acq25 s who), (acq24 s)⟩) (by kernel_rfl) (by kernel_rfl) ?_
  refine EL.condT (by kernel_rfl) ?_
  refine EL.reg0 ?_
  refine OW.end 1 (x' := ⟨(acq27 who), (acq24 s)⟩) (by kernel_rfl) (by kernel_rfl) ?_
  refine thenL_norm ?_
  refine EL.seq ?_
  refine EL.sreg ?_
  refine OW.last 2 [1, 4, 6, 7, 26] (x' := ⟨(acq28 who), (acq24 s)⟩) (by kernel_rfl) (by kernel_rfl) ?_
  refine EL.condT (by kernel_rfl) ?_
  refine EL.sreg ?_
  refine OW.last 4 [4, 5] (x' := ⟨[(5, VI 3), (4, .ref 0 2 0 0)], (acq24 s)⟩) (by kernel_rfl) (by kernel_rfl) ?_
  refine EL.ret ?_
  refine thenL_ret ?_
  refine ⟨.inr rfl, .tup [.agg [VI 0, VI 0], VI 3], by kernel_rfl, Ale.of_eq ?_⟩
  focus (first | (have ho : s.okS := sck.1 (by assumption); (try simp only [max1, if_pos ho] at *); first | (simp [nextP, ho, *]; done) | (have hn9 : nextP s who = (⟨0, 0⟩, 3) := if_neg (fun ⟨_, k1, k2⟩ => by omega); first | (rw [hn9]; done) | (rw [hn9]; rfl)) | (simp only [nextP]; split <;> first | rfl | (exfalso; omega) | (simp_all; done) | (simp_all; omega))) | (have ho : ¬ s.okS := (fun h => absurd (sck.2 h) (by assumption)); simp [nextP, Stamp.checkE, ho]; done))
  rw [h1]
  have g1 : ¬ (s.checkE = 0) := by simpa using h1
  refine OW.last 9 [1, 4, 6, 7, 24] (x' := ⟨(24, .v (.bool false)) :: (acq25 s who), (acq24 s)⟩) (by kernel_rfl) (by kernel_rfl) ?_
  refine EL.condF (by kernel_rfl) ?_
  refine EL.skip ?_
  refine thenL_norm ?_
  refine EL.seq ?_
  refine EL.sreg ?_
  refine OW.last 2 [1, 4, 6, 7, 26] (x' := ⟨(26, .v (.bool (s.checkE != 0))) :: (acq25 s who), (acq24 s)⟩) (by kernel_rfl) (by kernel_rfl) ?_
  have h6 : (s.checkE != 0) = true := (by show (!(s.checkE == 0)) = _; rw [h1]; rfl)
  rw [h6]
  refine EL.condT (by kernel_rfl) ?_
  refine EL.sreg ?_
  refine OW.last 4 [4, 5] (x' := ⟨[(5, VI s.checkE), (4, .ref 0 2 0 0)], (acq24 s)⟩) (by kernel_rfl) (by kernel_rfl) ?_
  refine EL.ret ?_
  refine thenL_ret ?_
  refine ⟨.inr rfl, .tup [.agg [VI 0, VI 0], VI s.checkE], by kernel_rfl, Ale.of_eq ?_⟩
  focus (first | (have ho : s.okS := sck.1 (by assumption); (try simp only [max1, if_pos ho] at *); first | (simp [nextP, ho, *]; done) | (have hn9 : nextP s who = (⟨0, 0⟩, 3) := if_neg (fun ⟨_, k1, k2⟩ => by omega); first | (rw [hn9]; done) | (rw [hn9]; rfl)) | (simp only [nextP]; split <;> first | rfl | (exfalso; omega) | (simp_all; done) | (simp_all; omega))) | (have ho : ¬ s.okS := (fun h => absurd (sck.2 h) (by assumption)); simp [nextP, Stamp.checkE, ho]; done))
def wantsA (p : Int) : Int := if p = 1 then 2 else if p = 2 then 4 else 0
def heardA (a : Ask) (m : Msg) : Ask := { a with heard := orU a.heard m.node.toNat, best := if a.phase = 1 then a.best.raw m.copy else a.best }
def hearT (v : Voters) (a : Ask) (m : Msg) : Ask × List Msg × Bool :=
  if m.op ≠ a.op ∨ m.kind ≠ wantsA a.phase ∨ m.node ≥ v.weights.length ∨ (andU a.heard m.node.toNat).n ≠ 0 then (a, [], false)
  else if ¬ (enoughP v.weights v.need (orU a.heard m.node.toNat).n).1 = true then (heardA a m, [], true)
  else if a.phase = 2 then ({ heardA a m with phase := 3 }, [], true)
  else if a.kind = 1 then ({ heardA a m with phase := 2, heard := ⟨0, by decide⟩ }, toAllM v.weights.length ⟨3, a.op, 0, (heardA a m).best⟩, true)
  else if (nextP (heardA a m).best.at_ a.op).2 = 0 then ({ heardA a m with phase := 2, heard := ⟨0, by decide⟩, best := ⟨(nextP (heardA a m).best.at_ a.op).1, a.data⟩ }, toAllM v.weights.length ⟨3, a.op, 0, ⟨(nextP (heardA a m).best.at_ a.op).1, a.data⟩⟩, true)
  else ({ heardA a m with best := ⟨(nextP (heardA a m).best.at_ a.op).1, a.data⟩ }, [], false)
def hearA (v : Voters) (a : Ask) (m : Msg) : Ask × List Msg × Int :=
  if a.checkE v.weights v.need ≠ 0 then (Ask.zero, [], a.checkE v.weights v.need) else if m.checkE ≠ 0 then (Ask.zero, [], m.checkE)
  else if (hearT v a m).2.2 = true then ((hearT v a m).1, (hearT v a m).2.1, 0) else (a, [], 0)
def serveA (c : Copy) (m : Msg) : Copy × List Msg × Int :=
  if c.checkE ≠ 0 then (Copy.zero, [], c.checkE) else if m.checkE ≠ 0 then (Copy.zero, [], m.checkE)
  else if m.kind = 1 then (c, [⟨2, m.op, m.node, c⟩], 0) else if m.kind = 3 then (c.raw m.copy, [⟨4, m.op, m.node, ⟨⟨0, 0⟩, ⟨#[]⟩⟩⟩], 0) else (c, [], 0)
abbrev acq31 (a : Ask) : OB := some ⟨8, [[VI a.op, VI a.kind, VI a.phase, .v (.string a.data), VI a.best.at_.time, VI a.best.at_.who, .v (.string a.best.data), .v (.int .u64 (a.heard.n : Int))]]⟩
abbrev acq32 (m : Msg) : OB := some ⟨6, [[VI m.kind, VI m.op, VI m.node, VI m.copy.at_.time, VI m.copy.at_.who, .v (.string m.copy.data)]]⟩
abbrev acq33 : OB := some ⟨8, [[VI 0, VI 0, VI 0, .v (.string (⟨#[]⟩)), VI 0, VI 0, .v (.string (⟨#[]⟩)), .v (.int .u64 0)]]⟩
abbrev acq34 (v : Voters) (a : Ask) (m : Msg) : LB := [some ⟨2, [[.lst 1 (v.weights.map cI), VI v.need]]⟩, (acq31 a), (acq32 m), acq33]
abbrev acq35 : LS := [(6, .ref 3 8 0 0), (5, .ref 2 6 0 0), (4, .ref 1 8 0 0), (3, .ref 0 2 0 0)]
abbrev acq36 (a : Ask) : AV := .agg [VI a.op, VI a.kind, VI a.phase, .v (.string a.data), VI a.best.at_.time, VI a.best.at_.who, .v (.string a.best.data), .v (.int .u64 (a.heard.n : Int))]
abbrev acq37 (a : Ask) (v : Voters) : LS := (14, (acq36 a)) :: (13, .agg [.lst 1 (v.weights.map cI), VI v.need]) :: acq35
abbrev acq38 (m : Msg) : AV := .agg [VI m.kind, VI m.op, VI m.node, VI m.copy.at_.time, VI m.copy.at_.who, .v (.string m.copy.data)]
abbrev acq39 (m : Msg) (a : Ask) (v : Voters) : LS := (18, (acq38 m)) :: (17, .v (.bool true)) :: (9, VI (a.checkE v.weights v.need)) :: acq35
abbrev acq40 (m : Msg) : LS := (9, VI m.checkE) :: (19, VI m.checkE) :: (18, (acq38 m)) :: (17, .v (.bool true)) :: acq35
abbrev acq41 (m : Msg) : LS := [(8, VI m.checkE), (7, .emp), (6, .ref 3 8 0 0)]
abbrev acq42 (a : Ask) (v : Voters) : OB := some ⟨10, [[VI a.op, VI a.kind, VI a.phase, .v (.string a.data), VI a.best.at_.time, VI a.best.at_.who, .v (.string a.best.data), .v (.int .u64 (a.heard.n : Int)), .lst 1 (v.weights.map cI), VI v.need]]⟩
abbrev acq43 (v : Voters) (a : Ask) (m : Msg) : LB := [some ⟨2, [[.lst 1 (v.weights.map cI), VI v.need]]⟩, (acq31 a), (acq32 m), acq33, (acq42 a v)]
abbrev acq44 : LS := [(10, .ref 4 10 0 0), (6, .ref 3 8 0 0), (5, .ref 2 6 0 0), (4, .ref 1 8 0 0)]
abbrev acq45 (v : Voters) (a : Ask) (m : Msg) : OB := some ⟨10, [[VI (((hearT v a m).1).op), VI (((hearT v a m).1).kind), VI (((hearT v a m).1).phase), .v (.string (((hearT v a m).1).data)), VI (((((hearT v a m).1).best).at_).time), VI (((((hearT v a m).1).best).at_).who), .v (.string ((((hearT v a m).1).best).data)), .v (.int .u64 (((hearT v a m).1).heard.n : Int)), .lst 1 (v.weights.map cI), VI v.need]]⟩
abbrev acq46 (v : Voters) (a : Ask) (m : Msg) : LB := [some ⟨2, [[.lst 1 (v.weights.map cI), VI v.need]]⟩, (acq31 a), (acq32 m), acq33, (acq45 v a m)]
abbrev acq47 (v : Voters) (a : Ask) (m : Msg) : LB := [some ⟨2, [[.lst 1 (v.weights.map cI), VI v.need]]⟩, (acq31 a), (acq32 m), acq33, (acq42 a v), (acq32 m)]
abbrev acq48 (m : Msg) : LS := [(11, VI m.node), (10, .ref 5 6 0 2), (3, .ref 5 6 0 0), (0, .ref 4 10 0 0)]
abbrev acq49 (m : Msg) : LS := [(6, .v (.int .u64 ((2 ^ (Int.toNat m.node) : Nat) : Int))), (3, .ref 5 6 0 0), (0, .ref 4 10 0 0)]
abbrev acq50 (v : Voters) (a : Ask) (m : Msg) : LB := [some ⟨2, [[.lst 1 (v.weights.map cI), VI v.need]]⟩, (acq31 a), (acq32 m), acq33, (acq42 a v), (acq32 m), some ⟨0, [[VI 1, VI 2], [VI 2, VI 4]]⟩]
abbrev acq51 (a : Ask) (m : Msg) : LS := (21, VI a.op) :: (20, .ref 4 10 0 0) :: (19, .ref 4 10 0 0) :: (18, .ref 4 10 0 0) :: (17, .ref 4 10 0 0) :: (16, VI m.op) :: (15, .ref 5 6 0 1) :: (7, .mp 6) :: (acq49 m)
abbrev acq52 (a : Ask) (m : Msg) : LS := (31, VI a.phase) :: (30, .ref 4 10 0 2) :: (29, .ref 4 10 0 0) :: (28, .ref 4 10 0 0) :: (27, .ref 4 10 0 0) :: (26, .mp 6) :: (25, VI m.kind) :: (24, .ref 5 6 0 0) :: (23, .v (.bool false)) :: (22, .v (.bool false)) :: (acq51 a m)
abbrev acq53 (v : Voters) (m : Msg) (a : Ask) : LS := (42, .lst 1 (v.weights.map cI)) :: (41, .ref 4 10 0 8) :: (40, .ref 4 10 0 8) :: (39, .ref 4 10 0 0) :: (38, .ref 4 10 0 0) :: (37, VI m.node) :: (36, .ref 5 6 0 2) :: (35, .v (.bool false)) :: (34, .v (.bool false)) :: (33, .v (.bool false)) :: (32, VI 2) :: (acq52 a m)
abbrev acq54 (m : Msg) (a : Ask) (v : Voters) : LS := (52, .v (.int .u64 ((2 ^ (Int.toNat m.node) : Nat) : Int))) :: (51, .v (.int .u64 (a.heard.n : Int))) :: (50, .ref 4 10 0 7) :: (49, .ref 4 10 0 0) :: (48, .ref 4 10 0 0) :: (47, .ref 4 10 0 0) :: (46, .v (.bool false)) :: (45, .v (.bool false)) :: (44, .v (.bool false)) :: (43, VI (List.length v.weights : Int)) :: (acq53 v m a)
abbrev acq55 (m : Msg) (a : Ask) : LS := (61, .v (.int .u64 ((2 ^ (Int.toNat m.node) : Nat) : Int))) :: (60, .v (.int .u64 (a.heard.n : Int))) :: (59, .ref 4 10 0 7) :: (58, .ref 4 10 0 0) :: (57, .ref 4 10 0 0) :: (56, .ref 4 10 0 0) :: (55, .v (.bool false)) :: (acq49 m)
abbrev acq56 (a : Ask) (m : Msg) (v : Voters) : OB := some ⟨10, [[VI a.op, VI a.kind, VI a.phase, .v (.string a.data), VI a.best.at_.time, VI a.best.at_.who, .v (.string a.best.data), .v (.int .u64 ((orU a.heard (Int.toNat m.node)).n : Int)), .lst 1 (v.weights.map cI), VI v.need]]⟩
abbrev acq57 (v : Voters) (a : Ask) (m : Msg) : LB := [some ⟨2, [[.lst 1 (v.weights.map cI), VI v.need]]⟩, (acq31 a), (acq32 m), acq33, (acq56 a m v), (acq32 m), some ⟨0, [[VI 1, VI 2], [VI 2, VI 4]]⟩]
abbrev acq58 (m : Msg) : AV := .agg [VI m.copy.at_.time, VI m.copy.at_.who, .v (.string m.copy.data)]
abbrev acq59 (a : Ask) : AV := .agg [VI a.best.at_.time, VI a.best.at_.who, .v (.string a.best.data)]
abbrev acq60 (m : Msg) (a : Ask) : LS := [(79, (acq58 m)), (78, .ref 5 6 0 3), (77, (acq59 a)), (76, .ref 4 10 0 4), (75, .ref 4 10 0 0), (74, .ref 4 10 0 0), (73, .ref 4 10 0 0), (72, .ref 4 10 0 0), (71, .v (.bool true)), (3, .ref 5 6 0 0), (0, .ref 4 10 0 0)]
abbrev acq61 (a : Ask) (m : Msg) : AV := .agg [VI (((a.best.raw m.copy).at_).time), VI (((a.best.raw m.copy).at_).who), .v (.string ((a.best.raw m.copy).data))]
abbrev acq62 (a : Ask) (m : Msg) (v : Voters) : OB := some ⟨10, [[VI a.op, VI a.kind, VI a.phase, .v (.string a.data), VI (((a.best.raw m.copy).at_).time), VI (((a.best.raw m.copy).at_).who), .v (.string ((a.best.raw m.copy).data)), .v (.int .u64 ((orU a.heard (Int.toNat m.node)).n : Int)), .lst 1 (v.weights.map cI), VI v.need]]⟩
abbrev acq63 (v : Voters) (a : Ask) (m : Msg) : LB := [some ⟨2, [[.lst 1 (v.weights.map cI), VI v.need]]⟩, (acq31 a), (acq32 m), acq33, (acq62 a m v), (acq32 m), some ⟨0, [[VI 1, VI 2], [VI 2, VI 4]]⟩]
abbrev acq64 (a : Ask) (m : Msg) : LS := (83, .ref 4 10 0 4) :: (82, .ref 4 10 0 0) :: (81, .ref 4 10 0 0) :: (80, (acq61 a m)) :: (acq60 m a)
abbrev acq65 (a : Ask) (m : Msg) (v : Voters) : LS := (99, .v (.int .u64 ((orU a.heard (Int.toNat m.node)).n : Int))) :: (98, .ref 4 10 0 7) :: (97, .ref 4 10 0 0) :: (96, .ref 4 10 0 0) :: (95, .ref 4 10 0 0) :: (94, VI v.need) :: (93, .ref 4 10 0 9) :: (92, .ref 4 10 0 8) :: (91, .ref 4 10 0 0) :: (90, .ref 4 10 0 0) :: (89, .lst 1 (v.weights.map cI)) :: (88, .ref 4 10 0 8) :: (87, .ref 4 10 0 8) :: (86, .ref 4 10 0 0) :: (85, .ref 4 10 0 0) :: (acq64 a m)
abbrev acq66 (a : Ask) (m : Msg) (v : Voters) : OB := some ⟨10, [[VI a.op, VI a.kind, VI 3, .v (.string a.data), VI (((a.best.raw m.copy).at_).time), VI (((a.best.raw m.copy).at_).who), .v (.string ((a.best.raw m.copy).data)), .v (.int .u64 ((orU a.heard (Int.toNat m.node)).n : Int)), .lst 1 (v.weights.map cI), VI v.need]]⟩
abbrev acq67 (v : Voters) (a : Ask) (m : Msg) : LB := [some ⟨2, [[.lst 1 (v.weights.map cI), VI v.need]]⟩, (acq31 a), (acq32 m), acq33, (acq66 a m v), (acq32 m), some ⟨0, [[VI 1, VI 2], [VI 2, VI 4]]⟩]
abbrev acq68 : LS := [(115, .ref 4 10 0 0), (110, .v (.bool false)), (0, .ref 4 10 0 0)]
abbrev acq69 (a : Ask) (m : Msg) (v : Voters) : OB := some ⟨10, [[VI a.op, VI a.kind, VI 2, .v (.string a.data), VI (((a.best.raw m.copy).at_).time), VI (((a.best.raw m.copy).at_).who), .v (.string ((a.best.raw m.copy).data)), .v (.int .u64 0), .lst 1 (v.weights.map cI), VI v.need]]⟩
abbrev acq70 (v : Voters) (a : Ask) (m : Msg) : LB := [some ⟨2, [[.lst 1 (v.weights.map cI), VI v.need]]⟩, (acq31 a), (acq32 m), acq33, (acq69 a m v), (acq32 m), some ⟨0, [[VI 1, VI 2], [VI 2, VI 4]]⟩]
abbrev acq71 (a : Ask) (m : Msg) : AV := .agg [VI 3, VI a.op, VI 0, VI (((a.best.raw m.copy).at_).time), VI (((a.best.raw m.copy).at_).who), .v (.string ((a.best.raw m.copy).data))]
abbrev acq72 (a : Ask) (m : Msg) (v : Voters) : LS := [(140, (acq71 a m)), (139, (acq61 a m)), (138, .ref 4 10 0 4), (137, .ref 4 10 0 0), (136, .ref 4 10 0 0), (135, .ref 4 10 0 0), (134, VI a.op), (133, .ref 4 10 0 0), (132, .ref 4 10 0 0), (131, .ref 4 10 0 0), (130, .ref 4 10 0 0), (129, .agg [.lst 1 (v.weights.map cI), VI v.need]), (128, .ref 4 10 0 8), (127, .ref 4 10 0 0), (126, .ref 4 10 0 0), (0, .ref 4 10 0 0)]
abbrev acq73 (v : Voters) (a : Ask) (m : Msg) : LS := (141, .lst 6 ((toAllM v.weights.length (⟨3, a.op, 0, (⟨((a.best.raw m.copy).at_), (a.best.raw m.copy).data⟩ : Copy)⟩ : Msg)).map Msg.cs)) :: (acq72 a m v)
abbrev acq74 (a : Ask) (m : Msg) : AV := .agg [VI (((a.best.raw m.copy).at_).time), VI (((a.best.raw m.copy).at_).who)]
abbrev acq75 (a : Ask) (m : Msg) : OB := some ⟨2, [[VI (((a.best.raw m.copy).at_).time), VI (((a.best.raw m.copy).at_).who)]]⟩
abbrev acq76 (v : Voters) (a : Ask) (m : Msg) : LB := [some ⟨2, [[.lst 1 (v.weights.map cI), VI v.need]]⟩, (acq31 a), (acq32 m), acq33, (acq62 a m v), (acq32 m), some ⟨0, [[VI 1, VI 2], [VI 2, VI 4]]⟩, (acq75 a m)]
abbrev acq77 (a : Ask) (m : Msg) : LS := [(23, VI a.op), (22, .ref 4 10 0 0), (21, .ref 4 10 0 0), (20, .ref 4 10 0 0), (19, .ref 4 10 0 0), (18, .own 7 2 0 1), (17, (acq74 a m)), (16, .ref 4 10 0 4), (15, .ref 4 10 0 4), (14, .ref 4 10 0 0), (13, .ref 4 10 0 0), (12, .ref 4 10 0 0), (10, .v (.bool false)), (0, .ref 4 10 0 0)]
abbrev acq78 (a : Ask) (m : Msg) : AV := .agg [VI (((nextP ((a.best.raw m.copy).at_) a.op).1).time), VI (((nextP ((a.best.raw m.copy).at_) a.op).1).who)]
abbrev acq79 (a : Ask) (m : Msg) : LS := (24, .tup [(acq78 a m), VI ((nextP ((a.best.raw m.copy).at_) a.op).2)]) :: (acq77 a m)
abbrev acq80 (a : Ask) (m : Msg) : OB := some ⟨2, [[VI (((nextP ((a.best.raw m.copy).at_) a.op).1).time), VI (((nextP ((a.best.raw m.copy).at_) a.op).1).who)]]⟩
abbrev acq81 (v : Voters) (a : Ask) (m : Msg) : LB := [some ⟨2, [[.lst 1 (v.weights.map cI), VI v.need]]⟩, (acq31 a), (acq32 m), acq33, (acq62 a m v), (acq32 m), some ⟨0, [[VI 1, VI 2], [VI 2, VI 4]]⟩, (acq75 a m), (acq80 a m)]
abbrev acq82 (a : Ask) (m : Msg) : LS := [(4, VI ((nextP ((a.best.raw m.copy).at_) a.op).2)), (3, .ref 8 2 0 0), (0, .ref 4 10 0 0)]
abbrev acq83 (a : Ask) (m : Msg) (v : Voters) : OB := some ⟨10, [[VI a.op, VI a.kind, VI a.phase, .v (.string a.data), VI (((nextP ((a.best.raw m.copy).at_) a.op).1).time), VI (((nextP ((a.best.raw m.copy).at_) a.op).1).who), .v (.string a.data), .v (.int .u64 ((orU a.heard (Int.toNat m.node)).n : Int)), .lst 1 (v.weights.map cI), VI v.need]]⟩
abbrev acq84 (v : Voters) (a : Ask) (m : Msg) : LB := [some ⟨2, [[.lst 1 (v.weights.map cI), VI v.need]]⟩, (acq31 a), (acq32 m), acq33, (acq83 a m v), (acq32 m), some ⟨0, [[VI 1, VI 2], [VI 2, VI 4]]⟩, (acq75 a m), (acq80 a m)]
abbrev acq85 (v : Voters) (a : Ask) (m : Msg) : LB := [some ⟨2, [[.lst 1 (v.weights.map cI), VI v.need]]⟩, (acq31 a), (acq32 m), acq33, (acq83 a m v), (acq32 m), some ⟨0, [[VI 1, VI 2], [VI 2, VI 4]]⟩]
abbrev acq86 (a : Ask) (m : Msg) (v : Voters) : OB := some ⟨10, [[VI a.op, VI a.kind, VI 2, .v (.string a.data), VI (((nextP ((a.best.raw m.copy).at_) a.op).1).time), VI (((nextP ((a.best.raw m.copy).at_) a.op).1).who), .v (.string a.data), .v (.int .u64 0), .lst 1 (v.weights.map cI), VI v.need]]⟩
abbrev acq87 (v : Voters) (a : Ask) (m : Msg) : LB := [some ⟨2, [[.lst 1 (v.weights.map cI), VI v.need]]⟩, (acq31 a), (acq32 m), acq33, (acq86 a m v), (acq32 m), some ⟨0, [[VI 1, VI 2], [VI 2, VI 4]]⟩]
abbrev acq88 (a : Ask) (m : Msg) : AV := .agg [VI 3, VI a.op, VI 0, VI (((nextP ((a.best.raw m.copy).at_) a.op).1).time), VI (((nextP ((a.best.raw m.copy).at_) a.op).1).who), .v (.string a.data)]
abbrev acq89 (a : Ask) (m : Msg) : AV := .agg [VI (((nextP ((a.best.raw m.copy).at_) a.op).1).time), VI (((nextP ((a.best.raw m.copy).at_) a.op).1).who), .v (.string a.data)]
abbrev acq90 (a : Ask) (m : Msg) (v : Voters) : LS := [(140, (acq88 a m)), (139, (acq89 a m)), (138, .ref 4 10 0 4), (137, .ref 4 10 0 0), (136, .ref 4 10 0 0), (135, .ref 4 10 0 0), (134, VI a.op), (133, .ref 4 10 0 0), (132, .ref 4 10 0 0), (131, .ref 4 10 0 0), (130, .ref 4 10 0 0), (129, .agg [.lst 1 (v.weights.map cI), VI v.need]), (128, .ref 4 10 0 8), (127, .ref 4 10 0 0), (126, .ref 4 10 0 0), (0, .ref 4 10 0 0)]
abbrev acq91 (v : Voters) (a : Ask) (m : Msg) : LS := (141, .lst 6 ((toAllM v.weights.length (⟨3, a.op, 0, (⟨((nextP ((a.best.raw m.copy).at_) a.op).1), a.data⟩ : Copy)⟩ : Msg)).map Msg.cs)) :: (acq90 a m v)
abbrev acq92 (v : Voters) (m : Msg) (a : Ask) : LS := (42, .lst 1 (v.weights.map cI)) :: (41, .ref 4 10 0 8) :: (40, .ref 4 10 0 8) :: (39, .ref 4 10 0 0) :: (38, .ref 4 10 0 0) :: (37, VI m.node) :: (36, .ref 5 6 0 2) :: (35, .v (.bool false)) :: (34, .v (.bool false)) :: (33, .v (.bool false)) :: (32, VI 4) :: (acq52 a m)
abbrev acq93 (m : Msg) (a : Ask) (v : Voters) : LS := (52, .v (.int .u64 ((2 ^ (Int.toNat m.node) : Nat) : Int))) :: (51, .v (.int .u64 (a.heard.n : Int))) :: (50, .ref 4 10 0 7) :: (49, .ref 4 10 0 0) :: (48, .ref 4 10 0 0) :: (47, .ref 4 10 0 0) :: (46, .v (.bool false)) :: (45, .v (.bool false)) :: (44, .v (.bool false)) :: (43, VI (List.length v.weights : Int)) :: (acq92 v m a)
abbrev acq94 (a : Ask) (m : Msg) (v : Voters) : LS := [(99, .v (.int .u64 ((orU a.heard (Int.toNat m.node)).n : Int))), (98, .ref 4 10 0 7), (97, .ref 4 10 0 0), (96, .ref 4 10 0 0), (95, .ref 4 10 0 0), (94, VI v.need), (93, .ref 4 10 0 9), (92, .ref 4 10 0 8), (91, .ref 4 10 0 0), (90, .ref 4 10 0 0), (89, .lst 1 (v.weights.map cI)), (88, .ref 4 10 0 8), (87, .ref 4 10 0 8), (86, .ref 4 10 0 0), (85, .ref 4 10 0 0), (71, .v (.bool false)), (3, .ref 5 6 0 0), (0, .ref 4 10 0 0)]
abbrev acq95 (a : Ask) (m : Msg) (v : Voters) : OB := some ⟨10, [[VI a.op, VI a.kind, VI 3, .v (.string a.data), VI a.best.at_.time, VI a.best.at_.who, .v (.string a.best.data), .v (.int .u64 ((orU a.heard (Int.toNat m.node)).n : Int)), .lst 1 (v.weights.map cI), VI v.need]]⟩
abbrev acq96 (v : Voters) (a : Ask) (m : Msg) : LB := [some ⟨2, [[.lst 1 (v.weights.map cI), VI v.need]]⟩, (acq31 a), (acq32 m), acq33, (acq95 a m v), (acq32 m), some ⟨0, [[VI 1, VI 2], [VI 2, VI 4]]⟩]
abbrev acq97 (v : Voters) (m : Msg) (a : Ask) : LS := (42, .lst 1 (v.weights.map cI)) :: (41, .ref 4 10 0 8) :: (40, .ref 4 10 0 8) :: (39, .ref 4 10 0 0) :: (38, .ref 4 10 0 0) :: (37, VI m.node) :: (36, .ref 5 6 0 2) :: (35, .v (.bool false)) :: (34, .v (.bool false)) :: (33, .v (.bool false)) :: (32, VI 0) :: (acq52 a m)
abbrev acq98 (m : Msg) (a : Ask) (v : Voters) : LS := (52, .v (.int .u64 ((2 ^ (Int.toNat m.node) : Nat) : Int))) :: (51, .v (.int .u64 (a.heard.n : Int))) :: (50, .ref 4 10 0 7) :: (49, .ref 4 10 0 0) :: (48, .ref 4 10 0 0) :: (47, .ref 4 10 0 0) :: (46, .v (.bool false)) :: (45, .v (.bool false)) :: (44, .v (.bool false)) :: (43, VI (List.length v.weights : Int)) :: (acq97 v m a)
abbrev acq99 (a : Ask) (v : Voters) : OB := some ⟨10, [[VI a.op, VI a.kind, VI 2, .v (.string a.data), VI a.best.at_.time, VI a.best.at_.who, .v (.string a.best.data), .v (.int .u64 0), .lst 1 (v.weights.map cI), VI v.need]]⟩
abbrev acq100 (v : Voters) (a : Ask) (m : Msg) : LB := [some ⟨2, [[.lst 1 (v.weights.map cI), VI v.need]]⟩, (acq31 a), (acq32 m), acq33, (acq99 a v), (acq32 m), some ⟨0, [[VI 1, VI 2], [VI 2, VI 4]]⟩]
abbrev acq101 (a : Ask) : AV := .agg [VI 3, VI a.op, VI 0, VI a.best.at_.time, VI a.best.at_.who, .v (.string a.best.data)]
abbrev acq102 (a : Ask) (v : Voters) : LS := [(140, (acq101 a)), (139, (acq59 a)), (138, .ref 4 10 0 4), (137, .ref 4 10 0 0), (136, .ref 4 10 0 0), (135, .ref 4 10 0 0), (134, VI a.op), (133, .ref 4 10 0 0), (132, .ref 4 10 0 0), (131, .ref 4 10 0 0), (130, .ref 4 10 0 0), (129, .agg [.lst 1 (v.weights.map cI), VI v.need]), (128, .ref 4 10 0 8), (127, .ref 4 10 0 0), (126, .ref 4 10 0 0), (0, .ref 4 10 0 0)]
abbrev acq103 (v : Voters) (a : Ask) : LS := (141, .lst 6 ((toAllM v.weights.length (⟨3, a.op, 0, a.best⟩ : Msg)).map Msg.cs)) :: (acq102 a v)
abbrev acq104 (v : Voters) (a : Ask) (m : Msg) : LB := [some ⟨2, [[.lst 1 (v.weights.map cI), VI v.need]]⟩, (acq31 a), (acq32 m), acq33, (acq56 a m v), (acq32 m), some ⟨0, [[VI 1, VI 2], [VI 2, VI 4]]⟩, some ⟨2, [[VI a.best.at_.time, VI a.best.at_.who]]⟩]
abbrev acq105 (a : Ask) : LS := [(23, VI a.op), (22, .ref 4 10 0 0), (21, .ref 4 10 0 0), (20, .ref 4 10 0 0), (19, .ref 4 10 0 0), (18, .own 7 2 0 1), (17, .agg [VI a.best.at_.time, VI a.best.at_.who]), (16, .ref 4 10 0 4), (15, .ref 4 10 0 4), (14, .ref 4 10 0 0), (13, .ref 4 10 0 0), (12, .ref 4 10 0 0), (10, .v (.bool false)), (0, .ref 4 10 0 0)]
abbrev acq106 (a : Ask) : AV := .agg [VI (((nextP a.best.at_ a.op).1).time), VI (((nextP a.best.at_ a.op).1).who)]
abbrev acq107 (a : Ask) : LS := (24, .tup [(acq106 a), VI ((nextP a.best.at_ a.op).2)]) :: (acq105 a)
abbrev acq108 (a : Ask) : OB := some ⟨2, [[VI (((nextP a.best.at_ a.op).1).time), VI (((nextP a.best.at_ a.op).1).who)]]⟩
abbrev acq109 (v : Voters) (a : Ask) (m : Msg) : LB := [some ⟨2, [[.lst 1 (v.weights.map cI), VI v.need]]⟩, (acq31 a), (acq32 m), acq33, (acq56 a m v), (acq32 m), some ⟨0, [[VI 1, VI 2], [VI 2, VI 4]]⟩, some ⟨2, [[VI a.best.at_.time, VI a.best.at_.who]]⟩, (acq108 a)]
abbrev acq110 (a : Ask) : LS := [(4, VI ((nextP a.best.at_ a.op).2)), (3, .ref 8 2 0 0), (0, .ref 4 10 0 0)]
abbrev acq111 (a : Ask) (m : Msg) (v : Voters) : OB := some ⟨10, [[VI a.op, VI a.kind, VI a.phase, .v (.string a.data), VI (((nextP a.best.at_ a.op).1).time), VI (((nextP a.best.at_ a.op).1).who), .v (.string a.data), .v (.int .u64 ((orU a.heard (Int.toNat m.node)).n : Int)), .lst 1 (v.weights.map cI), VI v.need]]⟩
abbrev acq112 (v : Voters) (a : Ask) (m : Msg) : LB := [some ⟨2, [[.lst 1 (v.weights.map cI), VI v.need]]⟩, (acq31 a), (acq32 m), acq33, (acq111 a m v), (acq32 m), some ⟨0, [[VI 1, VI 2], [VI 2, VI 4]]⟩, some ⟨2, [[VI a.best.at_.time, VI a.best.at_.who]]⟩, (acq108 a)]
abbrev acq113 (v : Voters) (a : Ask) (m : Msg) : LB := [some ⟨2, [[.lst 1 (v.weights.map cI), VI v.need]]⟩, (acq31 a), (acq32 m), acq33, (acq111 a m v), (acq32 m), some ⟨0, [[VI 1, VI 2], [VI 2, VI 4]]⟩]
abbrev acq114 (a : Ask) (v : Voters) : OB := some ⟨10, [[VI a.op, VI a.kind, VI 2, .v (.string a.data), VI (((nextP a.best.at_ a.op).1).time), VI (((nextP a.best.at_ a.op).1).who), .v (.string a.data), .v (.int .u64 0), .lst 1 (v.weights.map cI), VI v.need]]⟩
abbrev acq115 (v : Voters) (a : Ask) (m : Msg) : LB := [some ⟨2, [[.lst 1 (v.weights.map cI), VI v.need]]⟩, (acq31 a), (acq32 m), acq33, (acq114 a v), (acq32 m), some ⟨0, [[VI 1, VI 2], [VI 2, VI 4]]⟩]
abbrev acq116 (a : Ask) : AV := .agg [VI 3, VI a.op, VI 0, VI (((nextP a.best.at_ a.op).1).time), VI (((nextP a.best.at_ a.op).1).who), .v (.string a.data)]
abbrev acq117 (a : Ask) : AV := .agg [VI (((nextP a.best.at_ a.op).1).time), VI (((nextP a.best.at_ a.op).1).who), .v (.string a.data)]
abbrev acq118 (a : Ask) (v : Voters) : LS := [(140, (acq116 a)), (139, (acq117 a)), (138, .ref 4 10 0 4), (137, .ref 4 10 0 0), (136, .ref 4 10 0 0), (135, .ref 4 10 0 0), (134, VI a.op), (133, .ref 4 10 0 0), (132, .ref 4 10 0 0), (131, .ref 4 10 0 0), (130, .ref 4 10 0 0), (129, .agg [.lst 1 (v.weights.map cI), VI v.need]), (128, .ref 4 10 0 8), (127, .ref 4 10 0 0), (126, .ref 4 10 0 0), (0, .ref 4 10 0 0)]
abbrev acq119 (v : Voters) (a : Ask) : LS := (141, .lst 6 ((toAllM v.weights.length (⟨3, a.op, 0, (⟨((nextP a.best.at_ a.op).1), a.data⟩ : Copy)⟩ : Msg)).map Msg.cs)) :: (acq118 a v)
abbrev acq120 (v : Voters) (a : Ask) (m : Msg) : LS := [(11, .lst 6 (((hearT v a m).2.1).map Msg.cs)), (10, .ref 4 10 0 0), (6, .ref 3 8 0 0), (4, .ref 1 8 0 0)]
abbrev acq121 (v : Voters) (a : Ask) (m : Msg) : OB := some ⟨8, [[VI (((hearT v a m).1).op), VI (((hearT v a m).1).kind), VI (((hearT v a m).1).phase), .v (.string (((hearT v a m).1).data)), VI (((((hearT v a m).1).best).at_).time), VI (((((hearT v a m).1).best).at_).who), .v (.string ((((hearT v a m).1).best).data)), .v (.int .u64 (((hearT v a m).1).heard.n : Int))]]⟩
abbrev acq122 (v : Voters) (a : Ask) (m : Msg) : LB := [some ⟨2, [[.lst 1 (v.weights.map cI), VI v.need]]⟩, (acq31 a), (acq32 m), (acq121 v a m), (acq45 v a m)]
abbrev acq123 (v : Voters) (a : Ask) (m : Msg) : LS := [(8, VI 0), (7, .lst 6 (((hearT v a m).2.1).map Msg.cs)), (6, .ref 3 8 0 0)]
abbrev acq124 (v : Voters) (a : Ask) (m : Msg) : LB := [some ⟨2, [[.lst 1 (v.weights.map cI), VI v.need]]⟩, (acq31 a), (acq32 m), (acq31 a), (acq45 v a m)]
abbrev acq125 (a : Ask) (v : Voters) : LS := [(8, VI (a.checkE v.weights v.need)), (7, .emp), (6, .ref 3 8 0 0)]
theorem hear_fn (v : Voters) (a : Ask) (m : Msg) (hx : v.weights.length ≤ 9223372036854775807) : Fn Tryd.prog 8 [.agg [.lst 1 (v.weights.map cI), VI v.need], .agg [VI a.op, VI a.kind, VI a.phase, .v (.string a.data), VI a.best.at_.time, VI a.best.at_.who, .v (.string a.best.data), .v (.int .u64 (a.heard.n : Int))], .agg [VI m.kind, VI m.op, VI m.node, VI m.copy.at_.time, VI m.copy.at_.who, .v (.string m.copy.data)]] (.tup [.agg [VI (((hearA v a m).1).op), VI (((hearA v a m).1).kind), VI (((hearA v a m).1).phase), .v (.string (((hearA v a m).1).data)), VI (((((hearA v a m).1).best).at_).time), VI (((((hearA v a m).1).best).at_).who), .v (.string ((((hearA v a m).1).best).data)), .v (.int .u64 (((hearA v a m).1).heard.n : Int))], .lst 6 (((hearA v a m).2.1).map Msg.cs), VI ((hearA v a m).2.2)]) := by
  refine fn_walkW F8_ok (of_decide_eq_true (by kernel_rfl)) ?_
  refine EL.sreg ?_
  refine OW.last 6 [3, 4, 5, 6] (x' := ⟨acq35, (acq34 v a m)⟩) (by kernel_rfl) (by kernel_rfl) ?_
  refine EL.sreg ?_
  refine OW.run 2 (x' := ⟨(acq37 a v), (acq34 v a m)⟩) (by kernel_rfl) ?_
  refine OW.fn (ar := [.agg [.lst 1 (v.weights.map cI), VI v.need], (acq36 a)]) (x' := ⟨(15, VI (a.checkE v.weights v.need)) :: (acq37 a v), (acq34 v a m)⟩) (by kernel_rfl) (by kernel_rfl) F13_call (acheck_fn v a hx) (by kernel_rfl) (by kernel_rfl) ?_
  refine OW.last 1 [3, 4, 5, 6, 9] (x' := ⟨(9, VI (a.checkE v.weights v.need)) :: acq35, (acq34 v a m)⟩) (by kernel_rfl) (by kernel_rfl) ?_
  refine EL.seq ?_
  refine EL.sreg ?_
  refine OW.last 2 [3, 4, 5, 6, 9, 17] (x' := ⟨(17, .v (.bool ((a.checkE v.weights v.need) == 0))) :: (9, VI (a.checkE v.weights v.need)) :: acq35, (acq34 v a m)⟩) (by kernel_rfl) (by kernel_rfl) ?_
  rcases Bool.eq_false_or_eq_true (((a.checkE v.weights v.need) == 0)) with h1 | h1
  rw [h1]
  have g1 : ((a.checkE v.weights v.need) = 0) := by simpa using h1
  refine EL.condT (by kernel_rfl) ?_
  refine EL.reg0 ?_
  refine OW.run 1 (x' := ⟨(acq39 m a v), (acq34 v a m)⟩) (by kernel_rfl) ?_
  refine OW.fn (ar := [(acq38 m)]) (x' := ⟨(19, VI m.checkE) :: (acq39 m a v), (acq34 v a m)⟩) (by kernel_rfl) (by kernel_rfl) F20_call (mcheck_fn m) (by kernel_rfl) (by kernel_rfl) ?_
  refine OW.end 1 (x' := ⟨(acq40 m), (acq34 v a m)⟩) (by kernel_rfl) (by kernel_rfl) ?_
  refine thenL_norm ?_
  refine EL.seq ?_
  refine EL.sreg ?_
  refine OW.last 2 [3, 4, 5, 6, 9, 21] (x' := ⟨(21, .v (.bool (m.checkE != 0))) :: (9, VI m.checkE) :: acq35, (acq34 v a m)⟩) (by kernel_rfl) (by kernel_rfl) ?_
  rcases Bool.eq_false_or_eq_true ((m.checkE != 0)) with h2 | h2
  rw [h2]
  have g2 : ¬ (m.checkE = 0) := by simpa using h2
  refine EL.condT (by kernel_rfl) ?_
  refine EL.sreg ?_
  refine OW.last 5 [6, 7, 8] (x' := ⟨(acq41 m), (acq34 v a m)⟩) (by kernel_rfl) (by kernel_rfl) ?_
  refine EL.ret ?_
  refine thenL_ret ?_
  refine ⟨.inr rfl, .tup [.agg [VI 0, VI 0, VI 0, .v (.string (⟨#[]⟩)), VI 0, VI 0, .v (.string (⟨#[]⟩)), .v (.int .u64 0)], .emp, VI m.checkE], by kernel_rfl, Ale.trans (b := .tup [.agg [VI 0, VI 0, VI 0, .v (.string (⟨#[]⟩)), VI 0, VI 0, .v (.string (⟨#[]⟩)), .v (.int .u64 0)], .lst 6 [], VI m.checkE]) (Ale.tup (.cons (Ale.refl) (.cons (Ale.emp) (.cons (Ale.refl) (.nil))))) (Ale.of_eq ?_)⟩
  focus (first | rfl | (simp [hearA, Ask.zero, *]; done) | (simp_all [hearA, Ask.zero]; done))
  rw [h2]
  have g2 : (m.checkE = 0) := by simpa using h2
  refine EL.condF (by kernel_rfl) ?_
  refine EL.skip ?_
  refine thenL_norm ?_
  refine EL.sreg ?_
  refine OW.last 5 [4, 5, 6, 10] (x' := ⟨acq44, (acq43 v a m)⟩) (by kernel_rfl) (by kernel_rfl) ?_
  refine EL.sreg ?_
  refine OW.run 2 (x' := ⟨(30, (acq38 m)) :: (29, .ref 4 10 0 0) :: acq44, (acq43 v a m)⟩) (by kernel_rfl) ?_
  refine OW.fi (ar := [.ref 4 10 0 0, (acq38 m)]) (r := .tup [.lst 6 (((hearT v a m).2.1).map Msg.cs), .v (.bool ((hearT v a m).2.2))]) (m' := [some ⟨2, [[.lst 1 (v.weights.map cI), VI v.need]]⟩, some ⟨8, [[VI a.op, VI a.kind, VI a.phase, .v (.string a.data), VI a.best.at_.time, VI a.best.at_.who, .v (.string a.best.data), .v (.int .u64 (a.heard.n : Int))]]⟩, some ⟨6, [[VI m.kind, VI m.op, VI m.node, VI m.copy.at_.time, VI m.copy.at_.who, .v (.string m.copy.data)]]⟩, some ⟨8, [[VI 0, VI 0, VI 0, .v (.string (⟨#[]⟩)), VI 0, VI 0, .v (.string (⟨#[]⟩)), .v (.int .u64 0)]]⟩, some ⟨10, [[VI (((hearT v a m).1).op), VI (((hearT v a m).1).kind), VI (((hearT v a m).1).phase), .v (.string (((hearT v a m).1).data)), VI (((((hearT v a m).1).best).at_).time), VI (((((hearT v a m).1).best).at_).who), .v (.string ((((hearT v a m).1).best).data)), .v (.int .u64 (((hearT v a m).1).heard.n : Int)), .lst 1 (v.weights.map cI), VI v.need]]⟩]) (x' := ⟨(31, .tup [.lst 6 (((hearT v a m).2.1).map Msg.cs), .v (.bool ((hearT v a m).2.2))]) :: (30, (acq38 m)) :: (29, .ref 4 10 0 0) :: acq44, (acq46 v a m)⟩) (by kernel_rfl) (by kernel_rfl) F21_call ?_ (by kernel_rfl) ?_
  refine fi_walkA F21_ok (of_decide_eq_true (by kernel_rfl)) ?_
  refine EL.sreg ?_
  refine OW.last 3 [0, 3] (x' := ⟨[(3, .ref 5 6 0 0), (0, .ref 4 10 0 0)], (acq47 v a m)⟩) (by kernel_rfl) (by kernel_rfl) ?_
  refine EL.sreg ?_
  refine OW.run 2 (x' := ⟨(acq48 m), (acq47 v a m)⟩) (by kernel_rfl) ?_
  refine OW.ope (v := .v (.int .u64 (IntKind.u64.wrap (1 * 2 ^ (min (Int.toNat m.node) IntKind.u64.bits))))) (u := []) (acc := []) (x' := ⟨(12, .v (.int .u64 (IntKind.u64.wrap (1 * 2 ^ (min (Int.toNat m.node) IntKind.u64.bits))))) :: (acq48 m), (acq47 v a m)⟩) (by kernel_rfl) (opE_shl (.c (.v (.int .u64 1))) (.s 11) .u64 .i64 1 m.node (by kernel_rfl) (by kernel_rfl) (by kernel_rfl) (by kernel_rfl) (by have hvn := (msg_node (m := m) (by assumption)).1; omega)) (by kernel_rfl) ?_
  have e3 : IntKind.u64.wrap (1 * 2 ^ (min (Int.toNat m.node) IntKind.u64.bits)) = ((2 ^ (Int.toNat m.node) : Nat) : Int) := shl1 (by have hvn := (msg_node (m := m) (by assumption)).1; omega)
  rw [e3]
  refine OW.last 1 [0, 3, 6] (x' := ⟨(acq49 m), (acq47 v a m)⟩) (by kernel_rfl) (by kernel_rfl) ?_
  refine EL.sreg ?_
  refine OW.last 5 [0, 3, 6, 7] (x' := ⟨(7, .mp 6) :: (acq49 m), (acq50 v a m)⟩) (by kernel_rfl) (by kernel_rfl) ?_
  refine EL.seq ?_
  refine EL.sdraw ?_
  refine DW.run 9 (x' := ⟨(23, .v (.bool (m.op != a.op))) :: (22, .v (.bool (m.op != a.op))) :: (acq51 a m), (acq50 v a m)⟩) (by kernel_rfl) ?_
  rcases Bool.eq_false_or_eq_true ((m.op != a.op)) with h4 | h4
  rw [h4]
  have g4 : ¬ (m.op = a.op) := by simpa using h4
  refine DW.last 32 [0, 3, 6, 55] (x' := ⟨(55, .v (.bool true)) :: (acq49 m), (acq50 v a m)⟩) (by kernel_rfl) (by kernel_rfl) ?_
  refine EL.condT (by kernel_rfl) ?_
  refine EL.sreg ?_
  refine OW.last 2 [4, 5] (x' := ⟨[(5, .v (.bool false)), (4, .emp)], (acq50 v a m)⟩) (by kernel_rfl) (by kernel_rfl) ?_
  refine EL.ret ?_
  refine thenL_ret ?_
  have hE : hearT v a m = (a, [], false) := (by focus (first | (simp [hearT, heardA, wantsA, *]; done) | (simp_all [hearT, heardA, wantsA]; done) | (have hz9 : (andU a.heard m.node.toNat).n = 0 := (by omega); unfold hearT; rw [if_neg (by simp [wantsA, *]), if_neg (by simp [*]), if_neg (by omega), if_neg (by omega), if_neg (by simp [heardA, *])]; first | rfl | (simp [heardA, *]; done))))
  rw [hE]
  refine ⟨.inr rfl, ⟨[(4, .emp), (5, .v (.bool false))], [some ⟨2, [[.lst 1 (v.weights.map cI), VI v.need]]⟩, some ⟨8, [[VI a.op, VI a.kind, VI a.phase, .v (.string a.data), VI a.best.at_.time, VI a.best.at_.who, .v (.string a.best.data), .v (.int .u64 (a.heard.n : Int))]]⟩, some ⟨6, [[VI m.kind, VI m.op, VI m.node, VI m.copy.at_.time, VI m.copy.at_.who, .v (.string m.copy.data)]]⟩, some ⟨8, [[VI 0, VI 0, VI 0, .v (.string (⟨#[]⟩)), VI 0, VI 0, .v (.string (⟨#[]⟩)), .v (.int .u64 0)]]⟩, some ⟨10, [[VI a.op, VI a.kind, VI a.phase, .v (.string a.data), VI a.best.at_.time, VI a.best.at_.who, .v (.string a.best.data), .v (.int .u64 (a.heard.n : Int)), .lst 1 (v.weights.map cI), VI v.need]]⟩]⟩, norm_le (live := [4, 5]) (src := [.old 0 false, .old 1 false, .old 2 false, .old 3 false, .old 4 false]) (es := []) (by kernel_rfl) trivial, ⟨.tup [.emp, .v (.bool false)], by kernel_rfl, Ale.tup (.cons (Ale.emp) (.cons (Ale.refl) (.nil)))⟩, rfl⟩
  rw [h4]
  have g4 : (m.op = a.op) := by simpa using h4
  refine DW.run 8 (x' := ⟨(acq52 a m), (acq50 v a m)⟩) (by kernel_rfl) ?_
  rcases Bool.eq_false_or_eq_true ((a.phase == 1)) with h5 | h5
  try rw [h5]
  have g5 : (a.phase = 1) := by simpa using h5
  refine DW.ope (v := VI 2) (u := []) (acc := [6]) (x' := ⟨(32, VI 2) :: (acq52 a m), (acq50 v a m)⟩) (by kernel_rfl) (opE_mlk .int (VI 0) (.s 26) (.s 31) 6 [[VI 1, VI 2], [VI 2, VI 4]] (.int .i64 a.phase) (some (VI 2)) (by kernel_rfl) (by kernel_rfl) (by kernel_rfl) (by kernel_rfl) (by kernel_rfl) (by simp [mfind, keyEq, h5])) (by kernel_rfl) ?_
  refine DW.run 3 (x' := ⟨(35, .v (.bool (m.kind != 2))) :: (34, .v (.bool (m.kind != 2))) :: (33, .v (.bool (m.kind != 2))) :: (32, VI 2) :: (acq52 a m), (acq50 v a m)⟩) (by kernel_rfl) ?_
  rcases Bool.eq_false_or_eq_true ((m.kind != 2)) with h6 | h6
  rw [h6]
  have g6 : ¬ (m.kind = 2) := by simpa using h6
  refine DW.last 20 [0, 3, 6, 55] (x' := ⟨(55, .v (.bool true)) :: (acq49 m), (acq50 v a m)⟩) (by kernel_rfl) (by kernel_rfl) ?_
  refine EL.condT (by kernel_rfl) ?_
  refine EL.sreg ?_
  refine OW.last 2 [4, 5] (x' := ⟨[(5, .v (.bool false)), (4, .emp)], (acq50 v a m)⟩) (by kernel_rfl) (by kernel_rfl) ?_
  refine EL.ret ?_
  refine thenL_ret ?_
  have hE : hearT v a m = (a, [], false) := (by focus (first | (simp [hearT, heardA, wantsA, *]; done) | (simp_all [hearT, heardA, wantsA]; done) | (have hz9 : (andU a.heard m.node.toNat).n = 0 := (by omega); unfold hearT; rw [if_neg (by simp [wantsA, *]), if_neg (by simp [*]), if_neg (by omega), if_neg (by omega), if_neg (by simp [heardA, *])]; first | rfl | (simp [heardA, *]; done))))
  rw [hE]
  refine ⟨.inr rfl, ⟨[(4, .emp), (5, .v (.bool false))], [some ⟨2, [[.lst 1 (v.weights.map cI), VI v.need]]⟩, some ⟨8, [[VI a.op, VI a.kind, VI a.phase, .v (.string a.data), VI a.best.at_.time, VI a.best.at_.who, .v (.string a.best.data), .v (.int .u64 (a.heard.n : Int))]]⟩, some ⟨6, [[VI m.kind, VI m.op, VI m.node, VI m.copy.at_.time, VI m.copy.at_.who, .v (.string m.copy.data)]]⟩, some ⟨8, [[VI 0, VI 0, VI 0, .v (.string (⟨#[]⟩)), VI 0, VI 0, .v (.string (⟨#[]⟩)), .v (.int .u64 0)]]⟩, some ⟨10, [[VI a.op, VI a.kind, VI a.phase, .v (.string a.data), VI a.best.at_.time, VI a.best.at_.who, .v (.string a.best.data), .v (.int .u64 (a.heard.n : Int)), .lst 1 (v.weights.map cI), VI v.need]]⟩]⟩, norm_le (live := [4, 5]) (src := [.old 0 false, .old 1 false, .old 2 false, .old 3 false, .old 4 false]) (es := []) (by kernel_rfl) trivial, ⟨.tup [.emp, .v (.bool false)], by kernel_rfl, Ale.tup (.cons (Ale.emp) (.cons (Ale.refl) (.nil)))⟩, rfl⟩
  rw [h6]
  have g6 : (m.kind = 2) := by simpa using h6
  refine DW.run 7 (x' := ⟨(acq53 v m a), (acq50 v a m)⟩) (by kernel_rfl) ?_
  refine DW.ope (v := VI (List.length v.weights : Int)) (u := []) (acc := []) (x' := ⟨(43, VI (List.length v.weights : Int)) :: (acq53 v m a), (acq50 v a m)⟩) (by kernel_rfl) (opE_len cI v.weights (.s 42) 1 (by kernel_rfl) (by kernel_rfl) (.inl rfl)) (by kernel_rfl) ?_
  refine DW.run 3 (x' := ⟨(46, .v (.bool (decide (m.node ≥ (List.length v.weights : Int))))) :: (45, .v (.bool (decide (m.node ≥ (List.length v.weights : Int))))) :: (44, .v (.bool (decide (m.node ≥ (List.length v.weights : Int))))) :: (43, VI (List.length v.weights : Int)) :: (acq53 v m a), (acq50 v a m)⟩) (by kernel_rfl) ?_
  rcases Bool.eq_false_or_eq_true (decide (m.node ≥ (List.length v.weights : Int))) with h7 | h7
  rw [h7]
  have g7 : (m.node ≥ (List.length v.weights : Int)) := of_decide_eq_true h7
  refine DW.last 9 [0, 3, 6, 55] (x' := ⟨(55, .v (.bool true)) :: (acq49 m), (acq50 v a m)⟩) (by kernel_rfl) (by kernel_rfl) ?_
  refine EL.condT (by kernel_rfl) ?_
  refine EL.sreg ?_
  refine OW.last 2 [4, 5] (x' := ⟨[(5, .v (.bool false)), (4, .emp)], (acq50 v a m)⟩) (by kernel_rfl) (by kernel_rfl) ?_
  refine EL.ret ?_
  refine thenL_ret ?_
  have hE : hearT v a m = (a, [], false) := (by focus (first | (simp [hearT, heardA, wantsA, *]; done) | (simp_all [hearT, heardA, wantsA]; done) | (have hz9 : (andU a.heard m.node.toNat).n = 0 := (by omega); unfold hearT; rw [if_neg (by simp [wantsA, *]), if_neg (by simp [*]), if_neg (by omega), if_neg (by omega), if_neg (by simp [heardA, *])]; first | rfl | (simp [heardA, *]; done))))
  rw [hE]
  refine ⟨.inr rfl, ⟨[(4, .emp), (5, .v (.bool false))], [some ⟨2, [[.lst 1 (v.weights.map cI), VI v.need]]⟩, some ⟨8, [[VI a.op, VI a.kind, VI a.phase, .v (.string a.data), VI a.best.at_.time, VI a.best.at_.who, .v (.string a.best.data), .v (.int .u64 (a.heard.n : Int))]]⟩, some ⟨6, [[VI m.kind, VI m.op, VI m.node, VI m.copy.at_.time, VI m.copy.at_.who, .v (.string m.copy.data)]]⟩, some ⟨8, [[VI 0, VI 0, VI 0, .v (.string (⟨#[]⟩)), VI 0, VI 0, .v (.string (⟨#[]⟩)), .v (.int .u64 0)]]⟩, some ⟨10, [[VI a.op, VI a.kind, VI a.phase, .v (.string a.data), VI a.best.at_.time, VI a.best.at_.who, .v (.string a.best.data), .v (.int .u64 (a.heard.n : Int)), .lst 1 (v.weights.map cI), VI v.need]]⟩]⟩, norm_le (live := [4, 5]) (src := [.old 0 false, .old 1 false, .old 2 false, .old 3 false, .old 4 false]) (es := []) (by kernel_rfl) trivial, ⟨.tup [.emp, .v (.bool false)], by kernel_rfl, Ale.tup (.cons (Ale.emp) (.cons (Ale.refl) (.nil)))⟩, rfl⟩
  rw [h7]
  have g7 : ¬ (m.node ≥ (List.length v.weights : Int)) := of_decide_eq_false h7
  refine DW.run 9 (x' := ⟨(55, .v (.bool ((bits .and .u64 (a.heard.n : Int) ((2 ^ (Int.toNat m.node) : Nat) : Int)) != 0))) :: (54, .v (.bool ((bits .and .u64 (a.heard.n : Int) ((2 ^ (Int.toNat m.node) : Nat) : Int)) != 0))) :: (53, .v (.int .u64 (bits .and .u64 (a.heard.n : Int) ((2 ^ (Int.toNat m.node) : Nat) : Int)))) :: (acq54 m a v), (acq50 v a m)⟩) (by kernel_rfl) ?_
  have e8 : bits .and .u64 (a.heard.n : Int) ((2 ^ (Int.toNat m.node) : Nat) : Int) = ((andU a.heard (Int.toNat m.node)).n : Int) := andU_bits (by have hvn := (msg_node (m := m) (by assumption)).1; omega)
  rw [e8]
  clear e8
  refine DW.last 0 [0, 3, 6, 55] (x' := ⟨(55, .v (.bool (((andU a.heard (Int.toNat m.node)).n : Int) != 0))) :: (acq49 m), (acq50 v a m)⟩) (by kernel_rfl) (by kernel_rfl) ?_
  rcases Bool.eq_false_or_eq_true ((((andU a.heard (Int.toNat m.node)).n : Int) != 0)) with h9 | h9
  rw [h9]
  have g9 : ¬ (((andU a.heard (Int.toNat m.node)).n : Int) = 0) := by simpa using h9
  refine EL.condT (by kernel_rfl) ?_
  refine EL.sreg ?_
  refine OW.last 2 [4, 5] (x' := ⟨[(5, .v (.bool false)), (4, .emp)], (acq50 v a m)⟩) (by kernel_rfl) (by kernel_rfl) ?_
  refine EL.ret ?_
  refine thenL_ret ?_
  have hE : hearT v a m = (a, [], false) := (by focus (first | (simp [hearT, heardA, wantsA, *]; done) | (simp_all [hearT, heardA, wantsA]; done) | (have hz9 : (andU a.heard m.node.toNat).n = 0 := (by omega); unfold hearT; rw [if_neg (by simp [wantsA, *]), if_neg (by simp [*]), if_neg (by omega), if_neg (by omega), if_neg (by simp [heardA, *])]; first | rfl | (simp [heardA, *]; done))))
  rw [hE]
  refine ⟨.inr rfl, ⟨[(4, .emp), (5, .v (.bool false))], [some ⟨2, [[.lst 1 (v.weights.map cI), VI v.need]]⟩, some ⟨8, [[VI a.op, VI a.kind, VI a.phase, .v (.string a.data), VI a.best.at_.time, VI a.best.at_.who, .v (.string a.best.data), .v (.int .u64 (a.heard.n : Int))]]⟩, some ⟨6, [[VI m.kind, VI m.op, VI m.node, VI m.copy.at_.time, VI m.copy.at_.who, .v (.string m.copy.data)]]⟩, some ⟨8, [[VI 0, VI 0, VI 0, .v (.string (⟨#[]⟩)), VI 0, VI 0, .v (.string (⟨#[]⟩)), .v (.int .u64 0)]]⟩, some ⟨10, [[VI a.op, VI a.kind, VI a.phase, .v (.string a.data), VI a.best.at_.time, VI a.best.at_.who, .v (.string a.best.data), .v (.int .u64 (a.heard.n : Int)), .lst 1 (v.weights.map cI), VI v.need]]⟩]⟩, norm_le (live := [4, 5]) (src := [.old 0 false, .old 1 false, .old 2 false, .old 3 false, .old 4 false]) (es := []) (by kernel_rfl) trivial, ⟨.tup [.emp, .v (.bool false)], by kernel_rfl, Ale.tup (.cons (Ale.emp) (.cons (Ale.refl) (.nil)))⟩, rfl⟩
  rw [h9]
  have g9 : (((andU a.heard (Int.toNat m.node)).n : Int) = 0) := by simpa using h9
  refine EL.condF (by kernel_rfl) ?_
  refine EL.skip ?_
  refine thenL_norm ?_
  refine EL.sreg ?_
  refine OW.run 11 (x' := ⟨(65, .ref 4 10 0 7) :: (64, .ref 4 10 0 0) :: (63, .ref 4 10 0 0) :: (62, .v (.int .u64 (bits .or .u64 (a.heard.n : Int) ((2 ^ (Int.toNat m.node) : Nat) : Int)))) :: (acq55 m a), [some ⟨2, [[.lst 1 (v.weights.map cI), VI v.need]]⟩, (acq31 a), (acq32 m), acq33, some ⟨10, [[VI a.op, VI a.kind, VI a.phase, .v (.string a.data), VI a.best.at_.time, VI a.best.at_.who, .v (.string a.best.data), .v (.int .u64 (bits .or .u64 (a.heard.n : Int) ((2 ^ (Int.toNat m.node) : Nat) : Int))), .lst 1 (v.weights.map cI), VI v.need]]⟩, (acq32 m), some ⟨0, [[VI 1, VI 2], [VI 2, VI 4]]⟩]⟩) (by kernel_rfl) ?_
  have e10 : bits .or .u64 (a.heard.n : Int) ((2 ^ (Int.toNat m.node) : Nat) : Int) = ((orU a.heard (Int.toNat m.node)).n : Int) := orU_bits (by have hvn := (msg_node (m := m) (by assumption)).1; omega)
  rw [e10]
  clear e10
  refine OW.last 0 [0, 3] (x' := ⟨[(3, .ref 5 6 0 0), (0, .ref 4 10 0 0)], (acq57 v a m)⟩) (by kernel_rfl) (by kernel_rfl) ?_
  refine EL.seq ?_
  refine EL.sreg ?_
  refine OW.last 6 [0, 3, 71] (x' := ⟨[(71, .v (.bool (a.phase == 1))), (3, .ref 5 6 0 0), (0, .ref 4 10 0 0)], (acq57 v a m)⟩) (by kernel_rfl) (by kernel_rfl) ?_
  rw [h5]
  refine EL.condT (by kernel_rfl) ?_
  refine EL.draw0 ?_
  refine DW.run 8 (x' := ⟨(acq60 m a), (acq57 v a m)⟩) (by kernel_rfl) ?_
  refine DW.fn (ar := [(acq59 a), (acq58 m)]) (x' := ⟨(80, (acq61 a m)) :: (acq60 m a), (acq57 v a m)⟩) (by kernel_rfl) (by kernel_rfl) F38_call (raw_fn a.best m.copy) (by kernel_rfl) (by kernel_rfl) ?_
  refine DW.end 4 (x' := ⟨(acq64 a m), (acq63 v a m)⟩) (by kernel_rfl) (by kernel_rfl) ?_
  refine thenL_norm ?_
  refine EL.seq ?_
  refine EL.sdraw ?_
  refine DW.run 15 (x' := ⟨(acq65 a m v), (acq63 v a m)⟩) (by kernel_rfl) ?_
  refine DW.fn (ar := [.lst 1 (v.weights.map cI), VI v.need, .v (.int .u64 ((orU a.heard (Int.toNat m.node)).n : Int))]) (x' := ⟨(100, .tup [.v (.bool ((enoughP v.weights v.need (orU a.heard (Int.toNat m.node)).n).1)), VI ((enoughP v.weights v.need (orU a.heard (Int.toNat m.node)).n).2)]) :: (acq65 a m v), (acq63 v a m)⟩) (by kernel_rfl) (by kernel_rfl) F19_call (enough_fn v.weights v.need (orU a.heard (Int.toNat m.node)) hx) (by kernel_rfl) (by kernel_rfl) ?_
  refine DW.last 5 [0, 8] (x' := ⟨[(8, .v (.bool ((enoughP v.weights v.need (orU a.heard (Int.toNat m.node)).n).1))), (0, .ref 4 10 0 0)], (acq63 v a m)⟩) (by kernel_rfl) (by kernel_rfl) ?_
  refine EL.sreg ?_
  refine OW.last 2 [0, 104] (x' := ⟨[(104, .v (.bool (!((enoughP v.weights v.need (orU a.heard (Int.toNat m.node)).n).1)))), (0, .ref 4 10 0 0)], (acq63 v a m)⟩) (by kernel_rfl) (by kernel_rfl) ?_
  rcases Bool.eq_false_or_eq_true ((enoughP v.weights v.need (orU a.heard (Int.toNat m.node)).n).1) with h11 | h11
  rw [h11]
  refine EL.condF (by kernel_rfl) ?_
  refine EL.skip ?_
  refine thenL_norm ?_
  refine EL.seq ?_
  refine EL.sreg ?_
  refine OW.last 6 [0, 110] (x' := ⟨[(110, .v (.bool (a.phase == 2))), (0, .ref 4 10 0 0)], (acq63 v a m)⟩) (by kernel_rfl) (by kernel_rfl) ?_
  rcases Bool.eq_false_or_eq_true ((a.phase == 2)) with h12 | h12
  rw [h12]
  have g12 : (a.phase = 2) := by simpa using h12
  refine EL.condT (by kernel_rfl) ?_
  refine EL.sreg ?_
  refine OW.last 5 [] (x' := ⟨[], (acq67 v a m)⟩) (by kernel_rfl) (by kernel_rfl) ?_
  refine EL.sreg ?_
  refine OW.last 2 [4, 5] (x' := ⟨[(5, .v (.bool true)), (4, .emp)], (acq67 v a m)⟩) (by kernel_rfl) (by kernel_rfl) ?_
  refine EL.ret ?_
  refine thenL_ret ?_
  have hE : hearT v a m = ((⟨a.op, a.kind, 3, a.data, (⟨((a.best.raw m.copy).at_), (a.best.raw m.copy).data⟩ : Copy), (orU a.heard (Int.toNat m.node))⟩ : Ask), [], true) := (by focus (first | (simp [hearT, heardA, wantsA, *]; done) | (simp_all [hearT, heardA, wantsA]; done) | (have hz9 : (andU a.heard m.node.toNat).n = 0 := (by omega); unfold hearT; rw [if_neg (by simp [wantsA, *]), if_neg (by simp [*]), if_neg (by omega), if_neg (by omega), if_neg (by simp [heardA, *])]; first | rfl | (simp [heardA, *]; done))))
  rw [hE]
  refine ⟨.inr rfl, ⟨[(4, .emp), (5, .v (.bool true))], [some ⟨2, [[.lst 1 (v.weights.map cI), VI v.need]]⟩, some ⟨8, [[VI a.op, VI a.kind, VI a.phase, .v (.string a.data), VI a.best.at_.time, VI a.best.at_.who, .v (.string a.best.data), .v (.int .u64 (a.heard.n : Int))]]⟩, some ⟨6, [[VI m.kind, VI m.op, VI m.node, VI m.copy.at_.time, VI m.copy.at_.who, .v (.string m.copy.data)]]⟩, some ⟨8, [[VI 0, VI 0, VI 0, .v (.string (⟨#[]⟩)), VI 0, VI 0, .v (.string (⟨#[]⟩)), .v (.int .u64 0)]]⟩, some ⟨10, [[VI a.op, VI a.kind, VI 3, .v (.string a.data), VI (((a.best.raw m.copy).at_).time), VI (((a.best.raw m.copy).at_).who), .v (.string ((a.best.raw m.copy).data)), .v (.int .u64 ((orU a.heard (Int.toNat m.node)).n : Int)), .lst 1 (v.weights.map cI), VI v.need]]⟩]⟩, norm_le (live := [4, 5]) (src := [.old 0 false, .old 1 false, .old 2 false, .old 3 false, .old 4 false]) (es := []) (by kernel_rfl) trivial, ⟨.tup [.emp, .v (.bool true)], by kernel_rfl, Ale.tup (.cons (Ale.emp) (.cons (Ale.refl) (.nil)))⟩, rfl⟩
  rw [h12]
  have g12 : ¬ (a.phase = 2) := by simpa using h12
  refine EL.condF (by kernel_rfl) ?_
  refine EL.skip ?_
  refine thenL_norm ?_
  refine EL.seq ?_
  refine EL.sreg ?_
  refine OW.run 1 (x' := ⟨acq68, (acq63 v a m)⟩) (by kernel_rfl) ?_
  rcases Bool.eq_false_or_eq_true ((a.kind == 1)) with h13 | h13
  try rw [h13]
  have g13 : (a.kind = 1) := by simpa using h13
  refine OW.fi (ar := [.ref 4 10 0 0]) (r := .v (.bool true)) (m' := (acq63 v a m)) (x' := ⟨(116, .v (.bool true)) :: acq68, (acq63 v a m)⟩) (by kernel_rfl) (by kernel_rfl) F44_call ?_ (by kernel_rfl) ?_
  refine fi_walkW F44_ok (of_decide_eq_true (by kernel_rfl)) ?_
  refine EL.sreg ?_
  refine OW.last 1 [0] (x' := ⟨[(0, .ref 4 10 0 0)], (acq63 v a m)⟩) (by kernel_rfl) (by kernel_rfl) ?_
  refine EL.seq ?_
  refine EL.sreg ?_
  refine OW.last 6 [0, 10] (x' := ⟨[(10, .v (.bool (a.kind == 1))), (0, .ref 4 10 0 0)], (acq63 v a m)⟩) (by kernel_rfl) (by kernel_rfl) ?_
  rw [h13]
  refine EL.condT (by kernel_rfl) ?_
  refine EL.sreg ?_
  refine OW.last 1 [2] (x' := ⟨[(2, .v (.bool true))], (acq63 v a m)⟩) (by kernel_rfl) (by kernel_rfl) ?_
  refine EL.ret ?_
  refine thenL_ret ?_
  refine ⟨.inr rfl, ⟨[(2, .v (.bool true))], (acq63 v a m)⟩, norm_le (live := [2]) (src := [.old 0 false, .old 1 false, .old 2 false, .old 3 false, .old 4 false, .old 5 false, .old 6 false]) (es := []) (by kernel_rfl) trivial, by kernel_rfl, rfl⟩
  refine OW.last 1 [0, 117] (x' := ⟨[(117, .v (.bool false)), (0, .ref 4 10 0 0)], (acq63 v a m)⟩) (by kernel_rfl) (by kernel_rfl) ?_
  refine EL.condF (by kernel_rfl) ?_
  refine EL.skip ?_
  refine thenL_norm ?_
  refine EL.sreg ?_
  refine OW.last 10 [0] (x' := ⟨[(0, .ref 4 10 0 0)], (acq70 v a m)⟩) (by kernel_rfl) (by kernel_rfl) ?_
  refine EL.sdraw ?_
  refine DW.run 15 (x' := ⟨(acq72 a m v), (acq70 v a m)⟩) (by kernel_rfl) ?_
  refine DW.fn (ar := [.agg [.lst 1 (v.weights.map cI), VI v.need], (acq71 a m)]) (x' := ⟨(acq73 v a m), (acq70 v a m)⟩) (by kernel_rfl) (by kernel_rfl) F22_call (toAllM_fn v (⟨3, a.op, 0, (⟨((a.best.raw m.copy).at_), (a.best.raw m.copy).data⟩ : Copy)⟩ : Msg) (qc_len (ask_ok (a := a) (by assumption)).1)) (by kernel_rfl) (by kernel_rfl) ?_
  refine DW.last 2 [4, 5] (x' := ⟨[(5, .v (.bool true)), (4, .lst 6 ((toAllM v.weights.length (⟨3, a.op, 0, (⟨((a.best.raw m.copy).at_), (a.best.raw m.copy).data⟩ : Copy)⟩ : Msg)).map Msg.cs))], (acq70 v a m)⟩) (by kernel_rfl) (by kernel_rfl) ?_
  refine EL.ret ?_
  have hE : hearT v a m = ((⟨a.op, a.kind, 2, a.data, (⟨((a.best.raw m.copy).at_), (a.best.raw m.copy).data⟩ : Copy), (⟨0, by decide⟩ : U64)⟩ : Ask), toAllM v.weights.length (⟨3, a.op, 0, (⟨((a.best.raw m.copy).at_), (a.best.raw m.copy).data⟩ : Copy)⟩ : Msg), true) := (by focus (first | (simp [hearT, heardA, wantsA, *]; done) | (simp_all [hearT, heardA, wantsA]; done) | (have hz9 : (andU a.heard m.node.toNat).n = 0 := (by omega); unfold hearT; rw [if_neg (by simp [wantsA, *]), if_neg (by simp [*]), if_neg (by omega), if_neg (by omega), if_neg (by simp [heardA, *])]; first | rfl | (simp [heardA, *]; done))))
  rw [hE]
  refine ⟨.inr rfl, ⟨[(4, .lst 6 ((toAllM v.weights.length (⟨3, a.op, 0, (⟨((a.best.raw m.copy).at_), (a.best.raw m.copy).data⟩ : Copy)⟩ : Msg)).map Msg.cs)), (5, .v (.bool true))], [some ⟨2, [[.lst 1 (v.weights.map cI), VI v.need]]⟩, some ⟨8, [[VI a.op, VI a.kind, VI a.phase, .v (.string a.data), VI a.best.at_.time, VI a.best.at_.who, .v (.string a.best.data), .v (.int .u64 (a.heard.n : Int))]]⟩, some ⟨6, [[VI m.kind, VI m.op, VI m.node, VI m.copy.at_.time, VI m.copy.at_.who, .v (.string m.copy.data)]]⟩, some ⟨8, [[VI 0, VI 0, VI 0, .v (.string (⟨#[]⟩)), VI 0, VI 0, .v (.string (⟨#[]⟩)), .v (.int .u64 0)]]⟩, some ⟨10, [[VI a.op, VI a.kind, VI 2, .v (.string a.data), VI (((a.best.raw m.copy).at_).time), VI (((a.best.raw m.copy).at_).who), .v (.string ((a.best.raw m.copy).data)), .v (.int .u64 0), .lst 1 (v.weights.map cI), VI v.need]]⟩]⟩, norm_le (live := [4, 5]) (src := [.old 0 false, .old 1 false, .old 2 false, .old 3 false, .old 4 false]) (es := []) (by kernel_rfl) trivial, ⟨.tup [.lst 6 ((toAllM v.weights.length (⟨3, a.op, 0, (⟨((a.best.raw m.copy).at_), (a.best.raw m.copy).data⟩ : Copy)⟩ : Msg)).map Msg.cs), .v (.bool true)], by kernel_rfl, Ale.refl⟩, rfl⟩
  try rw [h13]
  have g13 : ¬ (a.kind = 1) := by simpa using h13
  refine OW.fi (ar := [.ref 4 10 0 0]) (r := .v (.bool (((nextP ((a.best.raw m.copy).at_) a.op).2) == 0))) (m' := (acq85 v a m)) (x' := ⟨(116, .v (.bool (((nextP ((a.best.raw m.copy).at_) a.op).2) == 0))) :: acq68, (acq85 v a m)⟩) (by kernel_rfl) (by kernel_rfl) F44_call ?_ (by kernel_rfl) ?_
  refine fi_walkW F44_ok (of_decide_eq_true (by kernel_rfl)) ?_
  refine EL.sreg ?_
  refine OW.last 1 [0] (x' := ⟨[(0, .ref 4 10 0 0)], (acq63 v a m)⟩) (by kernel_rfl) (by kernel_rfl) ?_
  refine EL.seq ?_
  refine EL.sreg ?_
  refine OW.last 6 [0, 10] (x' := ⟨[(10, .v (.bool (a.kind == 1))), (0, .ref 4 10 0 0)], (acq63 v a m)⟩) (by kernel_rfl) (by kernel_rfl) ?_
  rw [h13]
  refine EL.condF (by kernel_rfl) ?_
  refine EL.skip ?_
  refine thenL_norm ?_
  refine EL.sdraw ?_
  refine DW.run 12 (x' := ⟨(acq77 a m), (acq76 v a m)⟩) (by kernel_rfl) ?_
  refine DW.fn (ar := [.own 7 2 0 1, VI a.op]) (x' := ⟨(acq79 a m), (acq76 v a m)⟩) (by kernel_rfl) (by kernel_rfl) F56_call (next_fn ((a.best.raw m.copy).at_) a.op) (by kernel_rfl) (by kernel_rfl) ?_
  refine DW.last 6 [0, 3, 4] (x' := ⟨(acq82 a m), (acq81 v a m)⟩) (by kernel_rfl) (by kernel_rfl) ?_
  refine EL.sdraw ?_
  refine DW.last 12 [4] (x' := ⟨[(4, VI ((nextP ((a.best.raw m.copy).at_) a.op).2))], (acq84 v a m)⟩) (by kernel_rfl) (by kernel_rfl) ?_
  refine EL.sreg ?_
  refine OW.last 3 [2] (x' := ⟨[(2, .v (.bool (((nextP ((a.best.raw m.copy).at_) a.op).2) == 0)))], (acq84 v a m)⟩) (by kernel_rfl) (by kernel_rfl) ?_
  refine EL.ret ?_
  refine ⟨.inr rfl, ⟨[(2, .v (.bool (((nextP ((a.best.raw m.copy).at_) a.op).2) == 0)))], (acq85 v a m)⟩, norm_le (live := [2]) (src := [.old 0 false, .old 1 false, .old 2 false, .old 3 false, .old 4 false, .old 5 false, .old 6 false]) (es := []) (by kernel_rfl) trivial, by kernel_rfl, rfl⟩
  refine OW.last 1 [0, 117] (x' := ⟨[(117, .v (.bool (!(((nextP ((a.best.raw m.copy).at_) a.op).2) == 0)))), (0, .ref 4 10 0 0)], (acq85 v a m)⟩) (by kernel_rfl) (by kernel_rfl) ?_
  rcases Bool.eq_false_or_eq_true ((((nextP ((a.best.raw m.copy).at_) a.op).2) == 0)) with h14 | h14
  rw [h14]
  have g14 : (((nextP ((a.best.raw m.copy).at_) a.op).2) = 0) := by simpa using h14
  refine EL.condF (by kernel_rfl) ?_
  refine EL.skip ?_
  refine thenL_norm ?_
  refine EL.sreg ?_
  refine OW.last 10 [0] (x' := ⟨[(0, .ref 4 10 0 0)], (acq87 v a m)⟩) (by kernel_rfl) (by kernel_rfl) ?_
  refine EL.sdraw ?_
  refine DW.run 15 (x' := ⟨(acq90 a m v), (acq87 v a m)⟩) (by kernel_rfl) ?_
  refine DW.fn (ar := [.agg [.lst 1 (v.weights.map cI), VI v.need], (acq88 a m)]) (x' := ⟨(acq91 v a m), (acq87 v a m)⟩) (by kernel_rfl) (by kernel_rfl) F22_call (toAllM_fn v (⟨3, a.op, 0, (⟨((nextP ((a.best.raw m.copy).at_) a.op).1), a.data⟩ : Copy)⟩ : Msg) (qc_len (ask_ok (a := a) (by assumption)).1)) (by kernel_rfl) (by kernel_rfl) ?_
  refine DW.last 2 [4, 5] (x' := ⟨[(5, .v (.bool true)), (4, .lst 6 ((toAllM v.weights.length (⟨3, a.op, 0, (⟨((nextP ((a.best.raw m.copy).at_) a.op).1), a.data⟩ : Copy)⟩ : Msg)).map Msg.cs))], (acq87 v a m)⟩) (by kernel_rfl) (by kernel_rfl) ?_
  refine EL.ret ?_
  have hE : hearT v a m = ((⟨a.op, a.kind, 2, a.data, (⟨((nextP ((a.best.raw m.copy).at_) a.op).1), a.data⟩ : Copy), (⟨0, by decide⟩ : U64)⟩ : Ask), toAllM v.weights.length (⟨3, a.op, 0, (⟨((nextP ((a.best.raw m.copy).at_) a.op).1), a.data⟩ : Copy)⟩ : Msg), true) := (by focus (first | (simp [hearT, heardA, wantsA, *]; done) | (simp_all [hearT, heardA, wantsA]; done) | (have hz9 : (andU a.heard m.node.toNat).n = 0 := (by omega); unfold hearT; rw [if_neg (by simp [wantsA, *]), if_neg (by simp [*]), if_neg (by omega), if_neg (by omega), if_neg (by simp [heardA, *])]; first | rfl | (simp [heardA, *]; done))))
  rw [hE]
  refine ⟨.inr rfl, ⟨[(4, .lst 6 ((toAllM v.weights.length (⟨3, a.op, 0, (⟨((nextP ((a.best.raw m.copy).at_) a.op).1), a.data⟩ : Copy)⟩ : Msg)).map Msg.cs)), (5, .v (.bool true))], [some ⟨2, [[.lst 1 (v.weights.map cI), VI v.need]]⟩, some ⟨8, [[VI a.op, VI a.kind, VI a.phase, .v (.string a.data), VI a.best.at_.time, VI a.best.at_.who, .v (.string a.best.data), .v (.int .u64 (a.heard.n : Int))]]⟩, some ⟨6, [[VI m.kind, VI m.op, VI m.node, VI m.copy.at_.time, VI m.copy.at_.who, .v (.string m.copy.data)]]⟩, some ⟨8, [[VI 0, VI 0, VI 0, .v (.string (⟨#[]⟩)), VI 0, VI 0, .v (.string (⟨#[]⟩)), .v (.int .u64 0)]]⟩, some ⟨10, [[VI a.op, VI a.kind, VI 2, .v (.string a.data), VI (((nextP ((a.best.raw m.copy).at_) a.op).1).time), VI (((nextP ((a.best.raw m.copy).at_) a.op).1).who), .v (.string a.data), .v (.int .u64 0), .lst 1 (v.weights.map cI), VI v.need]]⟩]⟩, norm_le (live := [4, 5]) (src := [.old 0 false, .old 1 false, .old 2 false, .old 3 false, .old 4 false]) (es := []) (by kernel_rfl) trivial, ⟨.tup [.lst 6 ((toAllM v.weights.length (⟨3, a.op, 0, (⟨((nextP ((a.best.raw m.copy).at_) a.op).1), a.data⟩ : Copy)⟩ : Msg)).map Msg.cs), .v (.bool true)], by kernel_rfl, Ale.refl⟩, rfl⟩
  rw [h14]
  have g14 : ¬ (((nextP ((a.best.raw m.copy).at_) a.op).2) = 0) := by simpa using h14
  refine EL.condT (by kernel_rfl) ?_
  refine EL.sreg ?_
  refine OW.last 2 [4, 5] (x' := ⟨[(5, .v (.bool false)), (4, .emp)], (acq85 v a m)⟩) (by kernel_rfl) (by kernel_rfl) ?_
  refine EL.ret ?_
  refine thenL_ret ?_
  have hE : hearT v a m = ((⟨a.op, a.kind, a.phase, a.data, (⟨((nextP ((a.best.raw m.copy).at_) a.op).1), a.data⟩ : Copy), (orU a.heard (Int.toNat m.node))⟩ : Ask), [], false) := (by focus (first | (simp [hearT, heardA, wantsA, *]; done) | (simp_all [hearT, heardA, wantsA]; done) | (have hz9 : (andU a.heard m.node.toNat).n = 0 := (by omega); unfold hearT; rw [if_neg (by simp [wantsA, *]), if_neg (by simp [*]), if_neg (by omega), if_neg (by omega), if_neg (by simp [heardA, *])]; first | rfl | (simp [heardA, *]; done))))
  rw [hE]
  refine ⟨.inr rfl, ⟨[(4, .emp), (5, .v (.bool false))], [some ⟨2, [[.lst 1 (v.weights.map cI), VI v.need]]⟩, some ⟨8, [[VI a.op, VI a.kind, VI a.phase, .v (.string a.data), VI a.best.at_.time, VI a.best.at_.who, .v (.string a.best.data), .v (.int .u64 (a.heard.n : Int))]]⟩, some ⟨6, [[VI m.kind, VI m.op, VI m.node, VI m.copy.at_.time, VI m.copy.at_.who, .v (.string m.copy.data)]]⟩, some ⟨8, [[VI 0, VI 0, VI 0, .v (.string (⟨#[]⟩)), VI 0, VI 0, .v (.string (⟨#[]⟩)), .v (.int .u64 0)]]⟩, some ⟨10, [[VI a.op, VI a.kind, VI a.phase, .v (.string a.data), VI (((nextP ((a.best.raw m.copy).at_) a.op).1).time), VI (((nextP ((a.best.raw m.copy).at_) a.op).1).who), .v (.string a.data), .v (.int .u64 ((orU a.heard (Int.toNat m.node)).n : Int)), .lst 1 (v.weights.map cI), VI v.need]]⟩]⟩, norm_le (live := [4, 5]) (src := [.old 0 false, .old 1 false, .old 2 false, .old 3 false, .old 4 false]) (es := []) (by kernel_rfl) trivial, ⟨.tup [.emp, .v (.bool false)], by kernel_rfl, Ale.tup (.cons (Ale.emp) (.cons (Ale.refl) (.nil)))⟩, rfl⟩
  rw [h11]
  refine EL.condT (by kernel_rfl) ?_
  refine EL.sreg ?_
  refine OW.last 2 [4, 5] (x' := ⟨[(5, .v (.bool true)), (4, .emp)], (acq63 v a m)⟩) (by kernel_rfl) (by kernel_rfl) ?_
  refine EL.ret ?_
  refine thenL_ret ?_
  have hE : hearT v a m = ((⟨a.op, a.kind, a.phase, a.data, (⟨((a.best.raw m.copy).at_), (a.best.raw m.copy).data⟩ : Copy), (orU a.heard (Int.toNat m.node))⟩ : Ask), [], true) := (by focus (first | (simp [hearT, heardA, wantsA, *]; done) | (simp_all [hearT, heardA, wantsA]; done) | (have hz9 : (andU a.heard m.node.toNat).n = 0 := (by omega); unfold hearT; rw [if_neg (by simp [wantsA, *]), if_neg (by simp [*]), if_neg (by omega), if_neg (by omega), if_neg (by simp [heardA, *])]; first | rfl | (simp [heardA, *]; done))))
  rw [hE]
  refine ⟨.inr rfl, ⟨[(4, .emp), (5, .v (.bool true))], [some ⟨2, [[.lst 1 (v.weights.map cI), VI v.need]]⟩, some ⟨8, [[VI a.op, VI a.kind, VI a.phase, .v (.string a.data), VI a.best.at_.time, VI a.best.at_.who, .v (.string a.best.data), .v (.int .u64 (a.heard.n : Int))]]⟩, some ⟨6, [[VI m.kind, VI m.op, VI m.node, VI m.copy.at_.time, VI m.copy.at_.who, .v (.string m.copy.data)]]⟩, some ⟨8, [[VI 0, VI 0, VI 0, .v (.string (⟨#[]⟩)), VI 0, VI 0, .v (.string (⟨#[]⟩)), .v (.int .u64 0)]]⟩, some ⟨10, [[VI a.op, VI a.kind, VI a.phase, .v (.string a.data), VI (((a.best.raw m.copy).at_).time), VI (((a.best.raw m.copy).at_).who), .v (.string ((a.best.raw m.copy).data)), .v (.int .u64 ((orU a.heard (Int.toNat m.node)).n : Int)), .lst 1 (v.weights.map cI), VI v.need]]⟩]⟩, norm_le (live := [4, 5]) (src := [.old 0 false, .old 1 false, .old 2 false, .old 3 false, .old 4 false]) (es := []) (by kernel_rfl) trivial, ⟨.tup [.emp, .v (.bool true)], by kernel_rfl, Ale.tup (.cons (Ale.emp) (.cons (Ale.refl) (.nil)))⟩, rfl⟩
  try rw [h5]
  have g5 : ¬ (a.phase = 1) := by simpa using h5
  rcases Bool.eq_false_or_eq_true ((a.phase == 2)) with h15 | h15
  try rw [h15]
  have g15 : (a.phase = 2) := by simpa using h15
  refine DW.ope (v := VI 4) (u := []) (acc := [6]) (x' := ⟨(32, VI 4) :: (acq52 a m), (acq50 v a m)⟩) (by kernel_rfl) (opE_mlk .int (VI 0) (.s 26) (.s 31) 6 [[VI 1, VI 2], [VI 2, VI 4]] (.int .i64 a.phase) (some (VI 4)) (by kernel_rfl) (by kernel_rfl) (by kernel_rfl) (by kernel_rfl) (by kernel_rfl) (by simp [mfind, keyEq, h5, h15])) (by kernel_rfl) ?_
  refine DW.run 3 (x' := ⟨(35, .v (.bool (m.kind != 4))) :: (34, .v (.bool (m.kind != 4))) :: (33, .v (.bool (m.kind != 4))) :: (32, VI 4) :: (acq52 a m), (acq50 v a m)⟩) (by kernel_rfl) ?_
  rcases Bool.eq_false_or_eq_true ((m.kind != 4)) with h16 | h16
  rw [h16]
  have g16 : ¬ (m.kind = 4) := by simpa using h16
  refine DW.last 20 [0, 3, 6, 55] (x' := ⟨(55, .v (.bool true)) :: (acq49 m), (acq50 v a m)⟩) (by kernel_rfl) (by kernel_rfl) ?_
  refine EL.condT (by kernel_rfl) ?_
  refine EL.sreg ?_
  refine OW.last 2 [4, 5] (x' := ⟨[(5, .v (.bool false)), (4, .emp)], (acq50 v a m)⟩) (by kernel_rfl) (by kernel_rfl) ?_
  refine EL.ret ?_
  refine thenL_ret ?_
  have hE : hearT v a m = (a, [], false) := (by focus (first | (simp [hearT, heardA, wantsA, *]; done) | (simp_all [hearT, heardA, wantsA]; done) | (have hz9 : (andU a.heard m.node.toNat).n = 0 := (by omega); unfold hearT; rw [if_neg (by simp [wantsA, *]), if_neg (by simp [*]), if_neg (by omega), if_neg (by omega), if_neg (by simp [heardA, *])]; first | rfl | (simp [heardA, *]; done))))
  rw [hE]
  refine ⟨.inr rfl, ⟨[(4, .emp), (5, .v (.bool false))], [some ⟨2, [[.lst 1 (v.weights.map cI), VI v.need]]⟩, some ⟨8, [[VI a.op, VI a.kind, VI a.phase, .v (.string a.data), VI a.best.at_.time, VI a.best.at_.who, .v (.string a.best.data), .v (.int .u64 (a.heard.n : Int))]]⟩, some ⟨6, [[VI m.kind, VI m.op, VI m.node, VI m.copy.at_.time, VI m.copy.at_.who, .v (.string m.copy.data)]]⟩, some ⟨8, [[VI 0, VI 0, VI 0, .v (.string (⟨#[]⟩)), VI 0, VI 0, .v (.string (⟨#[]⟩)), .v (.int .u64 0)]]⟩, some ⟨10, [[VI a.op, VI a.kind, VI a.phase, .v (.string a.data), VI a.best.at_.time, VI a.best.at_.who, .v (.string a.best.data), .v (.int .u64 (a.heard.n : Int)), .lst 1 (v.weights.map cI), VI v.need]]⟩]⟩, norm_le (live := [4, 5]) (src := [.old 0 false, .old 1 false, .old 2 false, .old 3 false, .old 4 false]) (es := []) (by kernel_rfl) trivial, ⟨.tup [.emp, .v (.bool false)], by kernel_rfl, Ale.tup (.cons (Ale.emp) (.cons (Ale.refl) (.nil)))⟩, rfl⟩
  rw [h16]
  have g16 : (m.kind = 4) := by simpa using h16
  refine DW.run 7 (x' := ⟨(acq92 v m a), (acq50 v a m)⟩) (by kernel_rfl) ?_
  refine DW.ope (v := VI (List.length v.weights : Int)) (u := []) (acc := []) (x' := ⟨(43, VI (List.length v.weights : Int)) :: (acq92 v m a), (acq50 v a m)⟩) (by kernel_rfl) (opE_len cI v.weights (.s 42) 1 (by kernel_rfl) (by kernel_rfl) (.inl rfl)) (by kernel_rfl) ?_
  refine DW.run 3 (x' := ⟨(46, .v (.bool (decide (m.node ≥ (List.length v.weights : Int))))) :: (45, .v (.bool (decide (m.node ≥ (List.length v.weights : Int))))) :: (44, .v (.bool (decide (m.node ≥ (List.length v.weights : Int))))) :: (43, VI (List.length v.weights : Int)) :: (acq92 v m a), (acq50 v a m)⟩) (by kernel_rfl) ?_
  rcases Bool.eq_false_or_eq_true (decide (m.node ≥ (List.length v.weights : Int))) with h17 | h17
  rw [h17]
  have g17 : (m.node ≥ (List.length v.weights : Int)) := of_decide_eq_true h17
  refine DW.last 9 [0, 3, 6, 55] (x' := ⟨(55, .v (.bool true)) :: (acq49 m), (acq50 v a m)⟩) (by kernel_rfl) (by kernel_rfl) ?_
  refine EL.condT (by kernel_rfl) ?_
  refine EL.sreg ?_
  refine OW.last 2 [4, 5] (x' := ⟨[(5, .v (.bool false)), (4, .emp)], (acq50 v a m)⟩) (by kernel_rfl) (by kernel_rfl) ?_
  refine EL.ret ?_
  refine thenL_ret ?_
  have hE : hearT v a m = (a, [], false) := (by focus (first | (simp [hearT, heardA, wantsA, *]; done) | (simp_all [hearT, heardA, wantsA]; done) | (have hz9 : (andU a.heard m.node.toNat).n = 0 := (by omega); unfold hearT; rw [if_neg (by simp [wantsA, *]), if_neg (by simp [*]), if_neg (by omega), if_neg (by omega), if_neg (by simp [heardA, *])]; first | rfl | (simp [heardA, *]; done))))
  rw [hE]
  refine ⟨.inr rfl, ⟨[(4, .emp), (5, .v (.bool false))], [some ⟨2, [[.lst 1 (v.weights.map cI), VI v.need]]⟩, some ⟨8, [[VI a.op, VI a.kind, VI a.phase, .v (.string a.data), VI a.best.at_.time, VI a.best.at_.who, .v (.string a.best.data), .v (.int .u64 (a.heard.n : Int))]]⟩, some ⟨6, [[VI m.kind, VI m.op, VI m.node, VI m.copy.at_.time, VI m.copy.at_.who, .v (.string m.copy.data)]]⟩, some ⟨8, [[VI 0, VI 0, VI 0, .v (.string (⟨#[]⟩)), VI 0, VI 0, .v (.string (⟨#[]⟩)), .v (.int .u64 0)]]⟩, some ⟨10, [[VI a.op, VI a.kind, VI a.phase, .v (.string a.data), VI a.best.at_.time, VI a.best.at_.who, .v (.string a.best.data), .v (.int .u64 (a.heard.n : Int)), .lst 1 (v.weights.map cI), VI v.need]]⟩]⟩, norm_le (live := [4, 5]) (src := [.old 0 false, .old 1 false, .old 2 false, .old 3 false, .old 4 false]) (es := []) (by kernel_rfl) trivial, ⟨.tup [.emp, .v (.bool false)], by kernel_rfl, Ale.tup (.cons (Ale.emp) (.cons (Ale.refl) (.nil)))⟩, rfl⟩
  rw [h17]
  have g17 : ¬ (m.node ≥ (List.length v.weights : Int)) := of_decide_eq_false h17
  refine DW.run 9 (x' := ⟨(55, .v (.bool ((bits .and .u64 (a.heard.n : Int) ((2 ^ (Int.toNat m.node) : Nat) : Int)) != 0))) :: (54, .v (.bool ((bits .and .u64 (a.heard.n : Int) ((2 ^ (Int.toNat m.node) : Nat) : Int)) != 0))) :: (53, .v (.int .u64 (bits .and .u64 (a.heard.n : Int) ((2 ^ (Int.toNat m.node) : Nat) : Int)))) :: (acq93 m a v), (acq50 v a m)⟩) (by kernel_rfl) ?_
  have e18 : bits .and .u64 (a.heard.n : Int) ((2 ^ (Int.toNat m.node) : Nat) : Int) = ((andU a.heard (Int.toNat m.node)).n : Int) := andU_bits (by have hvn := (msg_node (m := m) (by assumption)).1; omega)
  rw [e18]
  clear e18
  refine DW.last 0 [0, 3, 6, 55] (x' := ⟨(55, .v (.bool (((andU a.heard (Int.toNat m.node)).n : Int) != 0))) :: (acq49 m), (acq50 v a m)⟩) (by kernel_rfl) (by kernel_rfl) ?_
  rcases Bool.eq_false_or_eq_true ((((andU a.heard (Int.toNat m.node)).n : Int) != 0)) with h19 | h19
  rw [h19]
  have g19 : ¬ (((andU a.heard (Int.toNat m.node)).n : Int) = 0) := by simpa using h19
  refine EL.condT (by kernel_rfl) ?_
  refine EL.sreg ?_
  refine OW.last 2 [4, 5] (x' := ⟨[(5, .v (.bool false)), (4, .emp)], (acq50 v a m)⟩) (by kernel_rfl) (by kernel_rfl) ?_
  refine EL.ret ?_
  refine thenL_ret ?_
  have hE : hearT v a m = (a, [], false) := (by focus (first | (simp [hearT, heardA, wantsA, *]; done) | (simp_all [hearT, heardA, wantsA]; done) | (have hz9 : (andU a.heard m.node.toNat).n = 0 := (by omega); unfold hearT; rw [if_neg (by simp [wantsA, *]), if_neg (by simp [*]), if_neg (by omega), if_neg (by omega), if_neg (by simp [heardA, *])]; first | rfl | (simp [heardA, *]; done))))
  rw [hE]
  refine ⟨.inr rfl, ⟨[(4, .emp), (5, .v (.bool false))], [some ⟨2, [[.lst 1 (v.weights.map cI), VI v.need]]⟩, some ⟨8, [[VI a.op, VI a.kind, VI a.phase, .v (.string a.data), VI a.best.at_.time, VI a.best.at_.who, .v (.string a.best.data), .v (.int .u64 (a.heard.n : Int))]]⟩, some ⟨6, [[VI m.kind, VI m.op, VI m.node, VI m.copy.at_.time, VI m.copy.at_.who, .v (.string m.copy.data)]]⟩, some ⟨8, [[VI 0, VI 0, VI 0, .v (.string (⟨#[]⟩)), VI 0, VI 0, .v (.string (⟨#[]⟩)), .v (.int .u64 0)]]⟩, some ⟨10, [[VI a.op, VI a.kind, VI a.phase, .v (.string a.data), VI a.best.at_.time, VI a.best.at_.who, .v (.string a.best.data), .v (.int .u64 (a.heard.n : Int)), .lst 1 (v.weights.map cI), VI v.need]]⟩]⟩, norm_le (live := [4, 5]) (src := [.old 0 false, .old 1 false, .old 2 false, .old 3 false, .old 4 false]) (es := []) (by kernel_rfl) trivial, ⟨.tup [.emp, .v (.bool false)], by kernel_rfl, Ale.tup (.cons (Ale.emp) (.cons (Ale.refl) (.nil)))⟩, rfl⟩
  rw [h19]
  have g19 : (((andU a.heard (Int.toNat m.node)).n : Int) = 0) := by simpa using h19
  refine EL.condF (by kernel_rfl) ?_
  refine EL.skip ?_
  refine thenL_norm ?_
  refine EL.sreg ?_
  refine OW.run 11 (x' := ⟨(65, .ref 4 10 0 7) :: (64, .ref 4 10 0 0) :: (63, .ref 4 10 0 0) :: (62, .v (.int .u64 (bits .or .u64 (a.heard.n : Int) ((2 ^ (Int.toNat m.node) : Nat) : Int)))) :: (acq55 m a), [some ⟨2, [[.lst 1 (v.weights.map cI), VI v.need]]⟩, (acq31 a), (acq32 m), acq33, some ⟨10, [[VI a.op, VI a.kind, VI a.phase, .v (.string a.data), VI a.best.at_.time, VI a.best.at_.who, .v (.string a.best.data), .v (.int .u64 (bits .or .u64 (a.heard.n : Int) ((2 ^ (Int.toNat m.node) : Nat) : Int))), .lst 1 (v.weights.map cI), VI v.need]]⟩, (acq32 m), some ⟨0, [[VI 1, VI 2], [VI 2, VI 4]]⟩]⟩) (by kernel_rfl) ?_
  have e20 : bits .or .u64 (a.heard.n : Int) ((2 ^ (Int.toNat m.node) : Nat) : Int) = ((orU a.heard (Int.toNat m.node)).n : Int) := orU_bits (by have hvn := (msg_node (m := m) (by assumption)).1; omega)
  rw [e20]
  clear e20
  refine OW.last 0 [0, 3] (x' := ⟨[(3, .ref 5 6 0 0), (0, .ref 4 10 0 0)], (acq57 v a m)⟩) (by kernel_rfl) (by kernel_rfl) ?_
  refine EL.seq ?_
  refine EL.sreg ?_
  refine OW.last 6 [0, 3, 71] (x' := ⟨[(71, .v (.bool (a.phase == 1))), (3, .ref 5 6 0 0), (0, .ref 4 10 0 0)], (acq57 v a m)⟩) (by kernel_rfl) (by kernel_rfl) ?_
  rw [h5]
  refine EL.condF (by kernel_rfl) ?_
  refine EL.skip ?_
  refine thenL_norm ?_
  refine EL.seq ?_
  refine EL.sdraw ?_
  refine DW.run 15 (x' := ⟨(acq94 a m v), (acq57 v a m)⟩) (by kernel_rfl) ?_
  refine DW.fn (ar := [.lst 1 (v.weights.map cI), VI v.need, .v (.int .u64 ((orU a.heard (Int.toNat m.node)).n : Int))]) (x' := ⟨(100, .tup [.v (.bool ((enoughP v.weights v.need (orU a.heard (Int.toNat m.node)).n).1)), VI ((enoughP v.weights v.need (orU a.heard (Int.toNat m.node)).n).2)]) :: (acq94 a m v), (acq57 v a m)⟩) (by kernel_rfl) (by kernel_rfl) F19_call (enough_fn v.weights v.need (orU a.heard (Int.toNat m.node)) hx) (by kernel_rfl) (by kernel_rfl) ?_
  refine DW.last 5 [0, 8] (x' := ⟨[(8, .v (.bool ((enoughP v.weights v.need (orU a.heard (Int.toNat m.node)).n).1))), (0, .ref 4 10 0 0)], (acq57 v a m)⟩) (by kernel_rfl) (by kernel_rfl) ?_
  refine EL.sreg ?_
  refine OW.last 2 [0, 104] (x' := ⟨[(104, .v (.bool (!((enoughP v.weights v.need (orU a.heard (Int.toNat m.node)).n).1)))), (0, .ref 4 10 0 0)], (acq57 v a m)⟩) (by kernel_rfl) (by kernel_rfl) ?_
  rcases Bool.eq_false_or_eq_true ((enoughP v.weights v.need (orU a.heard (Int.toNat m.node)).n).1) with h21 | h21
  rw [h21]
  refine EL.condF (by kernel_rfl) ?_
  refine EL.skip ?_
  refine thenL_norm ?_
  refine EL.seq ?_
  refine EL.sreg ?_
  refine OW.last 6 [0, 110] (x' := ⟨[(110, .v (.bool (a.phase == 2))), (0, .ref 4 10 0 0)], (acq57 v a m)⟩) (by kernel_rfl) (by kernel_rfl) ?_
  rw [h15]
  refine EL.condT (by kernel_rfl) ?_
  refine EL.sreg ?_
  refine OW.last 5 [] (x' := ⟨[], (acq96 v a m)⟩) (by kernel_rfl) (by kernel_rfl) ?_
  refine EL.sreg ?_
  refine OW.last 2 [4, 5] (x' := ⟨[(5, .v (.bool true)), (4, .emp)], (acq96 v a m)⟩) (by kernel_rfl) (by kernel_rfl) ?_
  refine EL.ret ?_
  refine thenL_ret ?_
  have hE : hearT v a m = ((⟨a.op, a.kind, 3, a.data, a.best, (orU a.heard (Int.toNat m.node))⟩ : Ask), [], true) := (by focus (first | (simp [hearT, heardA, wantsA, *]; done) | (simp_all [hearT, heardA, wantsA]; done) | (have hz9 : (andU a.heard m.node.toNat).n = 0 := (by omega); unfold hearT; rw [if_neg (by simp [wantsA, *]), if_neg (by simp [*]), if_neg (by omega), if_neg (by omega), if_neg (by simp [heardA, *])]; first | rfl | (simp [heardA, *]; done))))
  rw [hE]
  refine ⟨.inr rfl, ⟨[(4, .emp), (5, .v (.bool true))], [some ⟨2, [[.lst 1 (v.weights.map cI), VI v.need]]⟩, some ⟨8, [[VI a.op, VI a.kind, VI a.phase, .v (.string a.data), VI a.best.at_.time, VI a.best.at_.who, .v (.string a.best.data), .v (.int .u64 (a.heard.n : Int))]]⟩, some ⟨6, [[VI m.kind, VI m.op, VI m.node, VI m.copy.at_.time, VI m.copy.at_.who, .v (.string m.copy.data)]]⟩, some ⟨8, [[VI 0, VI 0, VI 0, .v (.string (⟨#[]⟩)), VI 0, VI 0, .v (.string (⟨#[]⟩)), .v (.int .u64 0)]]⟩, some ⟨10, [[VI a.op, VI a.kind, VI 3, .v (.string a.data), VI a.best.at_.time, VI a.best.at_.who, .v (.string a.best.data), .v (.int .u64 ((orU a.heard (Int.toNat m.node)).n : Int)), .lst 1 (v.weights.map cI), VI v.need]]⟩]⟩, norm_le (live := [4, 5]) (src := [.old 0 false, .old 1 false, .old 2 false, .old 3 false, .old 4 false]) (es := []) (by kernel_rfl) trivial, ⟨.tup [.emp, .v (.bool true)], by kernel_rfl, Ale.tup (.cons (Ale.emp) (.cons (Ale.refl) (.nil)))⟩, rfl⟩
  rw [h21]
  refine EL.condT (by kernel_rfl) ?_
  refine EL.sreg ?_
  refine OW.last 2 [4, 5] (x' := ⟨[(5, .v (.bool true)), (4, .emp)], (acq57 v a m)⟩) (by kernel_rfl) (by kernel_rfl) ?_
  refine EL.ret ?_
  refine thenL_ret ?_
  have hE : hearT v a m = ((⟨a.op, a.kind, a.phase, a.data, a.best, (orU a.heard (Int.toNat m.node))⟩ : Ask), [], true) := (by focus (first | (simp [hearT, heardA, wantsA, *]; done) | (simp_all [hearT, heardA, wantsA]; done) | (have hz9 : (andU a.heard m.node.toNat).n = 0 := (by omega); unfold hearT; rw [if_neg (by simp [wantsA, *]), if_neg (by simp [*]), if_neg (by omega), if_neg (by omega), if_neg (by simp [heardA, *])]; first | rfl | (simp [heardA, *]; done))))
  rw [hE]
  refine ⟨.inr rfl, ⟨[(4, .emp), (5, .v (.bool true))], [some ⟨2, [[.lst 1 (v.weights.map cI), VI v.need]]⟩, some ⟨8, [[VI a.op, VI a.kind, VI a.phase, .v (.string a.data), VI a.best.at_.time, VI a.best.at_.who, .v (.string a.best.data), .v (.int .u64 (a.heard.n : Int))]]⟩, some ⟨6, [[VI m.kind, VI m.op, VI m.node, VI m.copy.at_.time, VI m.copy.at_.who, .v (.string m.copy.data)]]⟩, some ⟨8, [[VI 0, VI 0, VI 0, .v (.string (⟨#[]⟩)), VI 0, VI 0, .v (.string (⟨#[]⟩)), .v (.int .u64 0)]]⟩, some ⟨10, [[VI a.op, VI a.kind, VI a.phase, .v (.string a.data), VI a.best.at_.time, VI a.best.at_.who, .v (.string a.best.data), .v (.int .u64 ((orU a.heard (Int.toNat m.node)).n : Int)), .lst 1 (v.weights.map cI), VI v.need]]⟩]⟩, norm_le (live := [4, 5]) (src := [.old 0 false, .old 1 false, .old 2 false, .old 3 false, .old 4 false]) (es := []) (by kernel_rfl) trivial, ⟨.tup [.emp, .v (.bool true)], by kernel_rfl, Ale.tup (.cons (Ale.emp) (.cons (Ale.refl) (.nil)))⟩, rfl⟩
  try rw [h15]
  have g15 : ¬ (a.phase = 2) := by simpa using h15
  refine DW.ope (v := VI 0) (u := []) (acc := [6]) (x' := ⟨(32, VI 0) :: (acq52 a m), (acq50 v a m)⟩) (by kernel_rfl) (opE_mlk .int (VI 0) (.s 26) (.s 31) 6 [[VI 1, VI 2], [VI 2, VI 4]] (.int .i64 a.phase) none (by kernel_rfl) (by kernel_rfl) (by kernel_rfl) (by kernel_rfl) (by kernel_rfl) (by simp [mfind, keyEq, h5, h15])) (by kernel_rfl) ?_
  refine DW.run 3 (x' := ⟨(35, .v (.bool (m.kind != 0))) :: (34, .v (.bool (m.kind != 0))) :: (33, .v (.bool (m.kind != 0))) :: (32, VI 0) :: (acq52 a m), (acq50 v a m)⟩) (by kernel_rfl) ?_
  rcases Bool.eq_false_or_eq_true ((m.kind != 0)) with h22 | h22
  rw [h22]
  have g22 : ¬ (m.kind = 0) := by simpa using h22
  refine DW.last 20 [0, 3, 6, 55] (x' := ⟨(55, .v (.bool true)) :: (acq49 m), (acq50 v a m)⟩) (by kernel_rfl) (by kernel_rfl) ?_
  refine EL.condT (by kernel_rfl) ?_
  refine EL.sreg ?_
  refine OW.last 2 [4, 5] (x' := ⟨[(5, .v (.bool false)), (4, .emp)], (acq50 v a m)⟩) (by kernel_rfl) (by kernel_rfl) ?_
  refine EL.ret ?_
  refine thenL_ret ?_
  have hE : hearT v a m = (a, [], false) := (by focus (first | (simp [hearT, heardA, wantsA, *]; done) | (simp_all [hearT, heardA, wantsA]; done) | (have hz9 : (andU a.heard m.node.toNat).n = 0 := (by omega); unfold hearT; rw [if_neg (by simp [wantsA, *]), if_neg (by simp [*]), if_neg (by omega), if_neg (by omega), if_neg (by simp [heardA, *])]; first | rfl | (simp [heardA, *]; done))))
  rw [hE]
  refine ⟨.inr rfl, ⟨[(4, .emp), (5, .v (.bool false))], [some ⟨2, [[.lst 1 (v.weights.map cI), VI v.need]]⟩, some ⟨8, [[VI a.op, VI a.kind, VI a.phase, .v (.string a.data), VI a.best.at_.time, VI a.best.at_.who, .v (.string a.best.data), .v (.int .u64 (a.heard.n : Int))]]⟩, some ⟨6, [[VI m.kind, VI m.op, VI m.node, VI m.copy.at_.time, VI m.copy.at_.who, .v (.string m.copy.data)]]⟩, some ⟨8, [[VI 0, VI 0, VI 0, .v (.string (⟨#[]⟩)), VI 0, VI 0, .v (.string (⟨#[]⟩)), .v (.int .u64 0)]]⟩, some ⟨10, [[VI a.op, VI a.kind, VI a.phase, .v (.string a.data), VI a.best.at_.time, VI a.best.at_.who, .v (.string a.best.data), .v (.int .u64 (a.heard.n : Int)), .lst 1 (v.weights.map cI), VI v.need]]⟩]⟩, norm_le (live := [4, 5]) (src := [.old 0 false, .old 1 false, .old 2 false, .old 3 false, .old 4 false]) (es := []) (by kernel_rfl) trivial, ⟨.tup [.emp, .v (.bool false)], by kernel_rfl, Ale.tup (.cons (Ale.emp) (.cons (Ale.refl) (.nil)))⟩, rfl⟩
  rw [h22]
  have g22 : (m.kind = 0) := by simpa using h22
  refine DW.run 7 (x' := ⟨(acq97 v m a), (acq50 v a m)⟩) (by kernel_rfl) ?_
  refine DW.ope (v := VI (List.length v.weights : Int)) (u := []) (acc := []) (x' := ⟨(43, VI (List.length v.weights : Int)) :: (acq97 v m a), (acq50 v a m)⟩) (by kernel_rfl) (opE_len cI v.weights (.s 42) 1 (by kernel_rfl) (by kernel_rfl) (.inl rfl)) (by kernel_rfl) ?_
  refine DW.run 3 (x' := ⟨(46, .v (.bool (decide (m.node ≥ (List.length v.weights : Int))))) :: (45, .v (.bool (decide (m.node ≥ (List.length v.weights : Int))))) :: (44, .v (.bool (decide (m.node ≥ (List.length v.weights : Int))))) :: (43, VI (List.length v.weights : Int)) :: (acq97 v m a), (acq50 v a m)⟩) (by kernel_rfl) ?_
  rcases Bool.eq_false_or_eq_true (decide (m.node ≥ (List.length v.weights : Int))) with h23 | h23
  rw [h23]
  have g23 : (m.node ≥ (List.length v.weights : Int)) := of_decide_eq_true h23
  refine DW.last 9 [0, 3, 6, 55] (x' := ⟨(55, .v (.bool true)) :: (acq49 m), (acq50 v a m)⟩) (by kernel_rfl) (by kernel_rfl) ?_
  refine EL.condT (by kernel_rfl) ?_
  refine EL.sreg ?_
  refine OW.last 2 [4, 5] (x' := ⟨[(5, .v (.bool false)), (4, .emp)], (acq50 v a m)⟩) (by kernel_rfl) (by kernel_rfl) ?_
  refine EL.ret ?_
  refine thenL_ret ?_
  have hE : hearT v a m = (a, [], false) := (by focus (first | (simp [hearT, heardA, wantsA, *]; done) | (simp_all [hearT, heardA, wantsA]; done) | (have hz9 : (andU a.heard m.node.toNat).n = 0 := (by omega); unfold hearT; rw [if_neg (by simp [wantsA, *]), if_neg (by simp [*]), if_neg (by omega), if_neg (by omega), if_neg (by simp [heardA, *])]; first | rfl | (simp [heardA, *]; done))))
  rw [hE]
  refine ⟨.inr rfl, ⟨[(4, .emp), (5, .v (.bool false))], [some ⟨2, [[.lst 1 (v.weights.map cI), VI v.need]]⟩, some ⟨8, [[VI a.op, VI a.kind, VI a.phase, .v (.string a.data), VI a.best.at_.time, VI a.best.at_.who, .v (.string a.best.data), .v (.int .u64 (a.heard.n : Int))]]⟩, some ⟨6, [[VI m.kind, VI m.op, VI m.node, VI m.copy.at_.time, VI m.copy.at_.who, .v (.string m.copy.data)]]⟩, some ⟨8, [[VI 0, VI 0, VI 0, .v (.string (⟨#[]⟩)), VI 0, VI 0, .v (.string (⟨#[]⟩)), .v (.int .u64 0)]]⟩, some ⟨10, [[VI a.op, VI a.kind, VI a.phase, .v (.string a.data), VI a.best.at_.time, VI a.best.at_.who, .v (.string a.best.data), .v (.int .u64 (a.heard.n : Int)), .lst 1 (v.weights.map cI), VI v.need]]⟩]⟩, norm_le (live := [4, 5]) (src := [.old 0 false, .old 1 false, .old 2 false, .old 3 false, .old 4 false]) (es := []) (by kernel_rfl) trivial, ⟨.tup [.emp, .v (.bool false)], by kernel_rfl, Ale.tup (.cons (Ale.emp) (.cons (Ale.refl) (.nil)))⟩, rfl⟩
  rw [h23]
  have g23 : ¬ (m.node ≥ (List.length v.weights : Int)) := of_decide_eq_false h23
  refine DW.run 9 (x' := ⟨(55, .v (.bool ((bits .and .u64 (a.heard.n : Int) ((2 ^ (Int.toNat m.node) : Nat) : Int)) != 0))) :: (54, .v (.bool ((bits .and .u64 (a.heard.n : Int) ((2 ^ (Int.toNat m.node) : Nat) : Int)) != 0))) :: (53, .v (.int .u64 (bits .and .u64 (a.heard.n : Int) ((2 ^ (Int.toNat m.node) : Nat) : Int)))) :: (acq98 m a v), (acq50 v a m)⟩) (by kernel_rfl) ?_
  have e24 : bits .and .u64 (a.heard.n : Int) ((2 ^ (Int.toNat m.node) : Nat) : Int) = ((andU a.heard (Int.toNat m.node)).n : Int) := andU_bits (by have hvn := (msg_node (m := m) (by assumption)).1; omega)
  rw [e24]
  clear e24
  refine DW.last 0 [0, 3, 6, 55] (x' := ⟨(55, .v (.bool (((andU a.heard (Int.toNat m.node)).n : Int) != 0))) :: (acq49 m), (acq50 v a m)⟩) (by kernel_rfl) (by kernel_rfl) ?_
  rcases Bool.eq_false_or_eq_true ((((andU a.heard (Int.toNat m.node)).n : Int) != 0)) with h25 | h25
  rw [h25]
  have g25 : ¬ (((andU a.heard (Int.toNat m.node)).n : Int) = 0) := by simpa using h25
  refine EL.condT (by kernel_rfl) ?_
  refine EL.sreg ?_
  refine OW.last 2 [4, 5] (x' := ⟨[(5, .v (.bool false)), (4, .emp)], (acq50 v a m)⟩) (by kernel_rfl) (by kernel_rfl) ?_
  refine EL.ret ?_
  refine thenL_ret ?_
  have hE : hearT v a m = (a, [], false) := (by focus (first | (simp [hearT, heardA, wantsA, *]; done) | (simp_all [hearT, heardA, wantsA]; done) | (have hz9 : (andU a.heard m.node.toNat).n = 0 := (by omega); unfold hearT; rw [if_neg (by simp [wantsA, *]), if_neg (by simp [*]), if_neg (by omega), if_neg (by omega), if_neg (by simp [heardA, *])]; first | rfl | (simp [heardA, *]; done))))
  rw [hE]
  refine ⟨.inr rfl, ⟨[(4, .emp), (5, .v (.bool false))], [some ⟨2, [[.lst 1 (v.weights.map cI), VI v.need]]⟩, some ⟨8, [[VI a.op, VI a.kind, VI a.phase, .v (.string a.data), VI a.best.at_.time, VI a.best.at_.who, .v (.string a.best.data), .v (.int .u64 (a.heard.n : Int))]]⟩, some ⟨6, [[VI m.kind, VI m.op, VI m.node, VI m.copy.at_.time, VI m.copy.at_.who, .v (.string m.copy.data)]]⟩, some ⟨8, [[VI 0, VI 0, VI 0, .v (.string (⟨#[]⟩)), VI 0, VI 0, .v (.string (⟨#[]⟩)), .v (.int .u64 0)]]⟩, some ⟨10, [[VI a.op, VI a.kind, VI a.phase, .v (.string a.data), VI a.best.at_.time, VI a.best.at_.who, .v (.string a.best.data), .v (.int .u64 (a.heard.n : Int)), .lst 1 (v.weights.map cI), VI v.need]]⟩]⟩, norm_le (live := [4, 5]) (src := [.old 0 false, .old 1 false, .old 2 false, .old 3 false, .old 4 false]) (es := []) (by kernel_rfl) trivial, ⟨.tup [.emp, .v (.bool false)], by kernel_rfl, Ale.tup (.cons (Ale.emp) (.cons (Ale.refl) (.nil)))⟩, rfl⟩
  rw [h25]
  have g25 : (((andU a.heard (Int.toNat m.node)).n : Int) = 0) := by simpa using h25
  refine EL.condF (by kernel_rfl) ?_
  refine EL.skip ?_
  refine thenL_norm ?_
  refine EL.sreg ?_
  refine OW.run 11 (x' := ⟨(65, .ref 4 10 0 7) :: (64, .ref 4 10 0 0) :: (63, .ref 4 10 0 0) :: (62, .v (.int .u64 (bits .or .u64 (a.heard.n : Int) ((2 ^ (Int.toNat m.node) : Nat) : Int)))) :: (acq55 m a), [some ⟨2, [[.lst 1 (v.weights.map cI), VI v.need]]⟩, (acq31 a), (acq32 m), acq33, some ⟨10, [[VI a.op, VI a.kind, VI a.phase, .v (.string a.data), VI a.best.at_.time, VI a.best.at_.who, .v (.string a.best.data), .v (.int .u64 (bits .or .u64 (a.heard.n : Int) ((2 ^ (Int.toNat m.node) : Nat) : Int))), .lst 1 (v.weights.map cI), VI v.need]]⟩, (acq32 m), some ⟨0, [[VI 1, VI 2], [VI 2, VI 4]]⟩]⟩) (by kernel_rfl) ?_
  have e26 : bits .or .u64 (a.heard.n : Int) ((2 ^ (Int.toNat m.node) : Nat) : Int) = ((orU a.heard (Int.toNat m.node)).n : Int) := orU_bits (by have hvn := (msg_node (m := m) (by assumption)).1; omega)
  rw [e26]
  clear e26
  refine OW.last 0 [0, 3] (x' := ⟨[(3, .ref 5 6 0 0), (0, .ref 4 10 0 0)], (acq57 v a m)⟩) (by kernel_rfl) (by kernel_rfl) ?_
  refine EL.seq ?_
  refine EL.sreg ?_
  refine OW.last 6 [0, 3, 71] (x' := ⟨[(71, .v (.bool (a.phase == 1))), (3, .ref 5 6 0 0), (0, .ref 4 10 0 0)], (acq57 v a m)⟩) (by kernel_rfl) (by kernel_rfl) ?_
  rw [h5]
  refine EL.condF (by kernel_rfl) ?_
  refine EL.skip ?_
  refine thenL_norm ?_
  refine EL.seq ?_
  refine EL.sdraw ?_
  refine DW.run 15 (x' := ⟨(acq94 a m v), (acq57 v a m)⟩) (by kernel_rfl) ?_
  refine DW.fn (ar := [.lst 1 (v.weights.map cI), VI v.need, .v (.int .u64 ((orU a.heard (Int.toNat m.node)).n : Int))]) (x' := ⟨(100, .tup [.v (.bool ((enoughP v.weights v.need (orU a.heard (Int.toNat m.node)).n).1)), VI ((enoughP v.weights v.need (orU a.heard (Int.toNat m.node)).n).2)]) :: (acq94 a m v), (acq57 v a m)⟩) (by kernel_rfl) (by kernel_rfl) F19_call (enough_fn v.weights v.need (orU a.heard (Int.toNat m.node)) hx) (by kernel_rfl) (by kernel_rfl) ?_
  refine DW.last 5 [0, 8] (x' := ⟨[(8, .v (.bool ((enoughP v.weights v.need (orU a.heard (Int.toNat m.node)).n).1))), (0, .ref 4 10 0 0)], (acq57 v a m)⟩) (by kernel_rfl) (by kernel_rfl) ?_
  refine EL.sreg ?_
  refine OW.last 2 [0, 104] (x' := ⟨[(104, .v (.bool (!((enoughP v.weights v.need (orU a.heard (Int.toNat m.node)).n).1)))), (0, .ref 4 10 0 0)], (acq57 v a m)⟩) (by kernel_rfl) (by kernel_rfl) ?_
  rcases Bool.eq_false_or_eq_true ((enoughP v.weights v.need (orU a.heard (Int.toNat m.node)).n).1) with h27 | h27
  rw [h27]
  refine EL.condF (by kernel_rfl) ?_
  refine EL.skip ?_
  refine thenL_norm ?_
  refine EL.seq ?_
  refine EL.sreg ?_
  refine OW.last 6 [0, 110] (x' := ⟨[(110, .v (.bool (a.phase == 2))), (0, .ref 4 10 0 0)], (acq57 v a m)⟩) (by kernel_rfl) (by kernel_rfl) ?_
  rw [h15]
  refine EL.condF (by kernel_rfl) ?_
  refine EL.skip ?_
  refine thenL_norm ?_
  refine EL.seq ?_
  refine EL.sreg ?_
  refine OW.run 1 (x' := ⟨acq68, (acq57 v a m)⟩) (by kernel_rfl) ?_
  rcases Bool.eq_false_or_eq_true ((a.kind == 1)) with h28 | h28
  try rw [h28]
  have g28 : (a.kind = 1) := by simpa using h28
  refine OW.fi (ar := [.ref 4 10 0 0]) (r := .v (.bool true)) (m' := (acq57 v a m)) (x' := ⟨(116, .v (.bool true)) :: acq68, (acq57 v a m)⟩) (by kernel_rfl) (by kernel_rfl) F44_call ?_ (by kernel_rfl) ?_
  refine fi_walkW F44_ok (of_decide_eq_true (by kernel_rfl)) ?_
  refine EL.sreg ?_
  refine OW.last 1 [0] (x' := ⟨[(0, .ref 4 10 0 0)], (acq57 v a m)⟩) (by kernel_rfl) (by kernel_rfl) ?_
  refine EL.seq ?_
  refine EL.sreg ?_
  refine OW.last 6 [0, 10] (x' := ⟨[(10, .v (.bool (a.kind == 1))), (0, .ref 4 10 0 0)], (acq57 v a m)⟩) (by kernel_rfl) (by kernel_rfl) ?_
  rw [h28]
  refine EL.condT (by kernel_rfl) ?_
  refine EL.sreg ?_
  refine OW.last 1 [2] (x' := ⟨[(2, .v (.bool true))], (acq57 v a m)⟩) (by kernel_rfl) (by kernel_rfl) ?_
  refine EL.ret ?_
  refine thenL_ret ?_
  refine ⟨.inr rfl, ⟨[(2, .v (.bool true))], (acq57 v a m)⟩, norm_le (live := [2]) (src := [.old 0 false, .old 1 false, .old 2 false, .old 3 false, .old 4 false, .old 5 false, .old 6 false]) (es := []) (by kernel_rfl) trivial, by kernel_rfl, rfl⟩
  refine OW.last 1 [0, 117] (x' := ⟨[(117, .v (.bool false)), (0, .ref 4 10 0 0)], (acq57 v a m)⟩) (by kernel_rfl) (by kernel_rfl) ?_
  refine EL.condF (by kernel_rfl) ?_
  refine EL.skip ?_
  refine thenL_norm ?_
  refine EL.sreg ?_
  refine OW.last 10 [0] (x' := ⟨[(0, .ref 4 10 0 0)], (acq100 v a m)⟩) (by kernel_rfl) (by kernel_rfl) ?_
  refine EL.sdraw ?_
  refine DW.run 15 (x' := ⟨(acq102 a v), (acq100 v a m)⟩) (by kernel_rfl) ?_
  refine DW.fn (ar := [.agg [.lst 1 (v.weights.map cI), VI v.need], (acq101 a)]) (x' := ⟨(acq103 v a), (acq100 v a m)⟩) (by kernel_rfl) (by kernel_rfl) F22_call (toAllM_fn v (⟨3, a.op, 0, a.best⟩ : Msg) (qc_len (ask_ok (a := a) (by assumption)).1)) (by kernel_rfl) (by kernel_rfl) ?_
  refine DW.last 2 [4, 5] (x' := ⟨[(5, .v (.bool true)), (4, .lst 6 ((toAllM v.weights.length (⟨3, a.op, 0, a.best⟩ : Msg)).map Msg.cs))], (acq100 v a m)⟩) (by kernel_rfl) (by kernel_rfl) ?_
  refine EL.ret ?_
  have hE : hearT v a m = ((⟨a.op, a.kind, 2, a.data, a.best, (⟨0, by decide⟩ : U64)⟩ : Ask), toAllM v.weights.length (⟨3, a.op, 0, a.best⟩ : Msg), true) := (by focus (first | (simp [hearT, heardA, wantsA, *]; done) | (simp_all [hearT, heardA, wantsA]; done) | (have hz9 : (andU a.heard m.node.toNat).n = 0 := (by omega); unfold hearT; rw [if_neg (by simp [wantsA, *]), if_neg (by simp [*]), if_neg (by omega), if_neg (by omega), if_neg (by simp [heardA, *])]; first | rfl | (simp [heardA, *]; done))))
  rw [hE]
  refine ⟨.inr rfl, ⟨[(4, .lst 6 ((toAllM v.weights.length (⟨3, a.op, 0, a.best⟩ : Msg)).map Msg.cs)), (5, .v (.bool true))], [some ⟨2, [[.lst 1 (v.weights.map cI), VI v.need]]⟩, some ⟨8, [[VI a.op, VI a.kind, VI a.phase, .v (.string a.data), VI a.best.at_.time, VI a.best.at_.who, .v (.string a.best.data), .v (.int .u64 (a.heard.n : Int))]]⟩, some ⟨6, [[VI m.kind, VI m.op, VI m.node, VI m.copy.at_.time, VI m.copy.at_.who, .v (.string m.copy.data)]]⟩, some ⟨8, [[VI 0, VI 0, VI 0, .v (.string (⟨#[]⟩)), VI 0, VI 0, .v (.string (⟨#[]⟩)), .v (.int .u64 0)]]⟩, some ⟨10, [[VI a.op, VI a.kind, VI 2, .v (.string a.data), VI a.best.at_.time, VI a.best.at_.who, .v (.string a.best.data), .v (.int .u64 0), .lst 1 (v.weights.map cI), VI v.need]]⟩]⟩, norm_le (live := [4, 5]) (src := [.old 0 false, .old 1 false, .old 2 false, .old 3 false, .old 4 false]) (es := []) (by kernel_rfl) trivial, ⟨.tup [.lst 6 ((toAllM v.weights.length (⟨3, a.op, 0, a.best⟩ : Msg)).map Msg.cs), .v (.bool true)], by kernel_rfl, Ale.refl⟩, rfl⟩
  try rw [h28]
  have g28 : ¬ (a.kind = 1) := by simpa using h28
  refine OW.fi (ar := [.ref 4 10 0 0]) (r := .v (.bool (((nextP a.best.at_ a.op).2) == 0))) (m' := (acq113 v a m)) (x' := ⟨(116, .v (.bool (((nextP a.best.at_ a.op).2) == 0))) :: acq68, (acq113 v a m)⟩) (by kernel_rfl) (by kernel_rfl) F44_call ?_ (by kernel_rfl) ?_
  refine fi_walkW F44_ok (of_decide_eq_true (by kernel_rfl)) ?_
  refine EL.sreg ?_
  refine OW.last 1 [0] (x' := ⟨[(0, .ref 4 10 0 0)], (acq57 v a m)⟩) (by kernel_rfl) (by kernel_rfl) ?_
  refine EL.seq ?_
  refine EL.sreg ?_
  refine OW.last 6 [0, 10] (x' := ⟨[(10, .v (.bool (a.kind == 1))), (0, .ref 4 10 0 0)], (acq57 v a m)⟩) (by kernel_rfl) (by kernel_rfl) ?_
  rw [h28]
  refine EL.condF (by kernel_rfl) ?_
  refine EL.skip ?_
  refine thenL_norm ?_
  refine EL.sdraw ?_
  refine DW.run 12 (x' := ⟨(acq105 a), (acq104 v a m)⟩) (by kernel_rfl) ?_
  refine DW.fn (ar := [.own 7 2 0 1, VI a.op]) (x' := ⟨(acq107 a), (acq104 v a m)⟩) (by kernel_rfl) (by kernel_rfl) F56_call (next_fn a.best.at_ a.op) (by kernel_rfl) (by kernel_rfl) ?_
  refine DW.last 6 [0, 3, 4] (x' := ⟨(acq110 a), (acq109 v a m)⟩) (by kernel_rfl) (by kernel_rfl) ?_
  refine EL.sdraw ?_
  refine DW.last 12 [4] (x' := ⟨[(4, VI ((nextP a.best.at_ a.op).2))], (acq112 v a m)⟩) (by kernel_rfl) (by kernel_rfl) ?_
  refine EL.sreg ?_
  refine OW.last 3 [2] (x' := ⟨[(2, .v (.bool (((nextP a.best.at_ a.op).2) == 0)))], (acq112 v a m)⟩) (by kernel_rfl) (by kernel_rfl) ?_
  refine EL.ret ?_
  refine ⟨.inr rfl, ⟨[(2, .v (.bool (((nextP a.best.at_ a.op).2) == 0)))], (acq113 v a m)⟩, norm_le (live := [2]) (src := [.old 0 false, .old 1 false, .old 2 false, .old 3 false, .old 4 false, .old 5 false, .old 6 false]) (es := []) (by kernel_rfl) trivial, by kernel_rfl, rfl⟩
  refine OW.last 1 [0, 117] (x' := ⟨[(117, .v (.bool (!(((nextP a.best.at_ a.op).2) == 0)))), (0, .ref 4 10 0 0)], (acq113 v a m)⟩) (by kernel_rfl) (by kernel_rfl) ?_
  rcases Bool.eq_false_or_eq_true ((((nextP a.best.at_ a.op).2) == 0)) with h29 | h29
  rw [h29]
  have g29 : (((nextP a.best.at_ a.op).2) = 0) := by simpa using h29
  refine EL.condF (by kernel_rfl) ?_
  refine EL.skip ?_
  refine thenL_norm ?_
  refine EL.sreg ?_
  refine OW.last 10 [0] (x' := ⟨[(0, .ref 4 10 0 0)], (acq115 v a m)⟩) (by kernel_rfl) (by kernel_rfl) ?_
  refine EL.sdraw ?_
  refine DW.run 15 (x' := ⟨(acq118 a v), (acq115 v a m)⟩) (by kernel_rfl) ?_
  refine DW.fn (ar := [.agg [.lst 1 (v.weights.map cI), VI v.need], (acq116 a)]) (x' := ⟨(acq119 v a), (acq115 v a m)⟩) (by kernel_rfl) (by kernel_rfl) F22_call (toAllM_fn v (⟨3, a.op, 0, (⟨((nextP a.best.at_ a.op).1), a.data⟩ : Copy)⟩ : Msg) (qc_len (ask_ok (a := a) (by assumption)).1)) (by kernel_rfl) (by kernel_rfl) ?_
  refine DW.last 2 [4, 5] (x' := ⟨[(5, .v (.bool true)), (4, .lst 6 ((toAllM v.weights.length (⟨3, a.op, 0, (⟨((nextP a.best.at_ a.op).1), a.data⟩ : Copy)⟩ : Msg)).map Msg.cs))], (acq115 v a m)⟩) (by kernel_rfl) (by kernel_rfl) ?_
  refine EL.ret ?_
  have hE : hearT v a m = ((⟨a.op, a.kind, 2, a.data, (⟨((nextP a.best.at_ a.op).1), a.data⟩ : Copy), (⟨0, by decide⟩ : U64)⟩ : Ask), toAllM v.weights.length (⟨3, a.op, 0, (⟨((nextP a.best.at_ a.op).1), a.data⟩ : Copy)⟩ : Msg), true) := (by focus (first | (simp [hearT, heardA, wantsA, *]; done) | (simp_all [hearT, heardA, wantsA]; done) | (have hz9 : (andU a.heard m.node.toNat).n = 0 := (by omega); unfold hearT; rw [if_neg (by simp [wantsA, *]), if_neg (by simp [*]), if_neg (by omega), if_neg (by omega), if_neg (by simp [heardA, *])]; first | rfl | (simp [heardA, *]; done))))
  rw [hE]
  refine ⟨.inr rfl, ⟨[(4, .lst 6 ((toAllM v.weights.length (⟨3, a.op, 0, (⟨((nextP a.best.at_ a.op).1), a.data⟩ : Copy)⟩ : Msg)).map Msg.cs)), (5, .v (.bool true))], [some ⟨2, [[.lst 1 (v.weights.map cI), VI v.need]]⟩, some ⟨8, [[VI a.op, VI a.kind, VI a.phase, .v (.string a.data), VI a.best.at_.time, VI a.best.at_.who, .v (.string a.best.data), .v (.int .u64 (a.heard.n : Int))]]⟩, some ⟨6, [[VI m.kind, VI m.op, VI m.node, VI m.copy.at_.time, VI m.copy.at_.who, .v (.string m.copy.data)]]⟩, some ⟨8, [[VI 0, VI 0, VI 0, .v (.string (⟨#[]⟩)), VI 0, VI 0, .v (.string (⟨#[]⟩)), .v (.int .u64 0)]]⟩, some ⟨10, [[VI a.op, VI a.kind, VI 2, .v (.string a.data), VI (((nextP a.best.at_ a.op).1).time), VI (((nextP a.best.at_ a.op).1).who), .v (.string a.data), .v (.int .u64 0), .lst 1 (v.weights.map cI), VI v.need]]⟩]⟩, norm_le (live := [4, 5]) (src := [.old 0 false, .old 1 false, .old 2 false, .old 3 false, .old 4 false]) (es := []) (by kernel_rfl) trivial, ⟨.tup [.lst 6 ((toAllM v.weights.length (⟨3, a.op, 0, (⟨((nextP a.best.at_ a.op).1), a.data⟩ : Copy)⟩ : Msg)).map Msg.cs), .v (.bool true)], by kernel_rfl, Ale.refl⟩, rfl⟩
  rw [h29]
  have g29 : ¬ (((nextP a.best.at_ a.op).2) = 0) := by simpa using h29
  refine EL.condT (by kernel_rfl) ?_
  refine EL.sreg ?_
  refine OW.last 2 [4, 5] (x' := ⟨[(5, .v (.bool false)), (4, .emp)], (acq113 v a m)⟩) (by kernel_rfl) (by kernel_rfl) ?_
  refine EL.ret ?_
  refine thenL_ret ?_
  have hE : hearT v a m = ((⟨a.op, a.kind, a.phase, a.data, (⟨((nextP a.best.at_ a.op).1), a.data⟩ : Copy), (orU a.heard (Int.toNat m.node))⟩ : Ask), [], false) := (by focus (first | (simp [hearT, heardA, wantsA, *]; done) | (simp_all [hearT, heardA, wantsA]; done) | (have hz9 : (andU a.heard m.node.toNat).n = 0 := (by omega); unfold hearT; rw [if_neg (by simp [wantsA, *]), if_neg (by simp [*]), if_neg (by omega), if_neg (by omega), if_neg (by simp [heardA, *])]; first | rfl | (simp [heardA, *]; done))))
  rw [hE]
  refine ⟨.inr rfl, ⟨[(4, .emp), (5, .v (.bool false))], [some ⟨2, [[.lst 1 (v.weights.map cI), VI v.need]]⟩, some ⟨8, [[VI a.op, VI a.kind, VI a.phase, .v (.string a.data), VI a.best.at_.time, VI a.best.at_.who, .v (.string a.best.data), .v (.int .u64 (a.heard.n : Int))]]⟩, some ⟨6, [[VI m.kind, VI m.op, VI m.node, VI m.copy.at_.time, VI m.copy.at_.who, .v (.string m.copy.data)]]⟩, some ⟨8, [[VI 0, VI 0, VI 0, .v (.string (⟨#[]⟩)), VI 0, VI 0, .v (.string (⟨#[]⟩)), .v (.int .u64 0)]]⟩, some ⟨10, [[VI a.op, VI a.kind, VI a.phase, .v (.string a.data), VI (((nextP a.best.at_ a.op).1).time), VI (((nextP a.best.at_ a.op).1).who), .v (.string a.data), .v (.int .u64 ((orU a.heard (Int.toNat m.node)).n : Int)), .lst 1 (v.weights.map cI), VI v.need]]⟩]⟩, norm_le (live := [4, 5]) (src := [.old 0 false, .old 1 false, .old 2 false, .old 3 false, .old 4 false]) (es := []) (by kernel_rfl) trivial, ⟨.tup [.emp, .v (.bool false)], by kernel_rfl, Ale.tup (.cons (Ale.emp) (.cons (Ale.refl) (.nil)))⟩, rfl⟩
  rw [h27]
  refine EL.condT (by kernel_rfl) ?_
  refine EL.sreg ?_
  refine OW.last 2 [4, 5] (x' := ⟨[(5, .v (.bool true)), (4, .emp)], (acq57 v a m)⟩) (by kernel_rfl) (by kernel_rfl) ?_
  refine EL.ret ?_
  refine thenL_ret ?_
  have hE : hearT v a m = ((⟨a.op, a.kind, a.phase, a.data, a.best, (orU a.heard (Int.toNat m.node))⟩ : Ask), [], true) := (by focus (first | (simp [hearT, heardA, wantsA, *]; done) | (simp_all [hearT, heardA, wantsA]; done) | (have hz9 : (andU a.heard m.node.toNat).n = 0 := (by omega); unfold hearT; rw [if_neg (by simp [wantsA, *]), if_neg (by simp [*]), if_neg (by omega), if_neg (by omega), if_neg (by simp [heardA, *])]; first | rfl | (simp [heardA, *]; done))))
  rw [hE]
  refine ⟨.inr rfl, ⟨[(4, .emp), (5, .v (.bool true))], [some ⟨2, [[.lst 1 (v.weights.map cI), VI v.need]]⟩, some ⟨8, [[VI a.op, VI a.kind, VI a.phase, .v (.string a.data), VI a.best.at_.time, VI a.best.at_.who, .v (.string a.best.data), .v (.int .u64 (a.heard.n : Int))]]⟩, some ⟨6, [[VI m.kind, VI m.op, VI m.node, VI m.copy.at_.time, VI m.copy.at_.who, .v (.string m.copy.data)]]⟩, some ⟨8, [[VI 0, VI 0, VI 0, .v (.string (⟨#[]⟩)), VI 0, VI 0, .v (.string (⟨#[]⟩)), .v (.int .u64 0)]]⟩, some ⟨10, [[VI a.op, VI a.kind, VI a.phase, .v (.string a.data), VI a.best.at_.time, VI a.best.at_.who, .v (.string a.best.data), .v (.int .u64 ((orU a.heard (Int.toNat m.node)).n : Int)), .lst 1 (v.weights.map cI), VI v.need]]⟩]⟩, norm_le (live := [4, 5]) (src := [.old 0 false, .old 1 false, .old 2 false, .old 3 false, .old 4 false]) (es := []) (by kernel_rfl) trivial, ⟨.tup [.emp, .v (.bool true)], by kernel_rfl, Ale.tup (.cons (Ale.emp) (.cons (Ale.refl) (.nil)))⟩, rfl⟩
  refine OW.last 5 [4, 6, 10, 11, 12] (x' := ⟨(12, .v (.bool ((hearT v a m).2.2))) :: (acq120 v a m), (acq46 v a m)⟩) (by kernel_rfl) (by kernel_rfl) ?_
  refine EL.seq ?_
  refine EL.sreg ?_
  refine OW.last 2 [4, 6, 10, 11, 35] (x' := ⟨(35, .v (.bool (!((hearT v a m).2.2)))) :: (acq120 v a m), (acq46 v a m)⟩) (by kernel_rfl) (by kernel_rfl) ?_
  rcases Bool.eq_false_or_eq_true ((hearT v a m).2.2) with h30 | h30
  rw [h30]
  refine EL.condF (by kernel_rfl) ?_
  refine EL.skip ?_
  refine thenL_norm ?_
  refine EL.sreg ?_
  refine OW.last 8 [6, 7, 8] (x' := ⟨(acq123 v a m), (acq122 v a m)⟩) (by kernel_rfl) (by kernel_rfl) ?_
  refine EL.ret ?_
  refine ⟨.inr rfl, .tup [.agg [VI (((hearT v a m).1).op), VI (((hearT v a m).1).kind), VI (((hearT v a m).1).phase), .v (.string (((hearT v a m).1).data)), VI (((((hearT v a m).1).best).at_).time), VI (((((hearT v a m).1).best).at_).who), .v (.string ((((hearT v a m).1).best).data)), .v (.int .u64 (((hearT v a m).1).heard.n : Int))], .lst 6 (((hearT v a m).2.1).map Msg.cs), VI 0], by kernel_rfl, Ale.of_eq ?_⟩
  focus (first | rfl | (simp [hearA, Ask.zero, *]; done) | (simp_all [hearA, Ask.zero]; done))
  rw [h30]
  refine EL.condT (by kernel_rfl) ?_
  refine EL.sreg ?_
  refine OW.last 4 [6, 7, 8] (x' := ⟨[(8, VI 0), (7, .emp), (6, .ref 3 8 0 0)], (acq124 v a m)⟩) (by kernel_rfl) (by kernel_rfl) ?_
  refine EL.ret ?_
  refine thenL_ret ?_
  refine ⟨.inr rfl, .tup [.agg [VI a.op, VI a.kind, VI a.phase, .v (.string a.data), VI a.best.at_.time, VI a.best.at_.who, .v (.string a.best.data), .v (.int .u64 (a.heard.n : Int))], .emp, VI 0], by kernel_rfl, Ale.trans (b := .tup [.agg [VI a.op, VI a.kind, VI a.phase, .v (.string a.data), VI a.best.at_.time, VI a.best.at_.who, .v (.string a.best.data), .v (.int .u64 (a.heard.n : Int))], .lst 6 [], VI 0]) (Ale.tup (.cons (Ale.refl) (.cons (Ale.emp) (.cons (Ale.refl) (.nil))))) (Ale.of_eq ?_)⟩
  focus (first | rfl | (simp [hearA, Ask.zero, *]; done) | (simp_all [hearA, Ask.zero]; done))
  rw [h1]
  have g1 : ¬ ((a.checkE v.weights v.need) = 0) := by simpa using h1
  refine EL.condF (by kernel_rfl) ?_
  refine EL.skip ?_
  refine thenL_norm ?_
  refine EL.seq ?_
  refine EL.sreg ?_
  refine OW.last 2 [3, 4, 5, 6, 9, 21] (x' := ⟨(21, .v (.bool ((a.checkE v.weights v.need) != 0))) :: (9, VI (a.checkE v.weights v.need)) :: acq35, (acq34 v a m)⟩) (by kernel_rfl) (by kernel_rfl) ?_
  have h31 : ((a.checkE v.weights v.need) != 0) = true := (by show (!((a.checkE v.weights v.need) == 0)) = _; rw [h1]; rfl)
  rw [h31]
  refine EL.condT (by kernel_rfl) ?_
  refine EL.sreg ?_
  refine OW.last 5 [6, 7, 8] (x' := ⟨(acq125 a v), (acq34 v a m)⟩) (by kernel_rfl) (by kernel_rfl) ?_
  refine EL.ret ?_
  refine thenL_ret ?_
  refine ⟨.inr rfl, .tup [.agg [VI 0, VI 0, VI 0, .v (.string (⟨#[]⟩)), VI 0, VI 0, .v (.string (⟨#[]⟩)), .v (.int .u64 0)], .emp, VI (a.checkE v.weights v.need)], by kernel_rfl, Ale.trans (b := .tup [.agg [VI 0, VI 0, VI 0, .v (.string (⟨#[]⟩)), VI 0, VI 0, .v (.string (⟨#[]⟩)), .v (.int .u64 0)], .lst 6 [], VI (a.checkE v.weights v.need)]) (Ale.tup (.cons (Ale.refl) (.cons (Ale.emp) (.cons (Ale.refl) (.nil))))) (Ale.of_eq ?_)⟩
  focus (first | rfl | (simp [hearA, Ask.zero, *]; done) | (simp_all [hearA, Ask.zero]; done))
abbrev acq126 (c : Copy) : OB := some ⟨3, [[VI c.at_.time, VI c.at_.who, .v (.string c.data)]]⟩
abbrev acq127 (c : Copy) (m : Msg) : LB := [(acq126 c), (acq32 m), some ⟨3, [[VI 0, VI 0, .v (.string (⟨#[]⟩))]]⟩]
abbrev acq128 : LS := [(4, .ref 2 3 0 0), (3, .ref 1 6 0 0), (2, .ref 0 3 0 0)]
abbrev acq129 (c : Copy) : LS := (8, .agg [VI c.at_.time, VI c.at_.who, .v (.string c.data)]) :: acq128
abbrev acq130 (m : Msg) (c : Copy) : LS := (12, (acq38 m)) :: (11, .v (.bool true)) :: (7, VI c.checkE) :: acq128
abbrev acq131 (m : Msg) : LS := (7, VI m.checkE) :: (13, VI m.checkE) :: (12, (acq38 m)) :: (11, .v (.bool true)) :: acq128
abbrev acq132 (m : Msg) : LS := [(6, VI m.checkE), (5, .emp), (4, .ref 2 3 0 0)]
abbrev acq133 (m : Msg) (c : Copy) : OB := some ⟨6, [[VI 2, VI m.op, VI m.node, VI c.at_.time, VI c.at_.who, .v (.string c.data)]]⟩
abbrev acq134 : LS := [(6, VI 0), (5, .own 3 6 0 1), (4, .ref 2 3 0 0)]
abbrev acq135 (m : Msg) (c : Copy) : LS := (34, (acq58 m)) :: (33, .ref 1 6 0 3) :: (32, .agg [VI c.at_.time, VI c.at_.who, .v (.string c.data)]) :: (30, .v (.bool true)) :: acq128
abbrev acq136 (c : Copy) (m : Msg) : AV := .agg [VI (((c.raw m.copy).at_).time), VI (((c.raw m.copy).at_).who), .v (.string ((c.raw m.copy).data))]
abbrev acq137 (c : Copy) (m : Msg) : OB := some ⟨3, [[VI (((c.raw m.copy).at_).time), VI (((c.raw m.copy).at_).who), .v (.string ((c.raw m.copy).data))]]⟩
abbrev acq138 (m : Msg) : OB := some ⟨6, [[VI 4, VI m.op, VI m.node, VI 0, VI 0, .v (.string (⟨#[]⟩))]]⟩
abbrev acq139 (c : Copy) : LS := [(6, VI c.checkE), (5, .emp), (4, .ref 2 3 0 0)]
theorem serve_fn (c : Copy) (m : Msg) : Fn Tryd.prog 16 [.agg [VI c.at_.time, VI c.at_.who, .v (.string c.data)], .agg [VI m.kind, VI m.op, VI m.node, VI m.copy.at_.time, VI m.copy.at_.who, .v (.string m.copy.data)]] (.tup [.agg [VI ((((serveA c m).1).at_).time), VI ((((serveA c m).1).at_).who), .v (.string (((serveA c m).1).data))], .lst 6 (((serveA c m).2.1).map Msg.cs), VI ((serveA c m).2.2)]) := by
  refine fn_walkW F16_ok (of_decide_eq_true (by kernel_rfl)) ?_
  refine EL.sreg ?_
  refine OW.last 5 [2, 3, 4] (x' := ⟨acq128, (acq127 c m)⟩) (by kernel_rfl) (by kernel_rfl) ?_
  refine EL.sreg ?_
  refine OW.run 1 (x' := ⟨(acq129 c), (acq127 c m)⟩) (by kernel_rfl) ?_
  refine OW.fn (ar := [.agg [VI c.at_.time, VI c.at_.who, .v (.string c.data)]]) (x' := ⟨(9, VI c.checkE) :: (acq129 c), (acq127 c m)⟩) (by kernel_rfl) (by kernel_rfl) F34_call (ccheck_fn c) (by kernel_rfl) (by kernel_rfl) ?_
  refine OW.last 1 [2, 3, 4, 7] (x' := ⟨(7, VI c.checkE) :: acq128, (acq127 c m)⟩) (by kernel_rfl) (by kernel_rfl) ?_
  refine EL.seq ?_
  refine EL.sreg ?_
  refine OW.last 2 [2, 3, 4, 7, 11] (x' := ⟨(11, .v (.bool (c.checkE == 0))) :: (7, VI c.checkE) :: acq128, (acq127 c m)⟩) (by kernel_rfl) (by kernel_rfl) ?_
  rcases Bool.eq_false_or_eq_true ((c.checkE == 0)) with h1 | h1
  rw [h1]
  have g1 : (c.checkE = 0) := by simpa using h1
  refine EL.condT (by kernel_rfl) ?_
  refine EL.reg0 ?_
  refine OW.run 1 (x' := ⟨(acq130 m c), (acq127 c m)⟩) (by kernel_rfl) ?_
  refine OW.fn (ar := [(acq38 m)]) (x' := ⟨(13, VI m.checkE) :: (acq130 m c), (acq127 c m)⟩) (by kernel_rfl) (by kernel_rfl) F20_call (mcheck_fn m) (by kernel_rfl) (by kernel_rfl) ?_
  refine OW.end 1 (x' := ⟨(acq131 m), (acq127 c m)⟩) (by kernel_rfl) (by kernel_rfl) ?_
  refine thenL_norm ?_
  refine EL.seq ?_
  refine EL.sreg ?_
  refine OW.last 2 [2, 3, 4, 7, 15] (x' := ⟨(15, .v (.bool (m.checkE != 0))) :: (7, VI m.checkE) :: acq128, (acq127 c m)⟩) (by kernel_rfl) (by kernel_rfl) ?_
  rcases Bool.eq_false_or_eq_true ((m.checkE != 0)) with h2 | h2
  rw [h2]
  have g2 : ¬ (m.checkE = 0) := by simpa using h2
  refine EL.condT (by kernel_rfl) ?_
  refine EL.sreg ?_
  refine OW.last 5 [4, 5, 6] (x' := ⟨(acq132 m), (acq127 c m)⟩) (by kernel_rfl) (by kernel_rfl) ?_
  refine EL.ret ?_
  refine thenL_ret ?_
  refine ⟨.inr rfl, .tup [.agg [VI 0, VI 0, .v (.string (⟨#[]⟩))], .emp, VI m.checkE], by kernel_rfl, Ale.trans (b := .tup [.agg [VI 0, VI 0, .v (.string (⟨#[]⟩))], .lst 6 [], VI m.checkE]) (Ale.tup (.cons (Ale.refl) (.cons (Ale.emp) (.cons (Ale.refl) (.nil))))) (Ale.of_eq ?_)⟩
  focus (first | rfl | (simp [serveA, Copy.zero, *]; done) | (simp_all [serveA, Copy.zero]; done))
  rw [h2]
  have g2 : (m.checkE = 0) := by simpa using h2
  refine EL.condF (by kernel_rfl) ?_
  refine EL.skip ?_
  refine thenL_norm ?_
  refine EL.seq ?_
  refine EL.sreg ?_
  refine OW.last 2 [2, 3, 4, 19] (x' := ⟨(19, VI m.kind) :: acq128, (acq127 c m)⟩) (by kernel_rfl) (by kernel_rfl) ?_
  refine EL.block ?_
  refine EL.sreg ?_
  refine OW.last 2 [2, 3, 4, 19, 20] (x' := ⟨(20, .v (.bool (m.kind == 1))) :: (19, VI m.kind) :: acq128, (acq127 c m)⟩) (by kernel_rfl) (by kernel_rfl) ?_
  rcases Bool.eq_false_or_eq_true ((m.kind == 1)) with h3 | h3
  rw [h3]
  have g3 : (m.kind = 1) := by simpa using h3
  refine EL.condT (by kernel_rfl) ?_
  refine EL.sdraw ?_
  refine DW.last 11 [4, 5, 6] (x' := ⟨acq134, [(acq126 c), (acq32 m), (acq126 c), (acq133 m c)]⟩) (by kernel_rfl) (by kernel_rfl) ?_
  refine EL.ret ?_
  refine inBlk_ret ?_
  refine thenL_ret ?_
  refine ⟨.inr rfl, .tup [.agg [VI c.at_.time, VI c.at_.who, .v (.string c.data)], .lst 6 [[VI 2, VI m.op, VI m.node, VI c.at_.time, VI c.at_.who, .v (.string c.data)]], VI 0], by kernel_rfl, Ale.of_eq ?_⟩
  focus (first | rfl | (simp [serveA, Copy.zero, *]; done) | (simp_all [serveA, Copy.zero]; done))
  rw [h3]
  have g3 : ¬ (m.kind = 1) := by simpa using h3
  refine EL.condF (by kernel_rfl) ?_
  refine EL.sreg ?_
  refine OW.last 2 [2, 3, 4, 30] (x' := ⟨(30, .v (.bool (m.kind == 3))) :: acq128, (acq127 c m)⟩) (by kernel_rfl) (by kernel_rfl) ?_
  rcases Bool.eq_false_or_eq_true ((m.kind == 3)) with h4 | h4
  rw [h4]
  have g4 : (m.kind = 3) := by simpa using h4
  refine EL.condT (by kernel_rfl) ?_
  refine EL.sdraw ?_
  refine DW.run 3 (x' := ⟨(acq135 m c), (acq127 c m)⟩) (by kernel_rfl) ?_
  refine DW.fn (ar := [.agg [VI c.at_.time, VI c.at_.who, .v (.string c.data)], (acq58 m)]) (x' := ⟨(35, (acq136 c m)) :: (acq135 m c), (acq127 c m)⟩) (by kernel_rfl) (by kernel_rfl) F38_call (raw_fn c m.copy) (by kernel_rfl) (by kernel_rfl) ?_
  refine DW.last 9 [4, 5, 6] (x' := ⟨acq134, [(acq126 c), (acq32 m), (acq137 c m), (acq138 m)]⟩) (by kernel_rfl) (by kernel_rfl) ?_
  refine EL.ret ?_
  refine inBlk_ret ?_
  refine thenL_ret ?_
  refine ⟨.inr rfl, .tup [.agg [VI (((c.raw m.copy).at_).time), VI (((c.raw m.copy).at_).who), .v (.string ((c.raw m.copy).data))], .lst 6 [[VI 4, VI m.op, VI m.node, VI 0, VI 0, .v (.string (⟨#[]⟩))]], VI 0], by kernel_rfl, Ale.of_eq ?_⟩
  focus (first | rfl | (simp [serveA, Copy.zero, *]; done) | (simp_all [serveA, Copy.zero]; done))
  rw [h4]
  have g4 : ¬ (m.kind = 3) := by simpa using h4
  refine EL.condF (by kernel_rfl) ?_
  refine EL.skip ?_
  refine inBlk_norm ?_
  refine thenL_norm ?_
  refine EL.sreg ?_
  refine OW.last 4 [4, 5, 6] (x' := ⟨[(6, VI 0), (5, .emp), (4, .ref 2 3 0 0)], [(acq126 c), (acq32 m), (acq126 c)]⟩) (by kernel_rfl) (by kernel_rfl) ?_
  refine EL.ret ?_
  refine ⟨.inr rfl, .tup [.agg [VI c.at_.time, VI c.at_.who, .v (.string c.data)], .emp, VI 0], by kernel_rfl, Ale.trans (b := .tup [.agg [VI c.at_.time, VI c.at_.who, .v (.string c.data)], .lst 6 [], VI 0]) (Ale.tup (.cons (Ale.refl) (.cons (Ale.emp) (.cons (Ale.refl) (.nil))))) (Ale.of_eq ?_)⟩
  focus (first | rfl | (simp [serveA, Copy.zero, *]; done) | (simp_all [serveA, Copy.zero]; done))
  rw [h1]
  have g1 : ¬ (c.checkE = 0) := by simpa using h1
  refine EL.condF (by kernel_rfl) ?_
  refine EL.skip ?_
  refine thenL_norm ?_
  refine EL.seq ?_
  refine EL.sreg ?_
  refine OW.last 2 [2, 3, 4, 7, 15] (x' := ⟨(15, .v (.bool (c.checkE != 0))) :: (7, VI c.checkE) :: acq128, (acq127 c m)⟩) (by kernel_rfl) (by kernel_rfl) ?_
  have h5 : (c.checkE != 0) = true := (by show (!(c.checkE == 0)) = _; rw [h1]; rfl)
  rw [h5]
  refine EL.condT (by kernel_rfl) ?_
  refine EL.sreg ?_
  refine OW.last 5 [4, 5, 6] (x' := ⟨(acq139 c), (acq127 c m)⟩) (by kernel_rfl) (by kernel_rfl) ?_
  refine EL.ret ?_
  refine thenL_ret ?_
  refine ⟨.inr rfl, .tup [.agg [VI 0, VI 0, .v (.string (⟨#[]⟩))], .emp, VI c.checkE], by kernel_rfl, Ale.trans (b := .tup [.agg [VI 0, VI 0, .v (.string (⟨#[]⟩))], .lst 6 [], VI c.checkE]) (Ale.tup (.cons (Ale.refl) (.cons (Ale.emp) (.cons (Ale.refl) (.nil))))) (Ale.of_eq ?_)⟩
  focus (first | rfl | (simp [serveA, Copy.zero, *]; done) | (simp_all [serveA, Copy.zero]; done))
end Go.Proofs.YtgepadjkegfokaaDoor
