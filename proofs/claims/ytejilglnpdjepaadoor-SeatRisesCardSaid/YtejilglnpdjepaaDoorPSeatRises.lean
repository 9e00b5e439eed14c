/- What a seat promised never falls, nor what it keeps; it stays right: the law SeatRises returns true. No condition. -/
import Derived.Test.YtejilglnpdjepaaDoorPSeatM
import Derived.Test.YtejilglnpdjepaaDoorPSeatL
import Derived.WalkKit
import Derived.Handy
import Derived.ProofKit
import Derived.OpenShut
import Derived.ShutString
import Derived.ChangeOld
import Derived.Below
import Derived.Lib.Hide
import Derived.WalkLawsBesides
import Derived.WalkSpells
import Derived.Deep.QuietTactic
import Derived.BigQuiet
import Derived.Outline
import Derived.SevenTiedAt
namespace Go.Proofs.YtejilglnpdjepaaDoor
set_option linter.unusedSimpArgs false
set_option linter.unusedVariables false
open Go.ChangeShapes Go.WideShapes Go.ChangeAt Go.RowKit
open Go.ChangeMaps (open_string shut_string)
set_option maxRecDepth 100000
set_option maxHeartbeats 4000000
abbrev srq0 (s : Seat) : OB := some ⟨5, [[VI s.promised.time, VI s.promised.who, VI s.kept.at_.time, VI s.kept.at_.who, .v (.string s.kept.data)]]⟩
abbrev srq1 (v : Vote) : OB := some ⟨6, [[VI v.kind, VI v.bid, VI v.node, VI v.copy.at_.time, VI v.copy.at_.who, .v (.string v.copy.data)]]⟩
abbrev srq2 (v : Vote) : AV := .agg [VI v.kind, VI v.bid, VI v.node, VI v.copy.at_.time, VI v.copy.at_.who, .v (.string v.copy.data)]
abbrev srq3 (s : Seat) : AV := .agg [VI s.promised.time, VI s.promised.who, VI s.kept.at_.time, VI s.kept.at_.who, .v (.string s.kept.data)]
abbrev srq4 (v : Vote) (s : Seat) : LS := [(10, (srq2 v)), (9, (srq3 s)), (3, .ref 1 6 0 0), (2, .ref 0 5 0 0)]
abbrev srq5 (s : Seat) (v : Vote) : AV := .agg [VI ((((s.serveP v).1).promised).time), VI ((((s.serveP v).1).promised).who), VI (((((s.serveP v).1).kept).at_).time), VI (((((s.serveP v).1).kept).at_).who), .v (.string ((((s.serveP v).1).kept).data))]
abbrev srq6 (s : Seat) (v : Vote) : LS := (11, .tup [(srq5 s v), .lst 6 (((s.serveP v).2.1).map Vote.cs), VI ((s.serveP v).2.2)]) :: (srq4 v s)
abbrev srq7 (s : Seat) (v : Vote) : OB := some ⟨5, [[VI ((((s.serveP v).1).promised).time), VI ((((s.serveP v).1).promised).who), VI (((((s.serveP v).1).kept).at_).time), VI (((((s.serveP v).1).kept).at_).who), .v (.string ((((s.serveP v).1).kept).data))]]⟩
abbrev srq8 (s : Seat) (v : Vote) : LS := [(7, VI ((s.serveP v).2.2)), (6, .lst 6 (((s.serveP v).2.1).map Vote.cs)), (5, .ref 2 5 0 0), (3, .ref 1 6 0 0), (2, .ref 0 5 0 0)]
abbrev srq9 (s : Seat) (v : Vote) : LS := [(6, .lst 6 (((s.serveP v).2.1).map Vote.cs)), (5, .ref 2 5 0 0), (3, .ref 1 6 0 0), (2, .ref 0 5 0 0)]
abbrev srq10 (s : Seat) (v : Vote) : LS := (20, .agg [VI 0, VI 0, VI 0, VI 0, .v (.string (⟨#[]⟩))]) :: (19, (srq5 s v)) :: (18, .v (.bool true)) :: (srq9 s v)
abbrev srq11 (s : Seat) (v : Vote) : LS := (23, .lst 6 (((s.serveP v).2.1).map Vote.cs)) :: (22, .v (.bool true)) :: (21, .v (.bool true)) :: (srq10 s v)
abbrev srq12 (s : Seat) (v : Vote) : LS := (24, VI (List.length ((s.serveP v).2.1) : Int)) :: (srq11 s v)
abbrev srq13 (s : Seat) (v : Vote) : AV := .agg [VI ((((s.serveP v).1).promised).time), VI ((((s.serveP v).1).promised).who)]
abbrev srq14 (s : Seat) (v : Vote) : LS := (30, .agg [VI s.promised.time, VI s.promised.who]) :: (29, .ref 0 5 0 0) :: (28, (srq13 s v)) :: (27, .ref 2 5 0 0) :: (18, .v (.bool false)) :: (srq9 s v)
abbrev srq15 : LS := [(45, .v (.bool true)), (5, .ref 2 5 0 0), (3, .ref 1 6 0 0), (2, .ref 0 5 0 0)]
abbrev srq16 (s : Seat) (v : Vote) : AV := .agg [VI (((((s.serveP v).1).kept).at_).time), VI (((((s.serveP v).1).kept).at_).who)]
abbrev srq17 (s : Seat) (v : Vote) : LS := (38, .agg [VI s.kept.at_.time, VI s.kept.at_.who]) :: (37, .ref 0 5 0 2) :: (36, .ref 0 5 0 2) :: (35, (srq16 s v)) :: (34, .ref 2 5 0 2) :: (33, .ref 2 5 0 2) :: (32, .v (.bool false)) :: (31, .v (.bool false)) :: (srq14 s v)
abbrev srq18 (s : Seat) (v : Vote) : LS := (42, (srq5 s v)) :: (41, .v (.bool false)) :: (40, .v (.bool false)) :: (39, .v (.bool false)) :: (srq17 s v)
abbrev srq19 (s : Seat) (v : Vote) : LS := (43, VI ((⟨(((s.serveP v).1).promised), (⟨((((s.serveP v).1).kept).at_), (((s.serveP v).1).kept).data⟩ : Copy)⟩ : Seat).checkE)) :: (srq18 s v)
abbrev srq20 : LS := [(5, .ref 2 5 0 0), (3, .ref 1 6 0 0), (2, .ref 0 5 0 0)]
abbrev srq21 (s : Seat) : AV := .agg [VI s.kept.at_.time, VI s.kept.at_.who, .v (.string s.kept.data)]
abbrev srq22 (s : Seat) (v : Vote) : AV := .agg [VI (((((s.serveP v).1).kept).at_).time), VI (((((s.serveP v).1).kept).at_).who), .v (.string ((((s.serveP v).1).kept).data))]
abbrev srq23 (s : Seat) (v : Vote) : LS := (49, (srq21 s)) :: (48, .ref 0 5 0 2) :: (47, (srq22 s v)) :: (46, .ref 2 5 0 2) :: (45, .v (.bool false)) :: srq20
abbrev srq24 (v : Vote) : AV := .agg [VI v.copy.at_.time, VI v.copy.at_.who, .v (.string v.copy.data)]
abbrev srq25 (v : Vote) (s : Seat) : LS := (55, (srq24 v)) :: (54, .ref 1 6 0 3) :: (53, (srq22 s v)) :: (52, .ref 2 5 0 2) :: (51, .v (.bool false)) :: (50, .v (.bool false)) :: (srq23 s v)
abbrev srq26 (v : Vote) (s : Seat) : LS := (59, VI v.kind) :: (58, .ref 1 6 0 0) :: (57, .v (.bool true)) :: (56, .v (.bool true)) :: (srq25 v s)
abbrev srq27 (s : Seat) (v : Vote) : LS := (67, .agg [VI s.promised.time, VI s.promised.who]) :: (66, .ref 0 5 0 0) :: (65, .agg [VI v.copy.at_.time, VI v.copy.at_.who]) :: (64, .ref 1 6 0 3) :: (63, .ref 1 6 0 3) :: (62, .v (.bool true)) :: (61, .v (.bool true)) :: (60, .v (.bool true)) :: (srq26 v s)
theorem seatRises_fn (s : Seat) (v : Vote) : Fn Tryd.prog 5 [.agg [VI s.promised.time, VI s.promised.who, VI s.kept.at_.time, VI s.kept.at_.who, .v (.string s.kept.data)], .agg [VI v.kind, VI v.bid, VI v.node, VI v.copy.at_.time, VI v.copy.at_.who, .v (.string v.copy.data)]] (.v (.bool true)) := by
  refine fn_walkW F5_ok (of_decide_eq_true (by kernel_rfl)) ?_
  refine EL.sreg ?_
  refine OW.last 3 [2, 3] (x' := ⟨[(3, .ref 1 6 0 0), (2, .ref 0 5 0 0)], [(srq0 s), (srq1 v)]⟩) (by kernel_rfl) (by kernel_rfl) ?_
  refine EL.sreg ?_
  refine OW.run 2 (x' := ⟨(srq4 v s), [(srq0 s), (srq1 v)]⟩) (by kernel_rfl) ?_
  refine OW.fn (ar := [(srq3 s), (srq2 v)]) (x' := ⟨(srq6 s v), [(srq0 s), (srq1 v)]⟩) (by kernel_rfl) (by kernel_rfl) F8_call (serve_fn s v) (by kernel_rfl) (by kernel_rfl) ?_
  refine OW.last 8 [2, 3, 5, 6, 7] (x' := ⟨(srq8 s v), [(srq0 s), (srq1 v), (srq7 s v)]⟩) (by kernel_rfl) (by kernel_rfl) ?_
  refine EL.seq ?_
  refine EL.sreg ?_
  refine OW.fn (ar := []) (x' := ⟨(15, .v (.bool true)) :: (srq8 s v), [(srq0 s), (srq1 v), (srq7 s v)]⟩) (by kernel_rfl) (by kernel_rfl) F10_call (begun_fn) (by kernel_rfl) (by kernel_rfl) ?_
  refine OW.last 1 [2, 3, 5, 6, 7, 16] (x' := ⟨(16, .v (.bool false)) :: (srq8 s v), [(srq0 s), (srq1 v), (srq7 s v)]⟩) (by kernel_rfl) (by kernel_rfl) ?_
  refine EL.condF (by kernel_rfl) ?_
  refine EL.skip ?_
  refine thenL_norm ?_
  refine EL.seq ?_
  refine EL.sreg ?_
  refine OW.last 2 [2, 3, 5, 6, 18] (x' := ⟨(18, .v (.bool (((s.serveP v).2.2) != 0))) :: (srq9 s v), [(srq0 s), (srq1 v), (srq7 s v)]⟩) (by kernel_rfl) (by kernel_rfl) ?_
  rcases Bool.eq_false_or_eq_true ((((s.serveP v).2.2) != 0)) with h1 | h1
  rw [h1]
  have g1 : ¬ (((s.serveP v).2.2) = 0) := by simpa using h1
  refine EL.condT (by kernel_rfl) ?_
  refine EL.sreg ?_
  refine OW.run 4 (x' := ⟨(22, .v (.bool ((((((s.serveP v).1).promised).time) == 0) && ((((((s.serveP v).1).promised).who) == 0) && (((((((s.serveP v).1).kept).at_).time) == 0) && (((((((s.serveP v).1).kept).at_).who) == 0) && (strEq ((((s.serveP v).1).kept).data) (⟨#[]⟩) && true))))))) :: (21, .v (.bool ((((((s.serveP v).1).promised).time) == 0) && ((((((s.serveP v).1).promised).who) == 0) && (((((((s.serveP v).1).kept).at_).time) == 0) && (((((((s.serveP v).1).kept).at_).who) == 0) && (strEq ((((s.serveP v).1).kept).data) (⟨#[]⟩) && true))))))) :: (srq10 s v), [(srq0 s), (srq1 v), (srq7 s v)]⟩) (by kernel_rfl) ?_
  rcases Bool.eq_false_or_eq_true (((((((s.serveP v).1).promised).time) == 0) && ((((((s.serveP v).1).promised).who) == 0) && (((((((s.serveP v).1).kept).at_).time) == 0) && (((((((s.serveP v).1).kept).at_).who) == 0) && (strEq ((((s.serveP v).1).kept).data) (⟨#[]⟩) && true)))))) with h2 | h2
  rw [h2]
  refine OW.run 1 (x' := ⟨(srq11 s v), [(srq0 s), (srq1 v), (srq7 s v)]⟩) (by kernel_rfl) ?_
  refine OW.ope (v := VI (List.length ((s.serveP v).2.1) : Int)) (u := []) (acc := []) (x' := ⟨(srq12 s v), [(srq0 s), (srq1 v), (srq7 s v)]⟩) (by kernel_rfl) (opE_len Vote.cs ((s.serveP v).2.1) (.s 23) 6 (by kernel_rfl) (by kernel_rfl) (.inl rfl)) (by kernel_rfl) ?_
  refine OW.last 3 [4] (x' := ⟨[(4, .v (.bool ((List.length ((s.serveP v).2.1) : Int) == 0)))], [(srq0 s), (srq1 v), (srq7 s v)]⟩) (by kernel_rfl) (by kernel_rfl) ?_
  refine EL.ret ?_
  refine thenL_ret ?_
  refine ⟨.inr rfl, .v (.bool ((List.length ((s.serveP v).2.1) : Int) == 0)), by kernel_rfl, Ale.of_eq ?_⟩
  focus (first | rfl | (obtain ⟨q1, q2⟩ := serve_bad (by assumption); first | (rw [q2]; rfl) | (exfalso; rw [q1] at h2; simp [Seat.zero, strEq] at h2; done)) | (obtain ⟨q1, q2, q3, q4⟩ := serve_rises (by assumption); first | (exfalso; simp_all; done) | (rcases q4 with q4 | ⟨q4, q5, q6⟩ <;> simp_all [strEq, strEq_iff, Copy.ext_iff, Stamp.ext_iff]; done)))
  rw [h2]
  refine OW.last 5 [4] (x' := ⟨[(4, .v (.bool false))], [(srq0 s), (srq1 v), (srq7 s v)]⟩) (by kernel_rfl) (by kernel_rfl) ?_
  refine EL.ret ?_
  refine thenL_ret ?_
  refine ⟨.inr rfl, .v (.bool false), by kernel_rfl, Ale.of_eq ?_⟩
  focus (first | rfl | (obtain ⟨q1, q2⟩ := serve_bad (by assumption); first | (rw [q2]; rfl) | (exfalso; rw [q1] at h2; simp [Seat.zero, strEq] at h2; done)) | (obtain ⟨q1, q2, q3, q4⟩ := serve_rises (by assumption); first | (exfalso; simp_all; done) | (rcases q4 with q4 | ⟨q4, q5, q6⟩ <;> simp_all [strEq, strEq_iff, Copy.ext_iff, Stamp.ext_iff]; done)))
  rw [h1]
  have g1 : (((s.serveP v).2.2) = 0) := by simpa using h1
  refine EL.condF (by kernel_rfl) ?_
  refine EL.skip ?_
  refine thenL_norm ?_
  refine EL.seq ?_
  refine EL.sreg ?_
  refine OW.run 4 (x' := ⟨(srq14 s v), [(srq0 s), (srq1 v), (srq7 s v)]⟩) (by kernel_rfl) ?_
  refine OW.fn (ar := [(srq13 s v), .agg [VI s.promised.time, VI s.promised.who]]) (x' := ⟨(31, .v (.bool (decide ((((s.serveP v).1).promised).lt s.promised)))) :: (srq14 s v), [(srq0 s), (srq1 v), (srq7 s v)]⟩) (by kernel_rfl) (by kernel_rfl) F22_call (less_fn (((s.serveP v).1).promised) s.promised) (by kernel_rfl) (by kernel_rfl) ?_
  refine OW.run 1 (x' := ⟨(32, .v (.bool (decide ((((s.serveP v).1).promised).lt s.promised)))) :: (31, .v (.bool (decide ((((s.serveP v).1).promised).lt s.promised)))) :: (srq14 s v), [(srq0 s), (srq1 v), (srq7 s v)]⟩) (by kernel_rfl) ?_
  rcases Bool.eq_false_or_eq_true (decide ((((s.serveP v).1).promised).lt s.promised)) with h3 | h3
  rw [h3]
  have g3 : ((((s.serveP v).1).promised).lt s.promised) := of_decide_eq_true h3
  refine OW.last 13 [2, 3, 5, 45] (x' := ⟨srq15, [(srq0 s), (srq1 v), (srq7 s v)]⟩) (by kernel_rfl) (by kernel_rfl) ?_
  refine EL.condT (by kernel_rfl) ?_
  refine EL.sreg ?_
  refine OW.last 1 [4] (x' := ⟨[(4, .v (.bool false))], [(srq0 s), (srq1 v), (srq7 s v)]⟩) (by kernel_rfl) (by kernel_rfl) ?_
  refine EL.ret ?_
  refine thenL_ret ?_
  refine ⟨.inr rfl, .v (.bool false), by kernel_rfl, Ale.of_eq ?_⟩
  focus (first | rfl | (obtain ⟨q1, q2⟩ := serve_bad (by assumption); first | (rw [q2]; rfl) | (exfalso; rw [q1] at h2; simp [Seat.zero, strEq] at h2; done)) | (obtain ⟨q1, q2, q3, q4⟩ := serve_rises (by assumption); first | (exfalso; simp_all; done) | (rcases q4 with q4 | ⟨q4, q5, q6⟩ <;> simp_all [strEq, strEq_iff, Copy.ext_iff, Stamp.ext_iff]; done)))
  rw [h3]
  have g3 : ¬ ((((s.serveP v).1).promised).lt s.promised) := of_decide_eq_false h3
  refine OW.run 6 (x' := ⟨(srq17 s v), [(srq0 s), (srq1 v), (srq7 s v)]⟩) (by kernel_rfl) ?_
  refine OW.fn (ar := [(srq16 s v), .agg [VI s.kept.at_.time, VI s.kept.at_.who]]) (x' := ⟨(39, .v (.bool (decide (((((s.serveP v).1).kept).at_).lt s.kept.at_)))) :: (srq17 s v), [(srq0 s), (srq1 v), (srq7 s v)]⟩) (by kernel_rfl) (by kernel_rfl) F22_call (less_fn ((((s.serveP v).1).kept).at_) s.kept.at_) (by kernel_rfl) (by kernel_rfl) ?_
  refine OW.run 2 (x' := ⟨(41, .v (.bool (decide (((((s.serveP v).1).kept).at_).lt s.kept.at_)))) :: (40, .v (.bool (decide (((((s.serveP v).1).kept).at_).lt s.kept.at_)))) :: (39, .v (.bool (decide (((((s.serveP v).1).kept).at_).lt s.kept.at_)))) :: (srq17 s v), [(srq0 s), (srq1 v), (srq7 s v)]⟩) (by kernel_rfl) ?_
  rcases Bool.eq_false_or_eq_true (decide (((((s.serveP v).1).kept).at_).lt s.kept.at_)) with h4 | h4
  rw [h4]
  have g4 : (((((s.serveP v).1).kept).at_).lt s.kept.at_) := of_decide_eq_true h4
  refine OW.last 4 [2, 3, 5, 45] (x' := ⟨srq15, [(srq0 s), (srq1 v), (srq7 s v)]⟩) (by kernel_rfl) (by kernel_rfl) ?_
  refine EL.condT (by kernel_rfl) ?_
  refine EL.sreg ?_
  refine OW.last 1 [4] (x' := ⟨[(4, .v (.bool false))], [(srq0 s), (srq1 v), (srq7 s v)]⟩) (by kernel_rfl) (by kernel_rfl) ?_
  refine EL.ret ?_
  refine thenL_ret ?_
  refine ⟨.inr rfl, .v (.bool false), by kernel_rfl, Ale.of_eq ?_⟩
  focus (first | rfl | (obtain ⟨q1, q2⟩ := serve_bad (by assumption); first | (rw [q2]; rfl) | (exfalso; rw [q1] at h2; simp [Seat.zero, strEq] at h2; done)) | (obtain ⟨q1, q2, q3, q4⟩ := serve_rises (by assumption); first | (exfalso; simp_all; done) | (rcases q4 with q4 | ⟨q4, q5, q6⟩ <;> simp_all [strEq, strEq_iff, Copy.ext_iff, Stamp.ext_iff]; done)))
  rw [h4]
  have g4 : ¬ (((((s.serveP v).1).kept).at_).lt s.kept.at_) := of_decide_eq_false h4
  refine OW.run 1 (x' := ⟨(srq18 s v), [(srq0 s), (srq1 v), (srq7 s v)]⟩) (by kernel_rfl) ?_
  refine OW.fn (ar := [(srq5 s v)]) (x' := ⟨(srq19 s v), [(srq0 s), (srq1 v), (srq7 s v)]⟩) (by kernel_rfl) (by kernel_rfl) F13_call (secheck_fn (⟨(((s.serveP v).1).promised), (⟨((((s.serveP v).1).kept).at_), (((s.serveP v).1).kept).data⟩ : Copy)⟩ : Seat)) (by kernel_rfl) (by kernel_rfl) ?_
  refine OW.last 2 [2, 3, 5, 45] (x' := ⟨(45, .v (.bool (((⟨(((s.serveP v).1).promised), (⟨((((s.serveP v).1).kept).at_), (((s.serveP v).1).kept).data⟩ : Copy)⟩ : Seat).checkE) != 0))) :: srq20, [(srq0 s), (srq1 v), (srq7 s v)]⟩) (by kernel_rfl) (by kernel_rfl) ?_
  rcases Bool.eq_false_or_eq_true ((((⟨(((s.serveP v).1).promised), (⟨((((s.serveP v).1).kept).at_), (((s.serveP v).1).kept).data⟩ : Copy)⟩ : Seat).checkE) != 0)) with h5 | h5
  rw [h5]
  have g5 : ¬ (((⟨(((s.serveP v).1).promised), (⟨((((s.serveP v).1).kept).at_), (((s.serveP v).1).kept).data⟩ : Copy)⟩ : Seat).checkE) = 0) := by simpa using h5
  refine EL.condT (by kernel_rfl) ?_
  refine EL.sreg ?_
  refine OW.last 1 [4] (x' := ⟨[(4, .v (.bool false))], [(srq0 s), (srq1 v), (srq7 s v)]⟩) (by kernel_rfl) (by kernel_rfl) ?_
  refine EL.ret ?_
  refine thenL_ret ?_
  refine ⟨.inr rfl, .v (.bool false), by kernel_rfl, Ale.of_eq ?_⟩
  focus (first | rfl | (obtain ⟨q1, q2⟩ := serve_bad (by assumption); first | (rw [q2]; rfl) | (exfalso; rw [q1] at h2; simp [Seat.zero, strEq] at h2; done)) | (obtain ⟨q1, q2, q3, q4⟩ := serve_rises (by assumption); first | (exfalso; simp_all; done) | (rcases q4 with q4 | ⟨q4, q5, q6⟩ <;> simp_all [strEq, strEq_iff, Copy.ext_iff, Stamp.ext_iff]; done)))
  rw [h5]
  have g5 : (((⟨(((s.serveP v).1).promised), (⟨((((s.serveP v).1).kept).at_), (((s.serveP v).1).kept).data⟩ : Copy)⟩ : Seat).checkE) = 0) := by simpa using h5
  refine EL.condF (by kernel_rfl) ?_
  refine EL.skip ?_
  refine thenL_norm ?_
  refine EL.sreg ?_
  refine OW.run 6 (x' := ⟨(51, .v (.bool (((((((s.serveP v).1).kept).at_).time) == s.kept.at_.time) && (((((((s.serveP v).1).kept).at_).who) == s.kept.at_.who) && (strEq ((((s.serveP v).1).kept).data) s.kept.data && true))))) :: (50, .v (.bool (((((((s.serveP v).1).kept).at_).time) == s.kept.at_.time) && (((((((s.serveP v).1).kept).at_).who) == s.kept.at_.who) && (strEq ((((s.serveP v).1).kept).data) s.kept.data && true))))) :: (srq23 s v), [(srq0 s), (srq1 v), (srq7 s v)]⟩) (by kernel_rfl) ?_
  rcases Bool.eq_false_or_eq_true ((((((((s.serveP v).1).kept).at_).time) == s.kept.at_.time) && (((((((s.serveP v).1).kept).at_).who) == s.kept.at_.who) && (strEq ((((s.serveP v).1).kept).data) s.kept.data && true)))) with h6 | h6
  rw [h6]
  refine OW.last 21 [4] (x' := ⟨[(4, .v (.bool true))], [(srq0 s), (srq1 v), (srq7 s v)]⟩) (by kernel_rfl) (by kernel_rfl) ?_
  refine EL.ret ?_
  refine ⟨.inr rfl, .v (.bool true), by kernel_rfl, Ale.of_eq ?_⟩
  focus (first | rfl | (obtain ⟨q1, q2⟩ := serve_bad (by assumption); first | (rw [q2]; rfl) | (exfalso; rw [q1] at h2; simp [Seat.zero, strEq] at h2; done)) | (obtain ⟨q1, q2, q3, q4⟩ := serve_rises (by assumption); first | (exfalso; simp_all; done) | (rcases q4 with q4 | ⟨q4, q5, q6⟩ <;> simp_all [strEq, strEq_iff, Copy.ext_iff, Stamp.ext_iff]; done)))
  rw [h6]
  refine OW.run 6 (x' := ⟨(57, .v (.bool (((((((s.serveP v).1).kept).at_).time) == v.copy.at_.time) && (((((((s.serveP v).1).kept).at_).who) == v.copy.at_.who) && (strEq ((((s.serveP v).1).kept).data) v.copy.data && true))))) :: (56, .v (.bool (((((((s.serveP v).1).kept).at_).time) == v.copy.at_.time) && (((((((s.serveP v).1).kept).at_).who) == v.copy.at_.who) && (strEq ((((s.serveP v).1).kept).data) v.copy.data && true))))) :: (srq25 v s), [(srq0 s), (srq1 v), (srq7 s v)]⟩) (by kernel_rfl) ?_
  rcases Bool.eq_false_or_eq_true ((((((((s.serveP v).1).kept).at_).time) == v.copy.at_.time) && (((((((s.serveP v).1).kept).at_).who) == v.copy.at_.who) && (strEq ((((s.serveP v).1).kept).data) v.copy.data && true)))) with h7 | h7
  rw [h7]
  refine OW.run 5 (x' := ⟨(62, .v (.bool (v.kind == 3))) :: (61, .v (.bool (v.kind == 3))) :: (60, .v (.bool (v.kind == 3))) :: (srq26 v s), [(srq0 s), (srq1 v), (srq7 s v)]⟩) (by kernel_rfl) ?_
  rcases Bool.eq_false_or_eq_true ((v.kind == 3)) with h8 | h8
  rw [h8]
  have g8 : (v.kind = 3) := by simpa using h8
  refine OW.run 5 (x' := ⟨(srq27 s v), [(srq0 s), (srq1 v), (srq7 s v)]⟩) (by kernel_rfl) ?_
  refine OW.fn (ar := [.agg [VI v.copy.at_.time, VI v.copy.at_.who], .agg [VI s.promised.time, VI s.promised.who]]) (x' := ⟨(68, .v (.bool (decide (v.copy.at_.lt s.promised)))) :: (srq27 s v), [(srq0 s), (srq1 v), (srq7 s v)]⟩) (by kernel_rfl) (by kernel_rfl) F22_call (less_fn v.copy.at_ s.promised) (by kernel_rfl) (by kernel_rfl) ?_
  refine OW.last 4 [4] (x' := ⟨[(4, .v (.bool (!(decide (v.copy.at_.lt s.promised)))))], [(srq0 s), (srq1 v), (srq7 s v)]⟩) (by kernel_rfl) (by kernel_rfl) ?_
  refine EL.ret ?_
  refine ⟨.inr rfl, .v (.bool (!(decide (v.copy.at_.lt s.promised)))), by kernel_rfl, Ale.of_eq ?_⟩
  focus (first | rfl | (obtain ⟨q1, q2⟩ := serve_bad (by assumption); first | (rw [q2]; rfl) | (exfalso; rw [q1] at h2; simp [Seat.zero, strEq] at h2; done)) | (obtain ⟨q1, q2, q3, q4⟩ := serve_rises (by assumption); first | (exfalso; simp_all; done) | (rcases q4 with q4 | ⟨q4, q5, q6⟩ <;> simp_all [strEq, strEq_iff, Copy.ext_iff, Stamp.ext_iff]; done)))
  rw [h8]
  have g8 : ¬ (v.kind = 3) := by simpa using h8
  refine OW.last 10 [4] (x' := ⟨[(4, .v (.bool false))], [(srq0 s), (srq1 v), (srq7 s v)]⟩) (by kernel_rfl) (by kernel_rfl) ?_
  refine EL.ret ?_
  refine ⟨.inr rfl, .v (.bool false), by kernel_rfl, Ale.of_eq ?_⟩
  focus (first | rfl | (obtain ⟨q1, q2⟩ := serve_bad (by assumption); first | (rw [q2]; rfl) | (exfalso; rw [q1] at h2; simp [Seat.zero, strEq] at h2; done)) | (obtain ⟨q1, q2, q3, q4⟩ := serve_rises (by assumption); first | (exfalso; simp_all; done) | (rcases q4 with q4 | ⟨q4, q5, q6⟩ <;> simp_all [strEq, strEq_iff, Copy.ext_iff, Stamp.ext_iff]; done)))
  rw [h7]
  refine OW.last 15 [4] (x' := ⟨[(4, .v (.bool false))], [(srq0 s), (srq1 v), (srq7 s v)]⟩) (by kernel_rfl) (by kernel_rfl) ?_
  refine EL.ret ?_
  refine ⟨.inr rfl, .v (.bool false), by kernel_rfl, Ale.of_eq ?_⟩
  focus (first | rfl | (obtain ⟨q1, q2⟩ := serve_bad (by assumption); first | (rw [q2]; rfl) | (exfalso; rw [q1] at h2; simp [Seat.zero, strEq] at h2; done)) | (obtain ⟨q1, q2, q3, q4⟩ := serve_rises (by assumption); first | (exfalso; simp_all; done) | (rcases q4 with q4 | ⟨q4, q5, q6⟩ <;> simp_all [strEq, strEq_iff, Copy.ext_iff, Stamp.ext_iff]; done)))
theorem SeatRises_walk {w : World} (hG : GlE (E0 w fun b => b < w.heap.size)) (s : Seat) (_oks : s.ok) (v : Vote) (_okv : v.ok) : Calls Tryd.prog 5 #[s.v, v.v] w fun e w' => e = .returned (.bool true) ∧ Below w.heap.size w w' := by
  exact fn_law (vs := [s.v, v.v]) (seatRises_fn s v ) hG (.cons ((R2.agg (.cons (.v rfl) (.cons (.v rfl) (.cons (.v rfl) (.cons (.v rfl) (.cons (.v rfl) (.nil)))))) : Rep _ s.v _)) (.cons ((R2.agg (.cons (.v rfl) (.cons (.v rfl) (.cons (.v rfl) (.cons (.v rfl) (.cons (.v rfl) (.cons (.v rfl) (.nil))))))) : Rep _ v.v _)) (.nil)))
theorem SeatRises_own : ownKnob Tryd.prog.godebug = none := by kernel_rfl
theorem SeatRises_laidOut : laidOutB Tryd.prog = true := by kernel_rfl
set_option maxRecDepth 100000 in
set_option linter.unusedVariables false in
theorem SeatRises_lifted (os : Os) (started : os.Started) (H : Type) (enc : TypeId × Value → H) :
    ReturnsInHanded {} Tryd.checked os 5 .any (fun w args => (Rows.seatRisesSpec.pre enc Tryd.prog Tryd.f5 [] false w args ∧ laidMetH Tryd.prog Rows.seatRisesRow.laid w) ∧ sizedMet enc Tryd.prog Tryd.f5 (OpenSpec.ofChange Rows.seatRisesSpec) false w args)
      (Rows.seatRisesSpec.post enc Tryd.prog Tryd.f5 false true false false) := by
  refine returnsInHanded_of_change_and (C := Tryd.checked) (X := fun w _ => laidMetH Tryd.prog Rows.seatRisesRow.laid w) (fun _ _ _ hh h => h.of_heap hh) SeatRises_own started (by kernel_rfl) Tryd.func5
    (ChangeSpec.witness_shaped (enc := enc) (C := Tryd.checked) (os := os) (X := fun w _ => laidMetH Tryd.prog Rows.seatRisesRow.laid w) false (World.doorLaid Tryd.prog 14 os) #[.agg #[.int .i64 0, .int .i64 0, .int .i64 0, .int .i64 0, .string ByteArray.empty], .agg #[.int .i64 0, .int .i64 0, .int .i64 0, .int .i64 0, .int .i64 0, .string ByteArray.empty]] 8 rfl (World.shaped_of_RefB (by kernel_rfl) (by kernel_rfl)) (by kernel_rfl) (by kernel_rfl) (by kernel_rfl) (laidMetH_of_parts3 (fuel := 8) (laidMet_of_run' 8 (by kernel_rfl) (by kernel_rfl)) (by kernel_rfl) (by kernel_rfl))) ?_
  intro W base args ds gs before hval0 hW _ _ hL _
  have hval : ∀ (j : Nat) t v, Tryd.f5.params[j]? = some t → args[j]? = some v → Value.okWide Tryd.prog W .any base t v := hval0
  have hW' := hW
  obtain ⟨p, q, hA0, hV, rfl, hfz, hnd⟩ := hW
  have hA : DataW.TrodAll enc Tryd.prog W 0 (fun _ => true) true Tryd.f5.params.toList args.toList ds p := hA0
  rw [Tryd.params5] at hA hval
  obtain ⟨v0, vs0, d0, ds0, p0, q0, hargs, rfl, rfl, h0, r0⟩ := trodAll_cons hA
  obtain ⟨v1, vs1, d1, ds1, p1, q1, rfl, rfl, rfl, h1, r1⟩ := trodAll_cons r0
  obtain ⟨rfl, rfl, rfl⟩ := trodAll_nil r1
  obtain rfl : args = #[v0, v1] := by cases args; simp_all
  obtain ⟨rfl, rfl⟩ := trodVars_none hV
  have k0 := h0
  have lt0 : ∀ x ∈ p0, x.block < W.heap.size := by obtain ⟨m, hm⟩ := k0; exact DataW.trod_lt m _ _ _ hm
  obtain ⟨x0, cs0, rfl, w0⟩ := open_agg opens_Seat Tryd.underlying27 (hval 0 27 v0 rfl rfl) h0
  obtain ⟨rfl, ok0⟩ := Seat.flat w0
  have k1 := h1
  have lt1 : ∀ x ∈ p1, x.block < W.heap.size := by obtain ⟨m, hm⟩ := k1; exact DataW.trod_lt m _ _ _ hm
  obtain ⟨x1, cs1, rfl, w1⟩ := open_agg opens_Vote Tryd.underlying29 (hval 1 29 v1 rfl rfl) h1
  obtain ⟨rfl, ok1⟩ := Vote.flat w1
  clear hA0 hval0
  refine (SeatRises_walk (w := W) (glE_of hL) x0 ok0 x1 ok1).mono fun e W' ⟨he, bel⟩ => ?_
  subst he
  exact ⟨_, rfl, _, _, _, [], _, [], hW', trodAll_mk1 (shut_bool Tryd.underlying4 _), (trodAll_cons_mk (Below.trod SeatRises_laidOut (by kernel_rfl) (of_decide_eq_true (by kernel_rfl)) k0 bel lt0) (trodAll_cons_mk (Below.trod SeatRises_laidOut (by kernel_rfl) (of_decide_eq_true (by kernel_rfl)) k1 bel lt1) trodAll_mk0)), rfl, bel.frame _, fun h => by cases h⟩
set_option maxRecDepth 100000 in
set_option maxHeartbeats 4000000 in
theorem SeatRises_row : Rows.SeatRisesSaid :=
  OpenClaim.holds_of_wide 5 Tryd.f5 rfl rfl rfl rfl rfl rfl rfl ⟨rfl, rfl, rfl, rfl, rfl⟩ rfl rfl rfl rfl rfl (by kernel_rfl) Tryd.func5 (by kernel_rfl)
    (of_decide_eq_true (by kernel_rfl)) (by unfold Func.isWrapper; first | (rw [if_pos (by decide +kernel)]; kernel_rfl) | (rw [if_neg (by decide +kernel)]; exact ⟨rfl, rfl⟩))
    (fun os started H enc _ => SeatRises_lifted os started H enc)
set_option maxRecDepth 100000 in
set_option maxHeartbeats 4000000 in
theorem SeatRises_holds : Rows.SeatRisesCardSaid :=
  Claim7.holds_tied_plain_at .later [] [.data] true (true, "b61f73abae45e264646c0b9802a4a2409c44329666a5012799d964ba1cee84f6") false
    SeatRises_row (fun _ h => by cases h) (by kernel_rfl) (fun _ h => by cases h) seatRises_row_tie rfl ⟨rfl, rfl⟩ (by kernel_rfl) rfl
    (fun f fn hf hfn => by
      obtain rfl : f = 5 := Option.some.inj ((show Tryd.prog.funcNamed "supercargo/supercargolaw.SeatRises" = some 5 by kernel_rfl).symm.trans hf) |>.symm
      obtain rfl : fn = Tryd.f5 := (Option.some.inj (Tryd.func5.symm.trans hfn)).symm
      exact ⟨by kernel_rfl, fun j t ht => by
        rw [Tryd.params5] at ht
        have hm : t ∈ [27, 29] := by simpa using Array.mem_of_getElem? ht
        have hall : ([27, 29].all fun u => !Tryd.prog.wantsStandIn u) = true := by kernel_rfl
        exact (show Tryd.prog.wantsStandIn t = false by simpa using List.all_eq_true.1 hall t hm)⟩)
    (by kernel_rfl)
end Go.Proofs.YtejilglnpdjepaaDoor
