/- A duplicate message has no effect within a phase: the law AskOnce returns true. No condition. -/
import Derived.Test.YtgepadjkegfokaaDoorPAskL
import Derived.Test.YtgepadjkegfokaaDoorPAskF
import Derived.WalkKit
import Derived.Handy
import Derived.ProofKit
import Derived.OpenShut
import Derived.ShutString
import Derived.ChangeOld
import Derived.Below
import Derived.Lib.Hide
import Derived.WalkLawsBesides
import Derived.WalkSpells
import Derived.Deep.QuietTactic
import Derived.BigQuiet
import Derived.Outline
import Derived.SevenTiedAt
namespace Go.Proofs.YtgepadjkegfokaaDoor
set_option linter.unusedSimpArgs false
set_option linter.unusedVariables false
open Go.ChangeShapes Go.WideShapes Go.ChangeAt Go.RowKit
open Go.ChangeMaps (open_string shut_string)
set_option maxRecDepth 100000
set_option maxHeartbeats 4000000
abbrev aoncq0 (a : Ask) : OB := some ⟨8, [[VI a.op, VI a.kind, VI a.phase, .v (.string a.data), VI a.best.at_.time, VI a.best.at_.who, .v (.string a.best.data), .v (.int .u64 (a.heard.n : Int))]]⟩
abbrev aoncq1 (m : Msg) : OB := some ⟨6, [[VI m.kind, VI m.op, VI m.node, VI m.copy.at_.time, VI m.copy.at_.who, .v (.string m.copy.data)]]⟩
abbrev aoncq2 (v : Voters) (a : Ask) (m : Msg) : LB := [some ⟨2, [[.lst 1 (v.weights.map cI), VI v.need]]⟩, (aoncq0 a), (aoncq1 m)]
abbrev aoncq3 : LS := [(5, .ref 2 6 0 0), (4, .ref 1 8 0 0), (3, .ref 0 2 0 0)]
abbrev aoncq4 (m : Msg) : AV := .agg [VI m.kind, VI m.op, VI m.node, VI m.copy.at_.time, VI m.copy.at_.who, .v (.string m.copy.data)]
abbrev aoncq5 (a : Ask) : AV := .agg [VI a.op, VI a.kind, VI a.phase, .v (.string a.data), VI a.best.at_.time, VI a.best.at_.who, .v (.string a.best.data), .v (.int .u64 (a.heard.n : Int))]
abbrev aoncq6 (m : Msg) (a : Ask) (v : Voters) : LS := (16, (aoncq4 m)) :: (15, (aoncq5 a)) :: (14, .agg [.lst 1 (v.weights.map cI), VI v.need]) :: aoncq3
abbrev aoncq7 (v : Voters) (a : Ask) (m : Msg) : AV := .agg [VI (((hearA v a m).1).op), VI (((hearA v a m).1).kind), VI (((hearA v a m).1).phase), .v (.string (((hearA v a m).1).data)), VI (((((hearA v a m).1).best).at_).time), VI (((((hearA v a m).1).best).at_).who), .v (.string ((((hearA v a m).1).best).data)), .v (.int .u64 (((hearA v a m).1).heard.n : Int))]
abbrev aoncq8 (v : Voters) (a : Ask) (m : Msg) : LS := (17, .tup [(aoncq7 v a m), .lst 6 (((hearA v a m).2.1).map Msg.cs), VI ((hearA v a m).2.2)]) :: (aoncq6 m a v)
abbrev aoncq9 (v : Voters) (a : Ask) (m : Msg) : OB := some ⟨8, [[VI (((hearA v a m).1).op), VI (((hearA v a m).1).kind), VI (((hearA v a m).1).phase), .v (.string (((hearA v a m).1).data)), VI (((((hearA v a m).1).best).at_).time), VI (((((hearA v a m).1).best).at_).who), .v (.string ((((hearA v a m).1).best).data)), .v (.int .u64 (((hearA v a m).1).heard.n : Int))]]⟩
abbrev aoncq10 (v : Voters) (a : Ask) (m : Msg) : LB := [some ⟨2, [[.lst 1 (v.weights.map cI), VI v.need]]⟩, (aoncq0 a), (aoncq1 m), (aoncq9 v a m)]
abbrev aoncq11 (v : Voters) (a : Ask) (m : Msg) : LS := (9, VI ((hearA v a m).2.2)) :: (7, .ref 3 8 0 0) :: aoncq3
abbrev aoncq12 (m : Msg) (v : Voters) (a : Ask) : LS := (31, (aoncq4 m)) :: (30, (aoncq7 v a m)) :: (29, .agg [.lst 1 (v.weights.map cI), VI v.need]) :: (24, .v (.bool false)) :: (7, .ref 3 8 0 0) :: aoncq3
abbrev aoncq13 (v : Voters) (a : Ask) (m : Msg) : AV := .agg [VI (((hearA v (⟨((hearA v a m).1).op, ((hearA v a m).1).kind, ((hearA v a m).1).phase, ((hearA v a m).1).data, (⟨((((hearA v a m).1).best).at_), (((hearA v a m).1).best).data⟩ : Copy), ((hearA v a m).1).heard⟩ : Ask) m).1).op), VI (((hearA v (⟨((hearA v a m).1).op, ((hearA v a m).1).kind, ((hearA v a m).1).phase, ((hearA v a m).1).data, (⟨((((hearA v a m).1).best).at_), (((hearA v a m).1).best).data⟩ : Copy), ((hearA v a m).1).heard⟩ : Ask) m).1).kind), VI (((hearA v (⟨((hearA v a m).1).op, ((hearA v a m).1).kind, ((hearA v a m).1).phase, ((hearA v a m).1).data, (⟨((((hearA v a m).1).best).at_), (((hearA v a m).1).best).data⟩ : Copy), ((hearA v a m).1).heard⟩ : Ask) m).1).phase), .v (.string (((hearA v (⟨((hearA v a m).1).op, ((hearA v a m).1).kind, ((hearA v a m).1).phase, ((hearA v a m).1).data, (⟨((((hearA v a m).1).best).at_), (((hearA v a m).1).best).data⟩ : Copy), ((hearA v a m).1).heard⟩ : Ask) m).1).data)), VI (((((hearA v (⟨((hearA v a m).1).op, ((hearA v a m).1).kind, ((hearA v a m).1).phase, ((hearA v a m).1).data, (⟨((((hearA v a m).1).best).at_), (((hearA v a m).1).best).data⟩ : Copy), ((hearA v a m).1).heard⟩ : Ask) m).1).best).at_).time), VI (((((hearA v (⟨((hearA v a m).1).op, ((hearA v a m).1).kind, ((hearA v a m).1).phase, ((hearA v a m).1).data, (⟨((((hearA v a m).1).best).at_), (((hearA v a m).1).best).data⟩ : Copy), ((hearA v a m).1).heard⟩ : Ask) m).1).best).at_).who), .v (.string ((((hearA v (⟨((hearA v a m).1).op, ((hearA v a m).1).kind, ((hearA v a m).1).phase, ((hearA v a m).1).data, (⟨((((hearA v a m).1).best).at_), (((hearA v a m).1).best).data⟩ : Copy), ((hearA v a m).1).heard⟩ : Ask) m).1).best).data)), .v (.int .u64 (((hearA v (⟨((hearA v a m).1).op, ((hearA v a m).1).kind, ((hearA v a m).1).phase, ((hearA v a m).1).data, (⟨((((hearA v a m).1).best).at_), (((hearA v a m).1).best).data⟩ : Copy), ((hearA v a m).1).heard⟩ : Ask) m).1).heard.n : Int))]
abbrev aoncq14 (v : Voters) (a : Ask) (m : Msg) : LS := (32, .tup [(aoncq13 v a m), .lst 6 (((hearA v (⟨((hearA v a m).1).op, ((hearA v a m).1).kind, ((hearA v a m).1).phase, ((hearA v a m).1).data, (⟨((((hearA v a m).1).best).at_), (((hearA v a m).1).best).data⟩ : Copy), ((hearA v a m).1).heard⟩ : Ask) m).2.1).map Msg.cs), VI ((hearA v (⟨((hearA v a m).1).op, ((hearA v a m).1).kind, ((hearA v a m).1).phase, ((hearA v a m).1).data, (⟨((((hearA v a m).1).best).at_), (((hearA v a m).1).best).data⟩ : Copy), ((hearA v a m).1).heard⟩ : Ask) m).2.2)]) :: (aoncq12 m v a)
abbrev aoncq15 (v : Voters) (a : Ask) (m : Msg) : OB := some ⟨8, [[VI (((hearA v (⟨((hearA v a m).1).op, ((hearA v a m).1).kind, ((hearA v a m).1).phase, ((hearA v a m).1).data, (⟨((((hearA v a m).1).best).at_), (((hearA v a m).1).best).data⟩ : Copy), ((hearA v a m).1).heard⟩ : Ask) m).1).op), VI (((hearA v (⟨((hearA v a m).1).op, ((hearA v a m).1).kind, ((hearA v a m).1).phase, ((hearA v a m).1).data, (⟨((((hearA v a m).1).best).at_), (((hearA v a m).1).best).data⟩ : Copy), ((hearA v a m).1).heard⟩ : Ask) m).1).kind), VI (((hearA v (⟨((hearA v a m).1).op, ((hearA v a m).1).kind, ((hearA v a m).1).phase, ((hearA v a m).1).data, (⟨((((hearA v a m).1).best).at_), (((hearA v a m).1).best).data⟩ : Copy), ((hearA v a m).1).heard⟩ : Ask) m).1).phase), .v (.string (((hearA v (⟨((hearA v a m).1).op, ((hearA v a m).1).kind, ((hearA v a m).1).phase, ((hearA v a m).1).data, (⟨((((hearA v a m).1).best).at_), (((hearA v a m).1).best).data⟩ : Copy), ((hearA v a m).1).heard⟩ : Ask) m).1).data)), VI (((((hearA v (⟨((hearA v a m).1).op, ((hearA v a m).1).kind, ((hearA v a m).1).phase, ((hearA v a m).1).data, (⟨((((hearA v a m).1).best).at_), (((hearA v a m).1).best).data⟩ : Copy), ((hearA v a m).1).heard⟩ : Ask) m).1).best).at_).time), VI (((((hearA v (⟨((hearA v a m).1).op, ((hearA v a m).1).kind, ((hearA v a m).1).phase, ((hearA v a m).1).data, (⟨((((hearA v a m).1).best).at_), (((hearA v a m).1).best).data⟩ : Copy), ((hearA v a m).1).heard⟩ : Ask) m).1).best).at_).who), .v (.string ((((hearA v (⟨((hearA v a m).1).op, ((hearA v a m).1).kind, ((hearA v a m).1).phase, ((hearA v a m).1).data, (⟨((((hearA v a m).1).best).at_), (((hearA v a m).1).best).data⟩ : Copy), ((hearA v a m).1).heard⟩ : Ask) m).1).best).data)), .v (.int .u64 (((hearA v (⟨((hearA v a m).1).op, ((hearA v a m).1).kind, ((hearA v a m).1).phase, ((hearA v a m).1).data, (⟨((((hearA v a m).1).best).at_), (((hearA v a m).1).best).data⟩ : Copy), ((hearA v a m).1).heard⟩ : Ask) m).1).heard.n : Int))]]⟩
abbrev aoncq16 (v : Voters) (a : Ask) (m : Msg) : LB := [some ⟨2, [[.lst 1 (v.weights.map cI), VI v.need]]⟩, (aoncq0 a), (aoncq1 m), (aoncq9 v a m), (aoncq15 v a m)]
abbrev aoncq17 (v : Voters) (a : Ask) (m : Msg) : LS := [(12, VI ((hearA v (⟨((hearA v a m).1).op, ((hearA v a m).1).kind, ((hearA v a m).1).phase, ((hearA v a m).1).data, (⟨((((hearA v a m).1).best).at_), (((hearA v a m).1).best).data⟩ : Copy), ((hearA v a m).1).heard⟩ : Ask) m).2.2)), (11, .lst 6 (((hearA v (⟨((hearA v a m).1).op, ((hearA v a m).1).kind, ((hearA v a m).1).phase, ((hearA v a m).1).data, (⟨((((hearA v a m).1).best).at_), (((hearA v a m).1).best).data⟩ : Copy), ((hearA v a m).1).heard⟩ : Ask) m).2.1).map Msg.cs)), (10, .ref 4 8 0 0), (7, .ref 3 8 0 0), (4, .ref 1 8 0 0)]
abbrev aoncq18 (v : Voters) (a : Ask) (m : Msg) : LS := (36, VI ((hearA v (⟨((hearA v a m).1).op, ((hearA v a m).1).kind, ((hearA v a m).1).phase, ((hearA v a m).1).data, (⟨((((hearA v a m).1).best).at_), (((hearA v a m).1).best).data⟩ : Copy), ((hearA v a m).1).heard⟩ : Ask) m).2.2)) :: (aoncq17 v a m)
abbrev aoncq19 (a : Ask) (v : Voters) (m : Msg) : LS := (42, VI a.phase) :: (41, .ref 1 8 0 2) :: (40, VI (((hearA v a m).1).phase)) :: (39, .ref 3 8 0 2) :: (38, .v (.bool true)) :: (37, .v (.bool true)) :: (aoncq18 v a m)
abbrev aoncq20 (v : Voters) (a : Ask) (m : Msg) : LS := (46, (aoncq7 v a m)) :: (45, (aoncq13 v a m)) :: (44, .v (.bool false)) :: (43, .v (.bool false)) :: (aoncq19 a v m)
abbrev aoncq21 (v : Voters) (a : Ask) (m : Msg) : LS := (49, .lst 6 (((hearA v (⟨((hearA v a m).1).op, ((hearA v a m).1).kind, ((hearA v a m).1).phase, ((hearA v a m).1).data, (⟨((((hearA v a m).1).best).at_), (((hearA v a m).1).best).data⟩ : Copy), ((hearA v a m).1).heard⟩ : Ask) m).2.1).map Msg.cs)) :: (48, .v (.bool true)) :: (47, .v (.bool true)) :: (aoncq20 v a m)
abbrev aoncq22 (v : Voters) (a : Ask) (m : Msg) : LS := (50, VI (List.length ((hearA v (⟨((hearA v a m).1).op, ((hearA v a m).1).kind, ((hearA v a m).1).phase, ((hearA v a m).1).data, (⟨((((hearA v a m).1).best).at_), (((hearA v a m).1).best).data⟩ : Copy), ((hearA v a m).1).heard⟩ : Ask) m).2.1) : Int)) :: (aoncq21 v a m)
theorem askOnce_fn (v : Voters) (a : Ask) (m : Msg) (hx : v.weights.length ≤ 9223372036854775807) : Fn Tryd.prog 5 [.agg [.lst 1 (v.weights.map cI), VI v.need], .agg [VI a.op, VI a.kind, VI a.phase, .v (.string a.data), VI a.best.at_.time, VI a.best.at_.who, .v (.string a.best.data), .v (.int .u64 (a.heard.n : Int))], .agg [VI m.kind, VI m.op, VI m.node, VI m.copy.at_.time, VI m.copy.at_.who, .v (.string m.copy.data)]] (.v (.bool true)) := by
  refine fn_walkW F5_ok (of_decide_eq_true (by kernel_rfl)) ?_
  refine EL.sreg ?_
  refine OW.last 4 [3, 4, 5] (x' := ⟨aoncq3, (aoncq2 v a m)⟩) (by kernel_rfl) (by kernel_rfl) ?_
  refine EL.sreg ?_
  refine OW.run 3 (x' := ⟨(aoncq6 m a v), (aoncq2 v a m)⟩) (by kernel_rfl) ?_
  refine OW.fn (ar := [.agg [.lst 1 (v.weights.map cI), VI v.need], (aoncq5 a), (aoncq4 m)]) (x' := ⟨(aoncq8 v a m), (aoncq2 v a m)⟩) (by kernel_rfl) (by kernel_rfl) F8_call (hear_fn v a m hx) (by kernel_rfl) (by kernel_rfl) ?_
  refine OW.last 8 [3, 4, 5, 7, 9] (x' := ⟨(aoncq11 v a m), (aoncq10 v a m)⟩) (by kernel_rfl) (by kernel_rfl) ?_
  refine EL.seq ?_
  refine EL.sreg ?_
  refine OW.fn (ar := []) (x' := ⟨(21, .v (.bool true)) :: (aoncq11 v a m), (aoncq10 v a m)⟩) (by kernel_rfl) (by kernel_rfl) F12_call (begun_fn) (by kernel_rfl) (by kernel_rfl) ?_
  refine OW.last 1 [3, 4, 5, 7, 9, 22] (x' := ⟨(22, .v (.bool false)) :: (aoncq11 v a m), (aoncq10 v a m)⟩) (by kernel_rfl) (by kernel_rfl) ?_
  refine EL.condF (by kernel_rfl) ?_
  refine EL.skip ?_
  refine thenL_norm ?_
  refine EL.seq ?_
  refine EL.sreg ?_
  refine OW.last 2 [3, 4, 5, 7, 24] (x' := ⟨(24, .v (.bool (((hearA v a m).2.2) != 0))) :: (7, .ref 3 8 0 0) :: aoncq3, (aoncq10 v a m)⟩) (by kernel_rfl) (by kernel_rfl) ?_
  rcases Bool.eq_false_or_eq_true ((((hearA v a m).2.2) != 0)) with h1 | h1
  rw [h1]
  have g1 : ¬ (((hearA v a m).2.2) = 0) := by simpa using h1
  refine EL.condT (by kernel_rfl) ?_
  refine EL.sreg ?_
  refine OW.last 4 [6] (x' := ⟨[(6, .v (.bool (((((hearA v a m).1).op) == 0) && (((((hearA v a m).1).kind) == 0) && (((((hearA v a m).1).phase) == 0) && (strEq (((hearA v a m).1).data) (⟨#[]⟩) && (((((((hearA v a m).1).best).at_).time) == 0) && (((((((hearA v a m).1).best).at_).who) == 0) && (strEq ((((hearA v a m).1).best).data) (⟨#[]⟩) && (((((hearA v a m).1).heard.n : Int) == 0) && true))))))))))], (aoncq10 v a m)⟩) (by kernel_rfl) (by kernel_rfl) ?_
  refine EL.ret ?_
  refine thenL_ret ?_
  refine ⟨.inr rfl, .v (.bool (((((hearA v a m).1).op) == 0) && (((((hearA v a m).1).kind) == 0) && (((((hearA v a m).1).phase) == 0) && (strEq (((hearA v a m).1).data) (⟨#[]⟩) && (((((((hearA v a m).1).best).at_).time) == 0) && (((((((hearA v a m).1).best).at_).who) == 0) && (strEq ((((hearA v a m).1).best).data) (⟨#[]⟩) && (((((hearA v a m).1).heard.n : Int) == 0) && true))))))))), by kernel_rfl, Ale.of_eq ?_⟩
  focus ((refine congrArg (fun b => AV.v (Value.bool b)) ?_; have e8 : (⟨(hearA v a m).1.op, (hearA v a m).1.kind, (hearA v a m).1.phase, (hearA v a m).1.data, ⟨(hearA v a m).1.best.at_, (hearA v a m).1.best.data⟩, (hearA v a m).1.heard⟩ : Ask) = (hearA v a m).1 := rfl; first | rfl | (have e9 := hear_zero (v := v) (a := a) (m := m) (by assumption); rw [e9.1]; simp [Ask.zero, strEq]; done) | (have e9 := once (v := v) (a := a) (m := m) (by assumption); simp only [e8] at *; first | (exfalso; omega) | (have e7 := e9.2 (by omega); rw [e7]; first | rfl | (simp [strEq]; done)) | (exfalso; have e7 := e9.2 (by omega); rw [e7] at *; simp_all [strEq]; done))))
  rw [h1]
  have g1 : (((hearA v a m).2.2) = 0) := by simpa using h1
  refine EL.condF (by kernel_rfl) ?_
  refine EL.skip ?_
  refine thenL_norm ?_
  refine EL.sreg ?_
  refine OW.run 3 (x' := ⟨(aoncq12 m v a), (aoncq10 v a m)⟩) (by kernel_rfl) ?_
  refine OW.fn (ar := [.agg [.lst 1 (v.weights.map cI), VI v.need], (aoncq7 v a m), (aoncq4 m)]) (x' := ⟨(aoncq14 v a m), (aoncq10 v a m)⟩) (by kernel_rfl) (by kernel_rfl) F8_call (hear_fn v (⟨((hearA v a m).1).op, ((hearA v a m).1).kind, ((hearA v a m).1).phase, ((hearA v a m).1).data, (⟨((((hearA v a m).1).best).at_), (((hearA v a m).1).best).data⟩ : Copy), ((hearA v a m).1).heard⟩ : Ask) m hx) (by kernel_rfl) (by kernel_rfl) ?_
  refine OW.last 8 [4, 7, 10, 11, 12] (x' := ⟨(aoncq17 v a m), (aoncq16 v a m)⟩) (by kernel_rfl) (by kernel_rfl) ?_
  refine EL.sreg ?_
  refine OW.run 3 (x' := ⟨(38, .v (.bool (((hearA v (⟨((hearA v a m).1).op, ((hearA v a m).1).kind, ((hearA v a m).1).phase, ((hearA v a m).1).data, (⟨((((hearA v a m).1).best).at_), (((hearA v a m).1).best).data⟩ : Copy), ((hearA v a m).1).heard⟩ : Ask) m).2.2) == 0))) :: (37, .v (.bool (((hearA v (⟨((hearA v a m).1).op, ((hearA v a m).1).kind, ((hearA v a m).1).phase, ((hearA v a m).1).data, (⟨((((hearA v a m).1).best).at_), (((hearA v a m).1).best).data⟩ : Copy), ((hearA v a m).1).heard⟩ : Ask) m).2.2) == 0))) :: (aoncq18 v a m), (aoncq16 v a m)⟩) (by kernel_rfl) ?_
  rcases Bool.eq_false_or_eq_true ((((hearA v (⟨((hearA v a m).1).op, ((hearA v a m).1).kind, ((hearA v a m).1).phase, ((hearA v a m).1).data, (⟨((((hearA v a m).1).best).at_), (((hearA v a m).1).best).data⟩ : Copy), ((hearA v a m).1).heard⟩ : Ask) m).2.2) == 0)) with h2 | h2
  rw [h2]
  have g2 : (((hearA v (⟨((hearA v a m).1).op, ((hearA v a m).1).kind, ((hearA v a m).1).phase, ((hearA v a m).1).data, (⟨((((hearA v a m).1).best).at_), (((hearA v a m).1).best).data⟩ : Copy), ((hearA v a m).1).heard⟩ : Ask) m).2.2) = 0) := by simpa using h2
  refine OW.run 6 (x' := ⟨(44, .v (.bool ((((hearA v a m).1).phase) != a.phase))) :: (43, .v (.bool ((((hearA v a m).1).phase) != a.phase))) :: (aoncq19 a v m), (aoncq16 v a m)⟩) (by kernel_rfl) ?_
  rcases Bool.eq_false_or_eq_true (((((hearA v a m).1).phase) != a.phase)) with h3 | h3
  rw [h3]
  have g3 : ¬ ((((hearA v a m).1).phase) = a.phase) := by simpa using h3
  refine OW.last 11 [6] (x' := ⟨[(6, .v (.bool true))], (aoncq16 v a m)⟩) (by kernel_rfl) (by kernel_rfl) ?_
  refine EL.ret ?_
  refine ⟨.inr rfl, .v (.bool true), by kernel_rfl, Ale.of_eq ?_⟩
  focus ((refine congrArg (fun b => AV.v (Value.bool b)) ?_; have e8 : (⟨(hearA v a m).1.op, (hearA v a m).1.kind, (hearA v a m).1.phase, (hearA v a m).1.data, ⟨(hearA v a m).1.best.at_, (hearA v a m).1.best.data⟩, (hearA v a m).1.heard⟩ : Ask) = (hearA v a m).1 := rfl; first | rfl | (have e9 := hear_zero (v := v) (a := a) (m := m) (by assumption); rw [e9.1]; simp [Ask.zero, strEq]; done) | (have e9 := once (v := v) (a := a) (m := m) (by assumption); simp only [e8] at *; first | (exfalso; omega) | (have e7 := e9.2 (by omega); rw [e7]; first | rfl | (simp [strEq]; done)) | (exfalso; have e7 := e9.2 (by omega); rw [e7] at *; simp_all [strEq]; done))))
  rw [h3]
  have g3 : ((((hearA v a m).1).phase) = a.phase) := by simpa using h3
  refine OW.run 4 (x' := ⟨(48, .v (.bool (((((hearA v (⟨((hearA v a m).1).op, ((hearA v a m).1).kind, ((hearA v a m).1).phase, ((hearA v a m).1).data, (⟨((((hearA v a m).1).best).at_), (((hearA v a m).1).best).data⟩ : Copy), ((hearA v a m).1).heard⟩ : Ask) m).1).op) == ((hearA v a m).1).op) && (((((hearA v (⟨((hearA v a m).1).op, ((hearA v a m).1).kind, ((hearA v a m).1).phase, ((hearA v a m).1).data, (⟨((((hearA v a m).1).best).at_), (((hearA v a m).1).best).data⟩ : Copy), ((hearA v a m).1).heard⟩ : Ask) m).1).kind) == ((hearA v a m).1).kind) && (((((hearA v (⟨((hearA v a m).1).op, ((hearA v a m).1).kind, ((hearA v a m).1).phase, ((hearA v a m).1).data, (⟨((((hearA v a m).1).best).at_), (((hearA v a m).1).best).data⟩ : Copy), ((hearA v a m).1).heard⟩ : Ask) m).1).phase) == ((hearA v a m).1).phase) && (strEq (((hearA v (⟨((hearA v a m).1).op, ((hearA v a m).1).kind, ((hearA v a m).1).phase, ((hearA v a m).1).data, (⟨((((hearA v a m).1).best).at_), (((hearA v a m).1).best).data⟩ : Copy), ((hearA v a m).1).heard⟩ : Ask) m).1).data) (((hearA v a m).1).data) && (((((((hearA v (⟨((hearA v a m).1).op, ((hearA v a m).1).kind, ((hearA v a m).1).phase, ((hearA v a m).1).data, (⟨((((hearA v a m).1).best).at_), (((hearA v a m).1).best).data⟩ : Copy), ((hearA v a m).1).heard⟩ : Ask) m).1).best).at_).time) == ((((hearA v a m).1).best).at_).time) && (((((((hearA v (⟨((hearA v a m).1).op, ((hearA v a m).1).kind, ((hearA v a m).1).phase, ((hearA v a m).1).data, (⟨((((hearA v a m).1).best).at_), (((hearA v a m).1).best).data⟩ : Copy), ((hearA v a m).1).heard⟩ : Ask) m).1).best).at_).who) == ((((hearA v a m).1).best).at_).who) && (strEq ((((hearA v (⟨((hearA v a m).1).op, ((hearA v a m).1).kind, ((hearA v a m).1).phase, ((hearA v a m).1).data, (⟨((((hearA v a m).1).best).at_), (((hearA v a m).1).best).data⟩ : Copy), ((hearA v a m).1).heard⟩ : Ask) m).1).best).data) ((((hearA v a m).1).best).data) && (((((hearA v (⟨((hearA v a m).1).op, ((hearA v a m).1).kind, ((hearA v a m).1).phase, ((hearA v a m).1).data, (⟨((((hearA v a m).1).best).at_), (((hearA v a m).1).best).data⟩ : Copy), ((hearA v a m).1).heard⟩ : Ask) m).1).heard.n : Int) == (((hearA v a m).1).heard.n : Int)) && true)))))))))) :: (47, .v (.bool (((((hearA v (⟨((hearA v a m).1).op, ((hearA v a m).1).kind, ((hearA v a m).1).phase, ((hearA v a m).1).data, (⟨((((hearA v a m).1).best).at_), (((hearA v a m).1).best).data⟩ : Copy), ((hearA v a m).1).heard⟩ : Ask) m).1).op) == ((hearA v a m).1).op) && (((((hearA v (⟨((hearA v a m).1).op, ((hearA v a m).1).kind, ((hearA v a m).1).phase, ((hearA v a m).1).data, (⟨((((hearA v a m).1).best).at_), (((hearA v a m).1).best).data⟩ : Copy), ((hearA v a m).1).heard⟩ : Ask) m).1).kind) == ((hearA v a m).1).kind) && (((((hearA v (⟨((hearA v a m).1).op, ((hearA v a m).1).kind, ((hearA v a m).1).phase, ((hearA v a m).1).data, (⟨((((hearA v a m).1).best).at_), (((hearA v a m).1).best).data⟩ : Copy), ((hearA v a m).1).heard⟩ : Ask) m).1).phase) == ((hearA v a m).1).phase) && (strEq (((hearA v (⟨((hearA v a m).1).op, ((hearA v a m).1).kind, ((hearA v a m).1).phase, ((hearA v a m).1).data, (⟨((((hearA v a m).1).best).at_), (((hearA v a m).1).best).data⟩ : Copy), ((hearA v a m).1).heard⟩ : Ask) m).1).data) (((hearA v a m).1).data) && (((((((hearA v (⟨((hearA v a m).1).op, ((hearA v a m).1).kind, ((hearA v a m).1).phase, ((hearA v a m).1).data, (⟨((((hearA v a m).1).best).at_), (((hearA v a m).1).best).data⟩ : Copy), ((hearA v a m).1).heard⟩ : Ask) m).1).best).at_).time) == ((((hearA v a m).1).best).at_).time) && (((((((hearA v (⟨((hearA v a m).1).op, ((hearA v a m).1).kind, ((hearA v a m).1).phase, ((hearA v a m).1).data, (⟨((((hearA v a m).1).best).at_), (((hearA v a m).1).best).data⟩ : Copy), ((hearA v a m).1).heard⟩ : Ask) m).1).best).at_).who) == ((((hearA v a m).1).best).at_).who) && (strEq ((((hearA v (⟨((hearA v a m).1).op, ((hearA v a m).1).kind, ((hearA v a m).1).phase, ((hearA v a m).1).data, (⟨((((hearA v a m).1).best).at_), (((hearA v a m).1).best).data⟩ : Copy), ((hearA v a m).1).heard⟩ : Ask) m).1).best).data) ((((hearA v a m).1).best).data) && (((((hearA v (⟨((hearA v a m).1).op, ((hearA v a m).1).kind, ((hearA v a m).1).phase, ((hearA v a m).1).data, (⟨((((hearA v a m).1).best).at_), (((hearA v a m).1).best).data⟩ : Copy), ((hearA v a m).1).heard⟩ : Ask) m).1).heard.n : Int) == (((hearA v a m).1).heard.n : Int)) && true)))))))))) :: (aoncq20 v a m), (aoncq16 v a m)⟩) (by kernel_rfl) ?_
  rcases Bool.eq_false_or_eq_true ((((((hearA v (⟨((hearA v a m).1).op, ((hearA v a m).1).kind, ((hearA v a m).1).phase, ((hearA v a m).1).data, (⟨((((hearA v a m).1).best).at_), (((hearA v a m).1).best).data⟩ : Copy), ((hearA v a m).1).heard⟩ : Ask) m).1).op) == ((hearA v a m).1).op) && (((((hearA v (⟨((hearA v a m).1).op, ((hearA v a m).1).kind, ((hearA v a m).1).phase, ((hearA v a m).1).data, (⟨((((hearA v a m).1).best).at_), (((hearA v a m).1).best).data⟩ : Copy), ((hearA v a m).1).heard⟩ : Ask) m).1).kind) == ((hearA v a m).1).kind) && (((((hearA v (⟨((hearA v a m).1).op, ((hearA v a m).1).kind, ((hearA v a m).1).phase, ((hearA v a m).1).data, (⟨((((hearA v a m).1).best).at_), (((hearA v a m).1).best).data⟩ : Copy), ((hearA v a m).1).heard⟩ : Ask) m).1).phase) == ((hearA v a m).1).phase) && (strEq (((hearA v (⟨((hearA v a m).1).op, ((hearA v a m).1).kind, ((hearA v a m).1).phase, ((hearA v a m).1).data, (⟨((((hearA v a m).1).best).at_), (((hearA v a m).1).best).data⟩ : Copy), ((hearA v a m).1).heard⟩ : Ask) m).1).data) (((hearA v a m).1).data) && (((((((hearA v (⟨((hearA v a m).1).op, ((hearA v a m).1).kind, ((hearA v a m).1).phase, ((hearA v a m).1).data, (⟨((((hearA v a m).1).best).at_), (((hearA v a m).1).best).data⟩ : Copy), ((hearA v a m).1).heard⟩ : Ask) m).1).best).at_).time) == ((((hearA v a m).1).best).at_).time) && (((((((hearA v (⟨((hearA v a m).1).op, ((hearA v a m).1).kind, ((hearA v a m).1).phase, ((hearA v a m).1).data, (⟨((((hearA v a m).1).best).at_), (((hearA v a m).1).best).data⟩ : Copy), ((hearA v a m).1).heard⟩ : Ask) m).1).best).at_).who) == ((((hearA v a m).1).best).at_).who) && (strEq ((((hearA v (⟨((hearA v a m).1).op, ((hearA v a m).1).kind, ((hearA v a m).1).phase, ((hearA v a m).1).data, (⟨((((hearA v a m).1).best).at_), (((hearA v a m).1).best).data⟩ : Copy), ((hearA v a m).1).heard⟩ : Ask) m).1).best).data) ((((hearA v a m).1).best).data) && (((((hearA v (⟨((hearA v a m).1).op, ((hearA v a m).1).kind, ((hearA v a m).1).phase, ((hearA v a m).1).data, (⟨((((hearA v a m).1).best).at_), (((hearA v a m).1).best).data⟩ : Copy), ((hearA v a m).1).heard⟩ : Ask) m).1).heard.n : Int) == (((hearA v a m).1).heard.n : Int)) && true))))))))) with h4 | h4
  rw [h4]
  refine OW.run 1 (x' := ⟨(aoncq21 v a m), (aoncq16 v a m)⟩) (by kernel_rfl) ?_
  refine OW.ope (v := VI (List.length ((hearA v (⟨((hearA v a m).1).op, ((hearA v a m).1).kind, ((hearA v a m).1).phase, ((hearA v a m).1).data, (⟨((((hearA v a m).1).best).at_), (((hearA v a m).1).best).data⟩ : Copy), ((hearA v a m).1).heard⟩ : Ask) m).2.1) : Int)) (u := []) (acc := []) (x' := ⟨(aoncq22 v a m), (aoncq16 v a m)⟩) (by kernel_rfl) (opE_len Msg.cs ((hearA v (⟨((hearA v a m).1).op, ((hearA v a m).1).kind, ((hearA v a m).1).phase, ((hearA v a m).1).data, (⟨((((hearA v a m).1).best).at_), (((hearA v a m).1).best).data⟩ : Copy), ((hearA v a m).1).heard⟩ : Ask) m).2.1) (.s 49) 6 (by kernel_rfl) (by kernel_rfl) (.inl rfl)) (by kernel_rfl) ?_
  refine OW.last 5 [6] (x' := ⟨[(6, .v (.bool ((List.length ((hearA v (⟨((hearA v a m).1).op, ((hearA v a m).1).kind, ((hearA v a m).1).phase, ((hearA v a m).1).data, (⟨((((hearA v a m).1).best).at_), (((hearA v a m).1).best).data⟩ : Copy), ((hearA v a m).1).heard⟩ : Ask) m).2.1) : Int) == 0)))], (aoncq16 v a m)⟩) (by kernel_rfl) (by kernel_rfl) ?_
  refine EL.ret ?_
  refine ⟨.inr rfl, .v (.bool ((List.length ((hearA v (⟨((hearA v a m).1).op, ((hearA v a m).1).kind, ((hearA v a m).1).phase, ((hearA v a m).1).data, (⟨((((hearA v a m).1).best).at_), (((hearA v a m).1).best).data⟩ : Copy), ((hearA v a m).1).heard⟩ : Ask) m).2.1) : Int) == 0)), by kernel_rfl, Ale.of_eq ?_⟩
  focus ((refine congrArg (fun b => AV.v (Value.bool b)) ?_; have e8 : (⟨(hearA v a m).1.op, (hearA v a m).1.kind, (hearA v a m).1.phase, (hearA v a m).1.data, ⟨(hearA v a m).1.best.at_, (hearA v a m).1.best.data⟩, (hearA v a m).1.heard⟩ : Ask) = (hearA v a m).1 := rfl; first | rfl | (have e9 := hear_zero (v := v) (a := a) (m := m) (by assumption); rw [e9.1]; simp [Ask.zero, strEq]; done) | (have e9 := once (v := v) (a := a) (m := m) (by assumption); simp only [e8] at *; first | (exfalso; omega) | (have e7 := e9.2 (by omega); rw [e7]; first | rfl | (simp [strEq]; done)) | (exfalso; have e7 := e9.2 (by omega); rw [e7] at *; simp_all [strEq]; done))))
  rw [h4]
  refine OW.last 7 [6] (x' := ⟨[(6, .v (.bool false))], (aoncq16 v a m)⟩) (by kernel_rfl) (by kernel_rfl) ?_
  refine EL.ret ?_
  refine ⟨.inr rfl, .v (.bool false), by kernel_rfl, Ale.of_eq ?_⟩
  focus ((refine congrArg (fun b => AV.v (Value.bool b)) ?_; have e8 : (⟨(hearA v a m).1.op, (hearA v a m).1.kind, (hearA v a m).1.phase, (hearA v a m).1.data, ⟨(hearA v a m).1.best.at_, (hearA v a m).1.best.data⟩, (hearA v a m).1.heard⟩ : Ask) = (hearA v a m).1 := rfl; first | rfl | (have e9 := hear_zero (v := v) (a := a) (m := m) (by assumption); rw [e9.1]; simp [Ask.zero, strEq]; done) | (have e9 := once (v := v) (a := a) (m := m) (by assumption); simp only [e8] at *; first | (exfalso; omega) | (have e7 := e9.2 (by omega); rw [e7]; first | rfl | (simp [strEq]; done)) | (exfalso; have e7 := e9.2 (by omega); rw [e7] at *; simp_all [strEq]; done))))
  rw [h2]
  have g2 : ¬ (((hearA v (⟨((hearA v a m).1).op, ((hearA v a m).1).kind, ((hearA v a m).1).phase, ((hearA v a m).1).data, (⟨((((hearA v a m).1).best).at_), (((hearA v a m).1).best).data⟩ : Copy), ((hearA v a m).1).heard⟩ : Ask) m).2.2) = 0) := by simpa using h2
  refine OW.last 17 [6] (x' := ⟨[(6, .v (.bool false))], (aoncq16 v a m)⟩) (by kernel_rfl) (by kernel_rfl) ?_
  refine EL.ret ?_
  refine ⟨.inr rfl, .v (.bool false), by kernel_rfl, Ale.of_eq ?_⟩
  focus ((refine congrArg (fun b => AV.v (Value.bool b)) ?_; have e8 : (⟨(hearA v a m).1.op, (hearA v a m).1.kind, (hearA v a m).1.phase, (hearA v a m).1.data, ⟨(hearA v a m).1.best.at_, (hearA v a m).1.best.data⟩, (hearA v a m).1.heard⟩ : Ask) = (hearA v a m).1 := rfl; first | rfl | (have e9 := hear_zero (v := v) (a := a) (m := m) (by assumption); rw [e9.1]; simp [Ask.zero, strEq]; done) | (have e9 := once (v := v) (a := a) (m := m) (by assumption); simp only [e8] at *; first | (exfalso; omega) | (have e7 := e9.2 (by omega); rw [e7]; first | rfl | (simp [strEq]; done)) | (exfalso; have e7 := e9.2 (by omega); rw [e7] at *; simp_all [strEq]; done))))
theorem AskOnce_walk {w : World} (hG : GlE (E0 w fun b => b < w.heap.size)) (v : Voters) (csv : List Value) (rv : GoT.rep w w.heap.size csv v) (a : Ask) (_oka : a.ok) (m : Msg) (_okm : m.ok) : Calls Tryd.prog 5 #[.agg csv.toArray, a.v, m.v] w fun e w' => e = .returned (.bool true) ∧ Below w.heap.size w w' := by
  have lv := (Voters.av rv).2
  exact fn_law (vs := [.agg csv.toArray, a.v, m.v]) (askOnce_fn v a m (by first | assumption | omega)) hG (.cons ((Voters.av rv).1) (.cons ((R2.agg (.cons (.v rfl) (.cons (.v rfl) (.cons (.v rfl) (.cons (.v rfl) (.cons (.v rfl) (.cons (.v rfl) (.cons (.v rfl) (.cons (.v rfl) (.nil))))))))) : Rep _ a.v _)) (.cons ((R2.agg (.cons (.v rfl) (.cons (.v rfl) (.cons (.v rfl) (.cons (.v rfl) (.cons (.v rfl) (.cons (.v rfl) (.nil))))))) : Rep _ m.v _)) (.nil))))
theorem AskOnce_own : ownKnob Tryd.prog.godebug = none := by kernel_rfl
theorem AskOnce_laidOut : laidOutB Tryd.prog = true := by kernel_rfl
set_option maxRecDepth 100000 in
set_option linter.unusedVariables false in
theorem AskOnce_lifted (os : Os) (started : os.Started) (H : Type) (enc : TypeId × Value → H) :
    ReturnsInHanded {} Tryd.checked os 5 .any (fun w args => (Rows.askOnceSpec.pre enc Tryd.prog Tryd.f5 [] false w args ∧ laidMetH Tryd.prog Rows.askOnceRow.laid w) ∧ sizedMet enc Tryd.prog Tryd.f5 (OpenSpec.ofChange Rows.askOnceSpec) false w args)
      (Rows.askOnceSpec.post enc Tryd.prog Tryd.f5 false true false false) := by
  refine returnsInHanded_of_change_and (C := Tryd.checked) (X := fun w _ => laidMetH Tryd.prog Rows.askOnceRow.laid w) (fun _ _ _ hh h => h.of_heap hh) AskOnce_own started (by kernel_rfl) Tryd.func5
    (ChangeSpec.witness_shaped (enc := enc) (C := Tryd.checked) (os := os) (X := fun w _ => laidMetH Tryd.prog Rows.askOnceRow.laid w) false (World.doorLaid Tryd.prog 14 os) #[.agg #[.slice none 0 0, .int .i64 0], .agg #[.int .i64 0, .int .i64 0, .int .i64 0, .string ByteArray.empty, .int .i64 0, .int .i64 0, .string ByteArray.empty, .int .u64 0], .agg #[.int .i64 0, .int .i64 0, .int .i64 0, .int .i64 0, .int .i64 0, .string ByteArray.empty]] 8 rfl (World.shaped_of_RefB (by kernel_rfl) (by kernel_rfl)) (by kernel_rfl) (by kernel_rfl) (by kernel_rfl) (laidMetH_of_parts3 (fuel := 8) (laidMet_of_run' 8 (by kernel_rfl) (by kernel_rfl)) (by kernel_rfl) (by kernel_rfl))) ?_
  intro W base args ds gs before hval0 hW _ _ hL _
  have hval : ∀ (j : Nat) t v, Tryd.f5.params[j]? = some t → args[j]? = some v → Value.okWide Tryd.prog W .any base t v := hval0
  have hW' := hW
  obtain ⟨p, q, hA0, hV, rfl, hfz, hnd⟩ := hW
  have hA : DataW.TrodAll enc Tryd.prog W 0 (fun _ => true) true Tryd.f5.params.toList args.toList ds p := hA0
  rw [Tryd.params5] at hA hval
  obtain ⟨v0, vs0, d0, ds0, p0, q0, hargs, rfl, rfl, h0, r0⟩ := trodAll_cons hA
  obtain ⟨v1, vs1, d1, ds1, p1, q1, rfl, rfl, rfl, h1, r1⟩ := trodAll_cons r0
  obtain ⟨v2, vs2, d2, ds2, p2, q2, rfl, rfl, rfl, h2, r2⟩ := trodAll_cons r1
  obtain ⟨rfl, rfl, rfl⟩ := trodAll_nil r2
  obtain rfl : args = #[v0, v1, v2] := by cases args; simp_all
  obtain ⟨rfl, rfl⟩ := trodVars_none hV
  have k0 := h0
  have lt0 : ∀ x ∈ p0, x.block < W.heap.size := by obtain ⟨m, hm⟩ := k0; exact DataW.trod_lt m _ _ _ hm
  obtain ⟨x0, cs0, rfl, w0⟩ := open_agg opens_Voters Tryd.underlying24 (hval 0 24 v0 rfl rfl) h0
  have k1 := h1
  have lt1 : ∀ x ∈ p1, x.block < W.heap.size := by obtain ⟨m, hm⟩ := k1; exact DataW.trod_lt m _ _ _ hm
  obtain ⟨x1, cs1, rfl, w1⟩ := open_agg opens_Ask Tryd.underlying31 (hval 1 31 v1 rfl rfl) h1
  obtain ⟨rfl, ok1⟩ := Ask.flat w1
  have k2 := h2
  have lt2 : ∀ x ∈ p2, x.block < W.heap.size := by obtain ⟨m, hm⟩ := k2; exact DataW.trod_lt m _ _ _ hm
  obtain ⟨x2, cs2, rfl, w2⟩ := open_agg opens_Msg Tryd.underlying33 (hval 2 33 v2 rfl rfl) h2
  obtain ⟨rfl, ok2⟩ := Msg.flat w2
  clear hA0 hval0
  refine (AskOnce_walk (w := W) (glE_of hL) x0 cs0 w0 x1 ok1 x2 ok2).mono fun e W' ⟨he, bel⟩ => ?_
  subst he
  exact ⟨_, rfl, _, _, _, [], _, [], hW', trodAll_mk1 (shut_bool Tryd.underlying4 _), (trodAll_cons_mk (Below.trod AskOnce_laidOut (by kernel_rfl) (of_decide_eq_true (by kernel_rfl)) k0 bel lt0) (trodAll_cons_mk (Below.trod AskOnce_laidOut (by kernel_rfl) (of_decide_eq_true (by kernel_rfl)) k1 bel lt1) (trodAll_cons_mk (Below.trod AskOnce_laidOut (by kernel_rfl) (of_decide_eq_true (by kernel_rfl)) k2 bel lt2) trodAll_mk0))), rfl, bel.frame _, fun h => by cases h⟩
set_option maxRecDepth 100000 in
set_option maxHeartbeats 4000000 in
theorem AskOnce_row : Rows.AskOnceSaid :=
  OpenClaim.holds_of_wide 5 Tryd.f5 rfl rfl rfl rfl rfl rfl rfl ⟨rfl, rfl, rfl, rfl, rfl⟩ rfl rfl rfl rfl rfl (by kernel_rfl) Tryd.func5 (by kernel_rfl)
    (of_decide_eq_true (by kernel_rfl)) (by unfold Func.isWrapper; first | (rw [if_pos (by decide +kernel)]; kernel_rfl) | (rw [if_neg (by decide +kernel)]; exact ⟨rfl, rfl⟩))
    (fun os started H enc _ => AskOnce_lifted os started H enc)
set_option maxRecDepth 100000 in
set_option maxHeartbeats 4000000 in
theorem AskOnce_holds : Rows.AskOnceCardSaid :=
  Claim7.holds_tied_plain_at .later [] [.data] true (true, "5bc4e28d4169921c484dbcdca1986270267f967a52b7c27f070fd8606f0cf834") false
    AskOnce_row (fun _ h => by cases h) (by kernel_rfl) (fun _ h => by cases h) askOnce_row_tie rfl ⟨rfl, rfl⟩ (by kernel_rfl) rfl
    (fun f fn hf hfn => by
      obtain rfl : f = 5 := Option.some.inj ((show Tryd.prog.funcNamed "supercargo/supercargolaw.AskOnce" = some 5 by kernel_rfl).symm.trans hf) |>.symm
      obtain rfl : fn = Tryd.f5 := (Option.some.inj (Tryd.func5.symm.trans hfn)).symm
      exact ⟨by kernel_rfl, fun j t ht => by
        rw [Tryd.params5] at ht
        have hm : t ∈ [24, 31, 33] := by simpa using Array.mem_of_getElem? ht
        have hall : ([24, 31, 33].all fun u => !Tryd.prog.wantsStandIn u) = true := by kernel_rfl
        exact (show Tryd.prog.wantsStandIn t = false by simpa using List.all_eq_true.1 hall t hm)⟩)
    (by kernel_rfl)
end Go.Proofs.YtgepadjkegfokaaDoor
