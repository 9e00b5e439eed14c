/- Check, Begin and Hear return what the document says, errors included: the law AskTells returns true. No condition. -/
import Derived.Test.YtgepadjkegfokaaDoorPAskL
import Derived.Test.YtgepadjkegfokaaDoorPAskE
import Derived.WalkKit
import Derived.Handy
import Derived.ProofKit
import Derived.OpenShut
import Derived.ShutString
import Derived.ChangeOld
import Derived.Below
import Derived.Lib.Hide
import Derived.WalkLawsBesides
import Derived.WalkSpells
import Derived.Deep.QuietTactic
import Derived.BigQuiet
import Derived.Outline
import Derived.SevenTiedAt
namespace Go.Proofs.YtgepadjkegfokaaDoor
set_option linter.unusedSimpArgs false
set_option linter.unusedVariables false
open Go.ChangeShapes Go.WideShapes Go.ChangeAt Go.RowKit
open Go.ChangeMaps (open_string shut_string)
set_option maxRecDepth 100000
set_option maxHeartbeats 4000000
abbrev atq0 (a : Ask) : OB := some ⟨8, [[VI a.op, VI a.kind, VI a.phase, .v (.string a.data), VI a.best.at_.time, VI a.best.at_.who, .v (.string a.best.data), .v (.int .u64 (a.heard.n : Int))]]⟩
abbrev atq1 (m : Msg) : OB := some ⟨6, [[VI m.kind, VI m.op, VI m.node, VI m.copy.at_.time, VI m.copy.at_.who, .v (.string m.copy.data)]]⟩
abbrev atq2 (v : Voters) (a : Ask) (m : Msg) : LB := [some ⟨2, [[.lst 1 (v.weights.map cI), VI v.need]]⟩, (atq0 a), (atq1 m)]
abbrev atq3 : LS := [(5, .ref 2 6 0 0), (4, .ref 1 8 0 0), (3, .ref 0 2 0 0)]
abbrev atq4 (m : Msg) : AV := .agg [VI m.kind, VI m.op, VI m.node, VI m.copy.at_.time, VI m.copy.at_.who, .v (.string m.copy.data)]
abbrev atq5 (a : Ask) : AV := .agg [VI a.op, VI a.kind, VI a.phase, .v (.string a.data), VI a.best.at_.time, VI a.best.at_.who, .v (.string a.best.data), .v (.int .u64 (a.heard.n : Int))]
abbrev atq6 (m : Msg) (a : Ask) (v : Voters) : LS := (22, (atq4 m)) :: (21, (atq5 a)) :: (20, .agg [.lst 1 (v.weights.map cI), VI v.need]) :: atq3
abbrev atq7 (v : Voters) (a : Ask) (m : Msg) : AV := .agg [VI (((hearA v a m).1).op), VI (((hearA v a m).1).kind), VI (((hearA v a m).1).phase), .v (.string (((hearA v a m).1).data)), VI (((((hearA v a m).1).best).at_).time), VI (((((hearA v a m).1).best).at_).who), .v (.string ((((hearA v a m).1).best).data)), .v (.int .u64 (((hearA v a m).1).heard.n : Int))]
abbrev atq8 (v : Voters) (a : Ask) (m : Msg) : LS := (23, .tup [(atq7 v a m), .lst 6 (((hearA v a m).2.1).map Msg.cs), VI ((hearA v a m).2.2)]) :: (atq6 m a v)
abbrev atq9 (v : Voters) (a : Ask) (m : Msg) : OB := some ⟨8, [[VI (((hearA v a m).1).op), VI (((hearA v a m).1).kind), VI (((hearA v a m).1).phase), .v (.string (((hearA v a m).1).data)), VI (((((hearA v a m).1).best).at_).time), VI (((((hearA v a m).1).best).at_).who), .v (.string ((((hearA v a m).1).best).data)), .v (.int .u64 (((hearA v a m).1).heard.n : Int))]]⟩
abbrev atq10 (v : Voters) (a : Ask) (m : Msg) : LB := [some ⟨2, [[.lst 1 (v.weights.map cI), VI v.need]]⟩, (atq0 a), (atq1 m), (atq9 v a m)]
abbrev atq11 (v : Voters) (a : Ask) (m : Msg) : LS := (9, VI ((hearA v a m).2.2)) :: (8, .lst 6 (((hearA v a m).2.1).map Msg.cs)) :: (7, .ref 3 8 0 0) :: atq3
abbrev atq12 (a : Ask) (v : Voters) (m : Msg) : LS := (34, .v (.string a.data)) :: (33, .ref 1 8 0 3) :: (32, VI a.kind) :: (31, .ref 1 8 0 1) :: (30, VI a.op) :: (29, .ref 1 8 0 0) :: (28, .agg [.lst 1 (v.weights.map cI), VI v.need]) :: (atq11 v a m)
abbrev atq13 (v : Voters) (a : Ask) : AV := .agg [VI (((beginA v a.op a.kind a.data).1).op), VI (((beginA v a.op a.kind a.data).1).kind), VI (((beginA v a.op a.kind a.data).1).phase), .v (.string (((beginA v a.op a.kind a.data).1).data)), VI (((((beginA v a.op a.kind a.data).1).best).at_).time), VI (((((beginA v a.op a.kind a.data).1).best).at_).who), .v (.string ((((beginA v a.op a.kind a.data).1).best).data)), .v (.int .u64 (((beginA v a.op a.kind a.data).1).heard.n : Int))]
abbrev atq14 (v : Voters) (a : Ask) (m : Msg) : LS := (35, .tup [(atq13 v a), .lst 6 (((beginA v a.op a.kind a.data).2.1).map Msg.cs), VI ((beginA v a.op a.kind a.data).2.2)]) :: (atq12 a v m)
abbrev atq15 (v : Voters) (a : Ask) : OB := some ⟨8, [[VI (((beginA v a.op a.kind a.data).1).op), VI (((beginA v a.op a.kind a.data).1).kind), VI (((beginA v a.op a.kind a.data).1).phase), .v (.string (((beginA v a.op a.kind a.data).1).data)), VI (((((beginA v a.op a.kind a.data).1).best).at_).time), VI (((((beginA v a.op a.kind a.data).1).best).at_).who), .v (.string ((((beginA v a.op a.kind a.data).1).best).data)), .v (.int .u64 (((beginA v a.op a.kind a.data).1).heard.n : Int))]]⟩
abbrev atq16 (v : Voters) (a : Ask) (m : Msg) : LB := [some ⟨2, [[.lst 1 (v.weights.map cI), VI v.need]]⟩, (atq0 a), (atq1 m), (atq9 v a m), (atq15 v a)]
abbrev atq17 (v : Voters) (a : Ask) (m : Msg) : LS := (12, VI ((beginA v a.op a.kind a.data).2.2)) :: (11, .lst 6 (((beginA v a.op a.kind a.data).2.1).map Msg.cs)) :: (10, .ref 4 8 0 0) :: (atq11 v a m)
abbrev atq18 (m : Msg) (a : Ask) (v : Voters) : LS := (42, (atq4 m)) :: (41, (atq5 a)) :: (40, .agg [.lst 1 (v.weights.map cI), VI v.need]) :: (atq17 v a m)
abbrev atq19 (v : Voters) (a : Ask) (m : Msg) : LS := (43, .tup [(atq7 v a m), .lst 6 (((hearA v a m).2.1).map Msg.cs), VI ((hearA v a m).2.2)]) :: (atq18 m a v)
abbrev atq20 (v : Voters) (a : Ask) (m : Msg) : LB := [some ⟨2, [[.lst 1 (v.weights.map cI), VI v.need]]⟩, (atq0 a), (atq1 m), (atq9 v a m), (atq15 v a), (atq9 v a m)]
abbrev atq21 (v : Voters) (a : Ask) (m : Msg) : LS := [(15, VI ((hearA v a m).2.2)), (14, .lst 6 (((hearA v a m).2.1).map Msg.cs)), (13, .ref 5 8 0 0), (12, VI ((beginA v a.op a.kind a.data).2.2)), (11, .lst 6 (((beginA v a.op a.kind a.data).2.1).map Msg.cs)), (10, .ref 4 8 0 0), (9, VI ((hearA v a m).2.2)), (8, .lst 6 (((hearA v a m).2.1).map Msg.cs)), (7, .ref 3 8 0 0), (4, .ref 1 8 0 0), (3, .ref 0 2 0 0)]
abbrev atq22 (a : Ask) (v : Voters) (m : Msg) : LS := (54, .v (.string a.data)) :: (53, .ref 1 8 0 3) :: (52, VI a.kind) :: (51, .ref 1 8 0 1) :: (50, VI a.op) :: (49, .ref 1 8 0 0) :: (48, .agg [.lst 1 (v.weights.map cI), VI v.need]) :: (atq21 v a m)
abbrev atq23 (v : Voters) (a : Ask) (m : Msg) : LS := (55, .tup [(atq13 v a), .lst 6 (((beginA v a.op a.kind a.data).2.1).map Msg.cs), VI ((beginA v a.op a.kind a.data).2.2)]) :: (atq22 a v m)
abbrev atq24 (v : Voters) (a : Ask) (m : Msg) : LB := [some ⟨2, [[.lst 1 (v.weights.map cI), VI v.need]]⟩, (atq0 a), (atq1 m), (atq9 v a m), (atq15 v a), (atq9 v a m), (atq15 v a)]
abbrev atq25 (v : Voters) (a : Ask) (m : Msg) : LS := (18, VI ((beginA v a.op a.kind a.data).2.2)) :: (17, .lst 6 (((beginA v a.op a.kind a.data).2.1).map Msg.cs)) :: (16, .ref 6 8 0 0) :: (atq21 v a m)
abbrev atq26 (a : Ask) (v : Voters) (m : Msg) : LS := (62, (atq5 a)) :: (61, .agg [.lst 1 (v.weights.map cI), VI v.need]) :: (60, .v (.bool true)) :: (59, .v (.bool true)) :: (atq25 v a m)
abbrev atq27 (a : Ask) (v : Voters) (m : Msg) : LS := (65, (atq5 a)) :: (64, .agg [.lst 1 (v.weights.map cI), VI v.need]) :: (63, VI (a.checkE v.weights v.need)) :: (atq26 a v m)
abbrev atq28 (v : Voters) (a : Ask) (m : Msg) : LS := (71, (atq7 v a m)) :: (70, (atq7 v a m)) :: (69, .v (.bool true)) :: (68, .v (.bool true)) :: (67, .v (.bool true)) :: (66, VI (a.checkE v.weights v.need)) :: (atq27 a v m)
abbrev atq29 (v : Voters) (a : Ask) (m : Msg) : LS := (76, .lst 6 (((hearA v a m).2.1).map Msg.cs)) :: (75, .lst 6 (((hearA v a m).2.1).map Msg.cs)) :: (74, .v (.bool true)) :: (73, .v (.bool true)) :: (72, .v (.bool true)) :: (atq28 v a m)
abbrev atq30 (v : Voters) (a : Ask) (m : Msg) : LS := (81, VI ((hearA v a m).2.2)) :: (80, VI ((hearA v a m).2.2)) :: (79, .v (.bool true)) :: (78, .v (.bool true)) :: (77, .v (.bool true)) :: (atq29 v a m)
abbrev atq31 (v : Voters) (a : Ask) (m : Msg) : LS := (86, (atq13 v a)) :: (85, (atq13 v a)) :: (84, .v (.bool true)) :: (83, .v (.bool true)) :: (82, .v (.bool true)) :: (atq30 v a m)
abbrev atq32 (v : Voters) (a : Ask) (m : Msg) : LS := (91, .lst 6 (((beginA v a.op a.kind a.data).2.1).map Msg.cs)) :: (90, .lst 6 (((beginA v a.op a.kind a.data).2.1).map Msg.cs)) :: (89, .v (.bool true)) :: (88, .v (.bool true)) :: (87, .v (.bool true)) :: (atq31 v a m)
theorem askTells_fn (v : Voters) (a : Ask) (m : Msg) (hx : v.weights.length ≤ 9223372036854775807) : Fn Tryd.prog 3 [.agg [.lst 1 (v.weights.map cI), VI v.need], .agg [VI a.op, VI a.kind, VI a.phase, .v (.string a.data), VI a.best.at_.time, VI a.best.at_.who, .v (.string a.best.data), .v (.int .u64 (a.heard.n : Int))], .agg [VI m.kind, VI m.op, VI m.node, VI m.copy.at_.time, VI m.copy.at_.who, .v (.string m.copy.data)]] (.v (.bool true)) := by
  refine fn_walkW F3_ok (of_decide_eq_true (by kernel_rfl)) ?_
  refine EL.sreg ?_
  refine OW.last 4 [3, 4, 5] (x' := ⟨atq3, (atq2 v a m)⟩) (by kernel_rfl) (by kernel_rfl) ?_
  refine EL.sreg ?_
  refine OW.run 3 (x' := ⟨(atq6 m a v), (atq2 v a m)⟩) (by kernel_rfl) ?_
  refine OW.fn (ar := [.agg [.lst 1 (v.weights.map cI), VI v.need], (atq5 a), (atq4 m)]) (x' := ⟨(atq8 v a m), (atq2 v a m)⟩) (by kernel_rfl) (by kernel_rfl) F8_call (hear_fn v a m hx) (by kernel_rfl) (by kernel_rfl) ?_
  refine OW.last 8 [3, 4, 5, 7, 8, 9] (x' := ⟨(atq11 v a m), (atq10 v a m)⟩) (by kernel_rfl) (by kernel_rfl) ?_
  refine EL.sreg ?_
  refine OW.run 7 (x' := ⟨(atq12 a v m), (atq10 v a m)⟩) (by kernel_rfl) ?_
  refine OW.fn (ar := [.agg [.lst 1 (v.weights.map cI), VI v.need], VI a.op, VI a.kind, .v (.string a.data)]) (x' := ⟨(atq14 v a m), (atq10 v a m)⟩) (by kernel_rfl) (by kernel_rfl) F9_call (begin_fn v a.op a.kind a.data hx) (by kernel_rfl) (by kernel_rfl) ?_
  refine OW.last 8 [3, 4, 5, 7, 8, 9, 10, 11, 12] (x' := ⟨(atq17 v a m), (atq16 v a m)⟩) (by kernel_rfl) (by kernel_rfl) ?_
  refine EL.sreg ?_
  refine OW.run 3 (x' := ⟨(atq18 m a v), (atq16 v a m)⟩) (by kernel_rfl) ?_
  refine OW.fn (ar := [.agg [.lst 1 (v.weights.map cI), VI v.need], (atq5 a), (atq4 m)]) (x' := ⟨(atq19 v a m), (atq16 v a m)⟩) (by kernel_rfl) (by kernel_rfl) F10_call (rhear_fn v a m hx) (by kernel_rfl) (by kernel_rfl) ?_
  refine OW.last 8 [3, 4, 7, 8, 9, 10, 11, 12, 13, 14, 15] (x' := ⟨(atq21 v a m), (atq20 v a m)⟩) (by kernel_rfl) (by kernel_rfl) ?_
  refine EL.sreg ?_
  refine OW.run 7 (x' := ⟨(atq22 a v m), (atq20 v a m)⟩) (by kernel_rfl) ?_
  refine OW.fn (ar := [.agg [.lst 1 (v.weights.map cI), VI v.need], VI a.op, VI a.kind, .v (.string a.data)]) (x' := ⟨(atq23 v a m), (atq20 v a m)⟩) (by kernel_rfl) (by kernel_rfl) F11_call (rbegin_fn v a.op a.kind a.data hx) (by kernel_rfl) (by kernel_rfl) ?_
  refine OW.last 8 [3, 4, 7, 8, 9, 10, 11, 12, 13, 14, 15, 16, 17, 18] (x' := ⟨(atq25 v a m), (atq24 v a m)⟩) (by kernel_rfl) (by kernel_rfl) ?_
  refine EL.sdraw ?_
  refine DW.fn (ar := []) (x' := ⟨(59, .v (.bool true)) :: (atq25 v a m), (atq24 v a m)⟩) (by kernel_rfl) (by kernel_rfl) F12_call (begun_fn) (by kernel_rfl) (by kernel_rfl) ?_
  refine DW.run 3 (x' := ⟨(atq26 a v m), (atq24 v a m)⟩) (by kernel_rfl) ?_
  refine DW.fn (ar := [.agg [.lst 1 (v.weights.map cI), VI v.need], (atq5 a)]) (x' := ⟨(63, VI (a.checkE v.weights v.need)) :: (atq26 a v m), (atq24 v a m)⟩) (by kernel_rfl) (by kernel_rfl) F13_call (acheck_fn v a hx) (by kernel_rfl) (by kernel_rfl) ?_
  refine DW.run 2 (x' := ⟨(atq27 a v m), (atq24 v a m)⟩) (by kernel_rfl) ?_
  refine DW.fn (ar := [.agg [.lst 1 (v.weights.map cI), VI v.need], (atq5 a)]) (x' := ⟨(66, VI (a.checkE v.weights v.need)) :: (atq27 a v m), (atq24 v a m)⟩) (by kernel_rfl) (by kernel_rfl) F14_call (racheck_fn v a hx) (by kernel_rfl) (by kernel_rfl) ?_
  refine DW.run 3 (x' := ⟨(69, .v (.bool ((a.checkE v.weights v.need) == a.checkE v.weights v.need))) :: (68, .v (.bool ((a.checkE v.weights v.need) == a.checkE v.weights v.need))) :: (67, .v (.bool ((a.checkE v.weights v.need) == a.checkE v.weights v.need))) :: (66, VI (a.checkE v.weights v.need)) :: (atq27 a v m), (atq24 v a m)⟩) (by kernel_rfl) ?_
  have h1 : ((a.checkE v.weights v.need) == a.checkE v.weights v.need) = true := by simp [strEq_iff]
  rw [h1]
  refine DW.run 5 (x' := ⟨(74, .v (.bool (((((hearA v a m).1).op) == ((hearA v a m).1).op) && (((((hearA v a m).1).kind) == ((hearA v a m).1).kind) && (((((hearA v a m).1).phase) == ((hearA v a m).1).phase) && (strEq (((hearA v a m).1).data) (((hearA v a m).1).data) && (((((((hearA v a m).1).best).at_).time) == ((((hearA v a m).1).best).at_).time) && (((((((hearA v a m).1).best).at_).who) == ((((hearA v a m).1).best).at_).who) && (strEq ((((hearA v a m).1).best).data) ((((hearA v a m).1).best).data) && (((((hearA v a m).1).heard.n : Int) == (((hearA v a m).1).heard.n : Int)) && true)))))))))) :: (73, .v (.bool (((((hearA v a m).1).op) == ((hearA v a m).1).op) && (((((hearA v a m).1).kind) == ((hearA v a m).1).kind) && (((((hearA v a m).1).phase) == ((hearA v a m).1).phase) && (strEq (((hearA v a m).1).data) (((hearA v a m).1).data) && (((((((hearA v a m).1).best).at_).time) == ((((hearA v a m).1).best).at_).time) && (((((((hearA v a m).1).best).at_).who) == ((((hearA v a m).1).best).at_).who) && (strEq ((((hearA v a m).1).best).data) ((((hearA v a m).1).best).data) && (((((hearA v a m).1).heard.n : Int) == (((hearA v a m).1).heard.n : Int)) && true)))))))))) :: (72, .v (.bool (((((hearA v a m).1).op) == ((hearA v a m).1).op) && (((((hearA v a m).1).kind) == ((hearA v a m).1).kind) && (((((hearA v a m).1).phase) == ((hearA v a m).1).phase) && (strEq (((hearA v a m).1).data) (((hearA v a m).1).data) && (((((((hearA v a m).1).best).at_).time) == ((((hearA v a m).1).best).at_).time) && (((((((hearA v a m).1).best).at_).who) == ((((hearA v a m).1).best).at_).who) && (strEq ((((hearA v a m).1).best).data) ((((hearA v a m).1).best).data) && (((((hearA v a m).1).heard.n : Int) == (((hearA v a m).1).heard.n : Int)) && true)))))))))) :: (atq28 v a m), (atq24 v a m)⟩) (by kernel_rfl) ?_
  rcases Bool.eq_false_or_eq_true ((((((hearA v a m).1).op) == ((hearA v a m).1).op) && (((((hearA v a m).1).kind) == ((hearA v a m).1).kind) && (((((hearA v a m).1).phase) == ((hearA v a m).1).phase) && (strEq (((hearA v a m).1).data) (((hearA v a m).1).data) && (((((((hearA v a m).1).best).at_).time) == ((((hearA v a m).1).best).at_).time) && (((((((hearA v a m).1).best).at_).who) == ((((hearA v a m).1).best).at_).who) && (strEq ((((hearA v a m).1).best).data) ((((hearA v a m).1).best).data) && (((((hearA v a m).1).heard.n : Int) == (((hearA v a m).1).heard.n : Int)) && true))))))))) with h2 | h2
  rw [h2]
  refine DW.run 2 (x' := ⟨(atq29 v a m), (atq24 v a m)⟩) (by kernel_rfl) ?_
  refine DW.fn (ar := [.lst 6 (((hearA v a m).2.1).map Msg.cs), .lst 6 (((hearA v a m).2.1).map Msg.cs)]) (x' := ⟨(77, .v (.bool (decide (((hearA v a m).2.1) = ((hearA v a m).2.1))))) :: (atq29 v a m), (atq24 v a m)⟩) (by kernel_rfl) (by kernel_rfl) F15_call (sameMsgs_fn ((hearA v a m).2.1) ((hearA v a m).2.1) (by first | (have := hearA_len v a m; omega) | (have := beginA_len v a.op a.kind a.data; omega))) (by kernel_rfl) (by kernel_rfl) ?_
  refine DW.run 2 (x' := ⟨(79, .v (.bool (decide (((hearA v a m).2.1) = ((hearA v a m).2.1))))) :: (78, .v (.bool (decide (((hearA v a m).2.1) = ((hearA v a m).2.1))))) :: (77, .v (.bool (decide (((hearA v a m).2.1) = ((hearA v a m).2.1))))) :: (atq29 v a m), (atq24 v a m)⟩) (by kernel_rfl) ?_
  have h3 : decide (((hearA v a m).2.1) = ((hearA v a m).2.1)) = true := by simp [strEq_iff]
  rw [h3]
  refine DW.run 5 (x' := ⟨(84, .v (.bool (((hearA v a m).2.2) == (hearA v a m).2.2))) :: (83, .v (.bool (((hearA v a m).2.2) == (hearA v a m).2.2))) :: (82, .v (.bool (((hearA v a m).2.2) == (hearA v a m).2.2))) :: (atq30 v a m), (atq24 v a m)⟩) (by kernel_rfl) ?_
  have h4 : (((hearA v a m).2.2) == (hearA v a m).2.2) = true := by simp [strEq_iff]
  rw [h4]
  refine DW.run 5 (x' := ⟨(89, .v (.bool (((((beginA v a.op a.kind a.data).1).op) == ((beginA v a.op a.kind a.data).1).op) && (((((beginA v a.op a.kind a.data).1).kind) == ((beginA v a.op a.kind a.data).1).kind) && (((((beginA v a.op a.kind a.data).1).phase) == ((beginA v a.op a.kind a.data).1).phase) && (strEq (((beginA v a.op a.kind a.data).1).data) (((beginA v a.op a.kind a.data).1).data) && (((((((beginA v a.op a.kind a.data).1).best).at_).time) == ((((beginA v a.op a.kind a.data).1).best).at_).time) && (((((((beginA v a.op a.kind a.data).1).best).at_).who) == ((((beginA v a.op a.kind a.data).1).best).at_).who) && (strEq ((((beginA v a.op a.kind a.data).1).best).data) ((((beginA v a.op a.kind a.data).1).best).data) && (((((beginA v a.op a.kind a.data).1).heard.n : Int) == (((beginA v a.op a.kind a.data).1).heard.n : Int)) && true)))))))))) :: (88, .v (.bool (((((beginA v a.op a.kind a.data).1).op) == ((beginA v a.op a.kind a.data).1).op) && (((((beginA v a.op a.kind a.data).1).kind) == ((beginA v a.op a.kind a.data).1).kind) && (((((beginA v a.op a.kind a.data).1).phase) == ((beginA v a.op a.kind a.data).1).phase) && (strEq (((beginA v a.op a.kind a.data).1).data) (((beginA v a.op a.kind a.data).1).data) && (((((((beginA v a.op a.kind a.data).1).best).at_).time) == ((((beginA v a.op a.kind a.data).1).best).at_).time) && (((((((beginA v a.op a.kind a.data).1).best).at_).who) == ((((beginA v a.op a.kind a.data).1).best).at_).who) && (strEq ((((beginA v a.op a.kind a.data).1).best).data) ((((beginA v a.op a.kind a.data).1).best).data) && (((((beginA v a.op a.kind a.data).1).heard.n : Int) == (((beginA v a.op a.kind a.data).1).heard.n : Int)) && true)))))))))) :: (87, .v (.bool (((((beginA v a.op a.kind a.data).1).op) == ((beginA v a.op a.kind a.data).1).op) && (((((beginA v a.op a.kind a.data).1).kind) == ((beginA v a.op a.kind a.data).1).kind) && (((((beginA v a.op a.kind a.data).1).phase) == ((beginA v a.op a.kind a.data).1).phase) && (strEq (((beginA v a.op a.kind a.data).1).data) (((beginA v a.op a.kind a.data).1).data) && (((((((beginA v a.op a.kind a.data).1).best).at_).time) == ((((beginA v a.op a.kind a.data).1).best).at_).time) && (((((((beginA v a.op a.kind a.data).1).best).at_).who) == ((((beginA v a.op a.kind a.data).1).best).at_).who) && (strEq ((((beginA v a.op a.kind a.data).1).best).data) ((((beginA v a.op a.kind a.data).1).best).data) && (((((beginA v a.op a.kind a.data).1).heard.n : Int) == (((beginA v a.op a.kind a.data).1).heard.n : Int)) && true)))))))))) :: (atq31 v a m), (atq24 v a m)⟩) (by kernel_rfl) ?_
  rcases Bool.eq_false_or_eq_true ((((((beginA v a.op a.kind a.data).1).op) == ((beginA v a.op a.kind a.data).1).op) && (((((beginA v a.op a.kind a.data).1).kind) == ((beginA v a.op a.kind a.data).1).kind) && (((((beginA v a.op a.kind a.data).1).phase) == ((beginA v a.op a.kind a.data).1).phase) && (strEq (((beginA v a.op a.kind a.data).1).data) (((beginA v a.op a.kind a.data).1).data) && (((((((beginA v a.op a.kind a.data).1).best).at_).time) == ((((beginA v a.op a.kind a.data).1).best).at_).time) && (((((((beginA v a.op a.kind a.data).1).best).at_).who) == ((((beginA v a.op a.kind a.data).1).best).at_).who) && (strEq ((((beginA v a.op a.kind a.data).1).best).data) ((((beginA v a.op a.kind a.data).1).best).data) && (((((beginA v a.op a.kind a.data).1).heard.n : Int) == (((beginA v a.op a.kind a.data).1).heard.n : Int)) && true))))))))) with h5 | h5
  rw [h5]
  refine DW.run 2 (x' := ⟨(atq32 v a m), (atq24 v a m)⟩) (by kernel_rfl) ?_
  refine DW.fn (ar := [.lst 6 (((beginA v a.op a.kind a.data).2.1).map Msg.cs), .lst 6 (((beginA v a.op a.kind a.data).2.1).map Msg.cs)]) (x' := ⟨(92, .v (.bool (decide (((beginA v a.op a.kind a.data).2.1) = ((beginA v a.op a.kind a.data).2.1))))) :: (atq32 v a m), (atq24 v a m)⟩) (by kernel_rfl) (by kernel_rfl) F15_call (sameMsgs_fn ((beginA v a.op a.kind a.data).2.1) ((beginA v a.op a.kind a.data).2.1) (by first | (have := hearA_len v a m; omega) | (have := beginA_len v a.op a.kind a.data; omega))) (by kernel_rfl) (by kernel_rfl) ?_
  refine DW.run 2 (x' := ⟨(94, .v (.bool (decide (((beginA v a.op a.kind a.data).2.1) = ((beginA v a.op a.kind a.data).2.1))))) :: (93, .v (.bool (decide (((beginA v a.op a.kind a.data).2.1) = ((beginA v a.op a.kind a.data).2.1))))) :: (92, .v (.bool (decide (((beginA v a.op a.kind a.data).2.1) = ((beginA v a.op a.kind a.data).2.1))))) :: (atq32 v a m), (atq24 v a m)⟩) (by kernel_rfl) ?_
  have h6 : decide (((beginA v a.op a.kind a.data).2.1) = ((beginA v a.op a.kind a.data).2.1)) = true := by simp [strEq_iff]
  rw [h6]
  refine DW.last 5 [6] (x' := ⟨[(6, .v (.bool (((beginA v a.op a.kind a.data).2.2) == (beginA v a.op a.kind a.data).2.2)))], (atq24 v a m)⟩) (by kernel_rfl) (by kernel_rfl) ?_
  refine EL.ret ?_
  refine ⟨.inr rfl, .v (.bool (((beginA v a.op a.kind a.data).2.2) == (beginA v a.op a.kind a.data).2.2)), by kernel_rfl, Ale.of_eq ?_⟩
  focus (first | rfl | (simp [*]; done) | (simp_all; done) | (exfalso; simp_all [strEq]; done))
  rw [h5]
  refine DW.last 10 [6] (x' := ⟨[(6, .v (.bool false))], (atq24 v a m)⟩) (by kernel_rfl) (by kernel_rfl) ?_
  refine EL.ret ?_
  refine ⟨.inr rfl, .v (.bool false), by kernel_rfl, Ale.of_eq ?_⟩
  focus (first | rfl | (simp [*]; done) | (simp_all; done) | (exfalso; simp_all [strEq]; done))
  rw [h2]
  refine DW.last 25 [6] (x' := ⟨[(6, .v (.bool false))], (atq24 v a m)⟩) (by kernel_rfl) (by kernel_rfl) ?_
  refine EL.ret ?_
  refine ⟨.inr rfl, .v (.bool false), by kernel_rfl, Ale.of_eq ?_⟩
  focus (first | rfl | (simp [*]; done) | (simp_all; done) | (exfalso; simp_all [strEq]; done))
theorem AskTells_walk {w : World} (hG : GlE (E0 w fun b => b < w.heap.size)) (v : Voters) (csv : List Value) (rv : GoT.rep w w.heap.size csv v) (a : Ask) (_oka : a.ok) (m : Msg) (_okm : m.ok) : Calls Tryd.prog 3 #[.agg csv.toArray, a.v, m.v] w fun e w' => e = .returned (.bool true) ∧ Below w.heap.size w w' := by
  have lv := (Voters.av rv).2
  exact fn_law (vs := [.agg csv.toArray, a.v, m.v]) (askTells_fn v a m (by first | assumption | omega)) hG (.cons ((Voters.av rv).1) (.cons ((R2.agg (.cons (.v rfl) (.cons (.v rfl) (.cons (.v rfl) (.cons (.v rfl) (.cons (.v rfl) (.cons (.v rfl) (.cons (.v rfl) (.cons (.v rfl) (.nil))))))))) : Rep _ a.v _)) (.cons ((R2.agg (.cons (.v rfl) (.cons (.v rfl) (.cons (.v rfl) (.cons (.v rfl) (.cons (.v rfl) (.cons (.v rfl) (.nil))))))) : Rep _ m.v _)) (.nil))))
theorem AskTells_own : ownKnob Tryd.prog.godebug = none := by kernel_rfl
theorem AskTells_laidOut : laidOutB Tryd.prog = true := by kernel_rfl
set_option maxRecDepth 100000 in
set_option linter.unusedVariables false in
theorem AskTells_lifted (os : Os) (started : os.Started) (H : Type) (enc : TypeId × Value → H) :
    ReturnsInHanded {} Tryd.checked os 3 .any (fun w args => (Rows.askTellsSpec.pre enc Tryd.prog Tryd.f3 [] false w args ∧ laidMetH Tryd.prog Rows.askTellsRow.laid w) ∧ sizedMet enc Tryd.prog Tryd.f3 (OpenSpec.ofChange Rows.askTellsSpec) false w args)
      (Rows.askTellsSpec.post enc Tryd.prog Tryd.f3 false true false false) := by
  refine returnsInHanded_of_change_and (C := Tryd.checked) (X := fun w _ => laidMetH Tryd.prog Rows.askTellsRow.laid w) (fun _ _ _ hh h => h.of_heap hh) AskTells_own started (by kernel_rfl) Tryd.func3
    (ChangeSpec.witness_shaped (enc := enc) (C := Tryd.checked) (os := os) (X := fun w _ => laidMetH Tryd.prog Rows.askTellsRow.laid w) false (World.doorLaid Tryd.prog 14 os) #[.agg #[.slice none 0 0, .int .i64 0], .agg #[.int .i64 0, .int .i64 0, .int .i64 0, .string ByteArray.empty, .int .i64 0, .int .i64 0, .string ByteArray.empty, .int .u64 0], .agg #[.int .i64 0, .int .i64 0, .int .i64 0, .int .i64 0, .int .i64 0, .string ByteArray.empty]] 8 rfl (World.shaped_of_RefB (by kernel_rfl) (by kernel_rfl)) (by kernel_rfl) (by kernel_rfl) (by kernel_rfl) (laidMetH_of_parts3 (fuel := 8) (laidMet_of_run' 8 (by kernel_rfl) (by kernel_rfl)) (by kernel_rfl) (by kernel_rfl))) ?_
  intro W base args ds gs before hval0 hW _ _ hL _
  have hval : ∀ (j : Nat) t v, Tryd.f3.params[j]? = some t → args[j]? = some v → Value.okWide Tryd.prog W .any base t v := hval0
  have hW' := hW
  obtain ⟨p, q, hA0, hV, rfl, hfz, hnd⟩ := hW
  have hA : DataW.TrodAll enc Tryd.prog W 0 (fun _ => true) true Tryd.f3.params.toList args.toList ds p := hA0
  rw [Tryd.params3] at hA hval
  obtain ⟨v0, vs0, d0, ds0, p0, q0, hargs, rfl, rfl, h0, r0⟩ := trodAll_cons hA
  obtain ⟨v1, vs1, d1, ds1, p1, q1, rfl, rfl, rfl, h1, r1⟩ := trodAll_cons r0
  obtain ⟨v2, vs2, d2, ds2, p2, q2, rfl, rfl, rfl, h2, r2⟩ := trodAll_cons r1
  obtain ⟨rfl, rfl, rfl⟩ := trodAll_nil r2
  obtain rfl : args = #[v0, v1, v2] := by cases args; simp_all
  obtain ⟨rfl, rfl⟩ := trodVars_none hV
  have k0 := h0
  have lt0 : ∀ x ∈ p0, x.block < W.heap.size := by obtain ⟨m, hm⟩ := k0; exact DataW.trod_lt m _ _ _ hm
  obtain ⟨x0, cs0, rfl, w0⟩ := open_agg opens_Voters Tryd.underlying24 (hval 0 24 v0 rfl rfl) h0
  have k1 := h1
  have lt1 : ∀ x ∈ p1, x.block < W.heap.size := by obtain ⟨m, hm⟩ := k1; exact DataW.trod_lt m _ _ _ hm
  obtain ⟨x1, cs1, rfl, w1⟩ := open_agg opens_Ask Tryd.underlying31 (hval 1 31 v1 rfl rfl) h1
  obtain ⟨rfl, ok1⟩ := Ask.flat w1
  have k2 := h2
  have lt2 : ∀ x ∈ p2, x.block < W.heap.size := by obtain ⟨m, hm⟩ := k2; exact DataW.trod_lt m _ _ _ hm
  obtain ⟨x2, cs2, rfl, w2⟩ := open_agg opens_Msg Tryd.underlying33 (hval 2 33 v2 rfl rfl) h2
  obtain ⟨rfl, ok2⟩ := Msg.flat w2
  clear hA0 hval0
  refine (AskTells_walk (w := W) (glE_of hL) x0 cs0 w0 x1 ok1 x2 ok2).mono fun e W' ⟨he, bel⟩ => ?_
  subst he
  exact ⟨_, rfl, _, _, _, [], _, [], hW', trodAll_mk1 (shut_bool Tryd.underlying4 _), (trodAll_cons_mk (Below.trod AskTells_laidOut (by kernel_rfl) (of_decide_eq_true (by kernel_rfl)) k0 bel lt0) (trodAll_cons_mk (Below.trod AskTells_laidOut (by kernel_rfl) (of_decide_eq_true (by kernel_rfl)) k1 bel lt1) (trodAll_cons_mk (Below.trod AskTells_laidOut (by kernel_rfl) (of_decide_eq_true (by kernel_rfl)) k2 bel lt2) trodAll_mk0))), rfl, bel.frame _, fun h => by cases h⟩
set_option maxRecDepth 100000 in
set_option maxHeartbeats 4000000 in
theorem AskTells_row : Rows.AskTellsSaid :=
  OpenClaim.holds_of_wide 3 Tryd.f3 rfl rfl rfl rfl rfl rfl rfl ⟨rfl, rfl, rfl, rfl, rfl⟩ rfl rfl rfl rfl rfl (by kernel_rfl) Tryd.func3 (by kernel_rfl)
    (of_decide_eq_true (by kernel_rfl)) (by unfold Func.isWrapper; first | (rw [if_pos (by decide +kernel)]; kernel_rfl) | (rw [if_neg (by decide +kernel)]; exact ⟨rfl, rfl⟩))
    (fun os started H enc _ => AskTells_lifted os started H enc)
set_option maxRecDepth 100000 in
set_option maxHeartbeats 4000000 in
theorem AskTells_holds : Rows.AskTellsCardSaid :=
  Claim7.holds_tied_plain_at .later [] [.data] true (true, "5bc4e28d4169921c484dbcdca1986270267f967a52b7c27f070fd8606f0cf834") false
    AskTells_row (fun _ h => by cases h) (by kernel_rfl) (fun _ h => by cases h) askTells_row_tie rfl ⟨rfl, rfl⟩ (by kernel_rfl) rfl
    (fun f fn hf hfn => by
      obtain rfl : f = 3 := Option.some.inj ((show Tryd.prog.funcNamed "supercargo/supercargolaw.AskTells" = some 3 by kernel_rfl).symm.trans hf) |>.symm
      obtain rfl : fn = Tryd.f3 := (Option.some.inj (Tryd.func3.symm.trans hfn)).symm
      exact ⟨by kernel_rfl, fun j t ht => by
        rw [Tryd.params3] at ht
        have hm : t ∈ [24, 31, 33] := by simpa using Array.mem_of_getElem? ht
        have hall : ([24, 31, 33].all fun u => !Tryd.prog.wantsStandIn u) = true := by kernel_rfl
        exact (show Tryd.prog.wantsStandIn t = false by simpa using List.all_eq_true.1 hall t hm)⟩)
    (by kernel_rfl)
end Go.Proofs.YtgepadjkegfokaaDoor
