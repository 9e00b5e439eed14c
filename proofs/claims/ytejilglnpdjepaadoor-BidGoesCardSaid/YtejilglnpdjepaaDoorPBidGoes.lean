/- A bid puts the latest accepted value that it heard of; it goes on only with enough nodes: the law BidGoes returns true. No condition. -/
import Derived.Test.YtejilglnpdjepaaDoorPSeatL
import Derived.Test.YtejilglnpdjepaaDoorPSeatG
import Derived.WalkKit
import Derived.Handy
import Derived.ProofKit
import Derived.OpenShut
import Derived.ShutString
import Derived.ChangeOld
import Derived.Below
import Derived.Lib.Hide
import Derived.WalkLawsBesides
import Derived.WalkSpells
import Derived.Deep.QuietTactic
import Derived.BigQuiet
import Derived.Outline
import Derived.SevenTiedAt
namespace Go.Proofs.YtejilglnpdjepaaDoor
set_option linter.unusedSimpArgs false
set_option linter.unusedVariables false
open Go.ChangeShapes Go.WideShapes Go.ChangeAt Go.RowKit
open Go.ChangeMaps (open_string shut_string)
set_option maxRecDepth 100000
set_option maxHeartbeats 4000000
abbrev bgq0 (b : Bid) : OB := some ⟨8, [[VI b.time, VI b.phase, .v (.string b.own), .v (.string b.value), VI b.best.at_.time, VI b.best.at_.who, .v (.string b.best.data), .v (.int .u64 (b.heard.n : Int))]]⟩
abbrev bgq1 (m : Vote) : OB := some ⟨6, [[VI m.kind, VI m.bid, VI m.node, VI m.copy.at_.time, VI m.copy.at_.who, .v (.string m.copy.data)]]⟩
abbrev bgq2 (v : Voters) (b : Bid) (m : Vote) : LB := [some ⟨2, [[.lst 1 (v.weights.map cI), VI v.need]]⟩, (bgq0 b), (bgq1 m)]
abbrev bgq3 (no : Int) : LS := [(7, .ref 2 6 0 0), (6, .ref 1 8 0 0), (4, .ref 0 2 0 0), (1, VI no)]
abbrev bgq4 (m : Vote) : AV := .agg [VI m.kind, VI m.bid, VI m.node, VI m.copy.at_.time, VI m.copy.at_.who, .v (.string m.copy.data)]
abbrev bgq5 (b : Bid) : AV := .agg [VI b.time, VI b.phase, .v (.string b.own), .v (.string b.value), VI b.best.at_.time, VI b.best.at_.who, .v (.string b.best.data), .v (.int .u64 (b.heard.n : Int))]
abbrev bgq6 (m : Vote) (b : Bid) (no : Int) (v : Voters) : LS := (20, (bgq4 m)) :: (19, (bgq5 b)) :: (18, VI no) :: (17, .agg [.lst 1 (v.weights.map cI), VI v.need]) :: (bgq3 no)
abbrev bgq7 (v : Voters) (no : Int) (b : Bid) (m : Vote) : AV := .agg [VI (((hearP v no b m).1).time), VI (((hearP v no b m).1).phase), .v (.string (((hearP v no b m).1).own)), .v (.string (((hearP v no b m).1).value)), VI (((((hearP v no b m).1).best).at_).time), VI (((((hearP v no b m).1).best).at_).who), .v (.string ((((hearP v no b m).1).best).data)), .v (.int .u64 (((hearP v no b m).1).heard.n : Int))]
abbrev bgq8 (v : Voters) (no : Int) (b : Bid) (m : Vote) : LS := (21, .tup [(bgq7 v no b m), .lst 6 (((hearP v no b m).2.1).map Vote.cs), VI ((hearP v no b m).2.2)]) :: (bgq6 m b no v)
abbrev bgq9 (v : Voters) (no : Int) (b : Bid) (m : Vote) : OB := some ⟨8, [[VI (((hearP v no b m).1).time), VI (((hearP v no b m).1).phase), .v (.string (((hearP v no b m).1).own)), .v (.string (((hearP v no b m).1).value)), VI (((((hearP v no b m).1).best).at_).time), VI (((((hearP v no b m).1).best).at_).who), .v (.string ((((hearP v no b m).1).best).data)), .v (.int .u64 (((hearP v no b m).1).heard.n : Int))]]⟩
abbrev bgq10 (v : Voters) (b : Bid) (m : Vote) (no : Int) : LB := [some ⟨2, [[.lst 1 (v.weights.map cI), VI v.need]]⟩, (bgq0 b), (bgq1 m), (bgq9 v no b m)]
abbrev bgq11 (v : Voters) (no : Int) (b : Bid) (m : Vote) : LS := (11, VI ((hearP v no b m).2.2)) :: (10, .lst 6 (((hearP v no b m).2.1).map Vote.cs)) :: (9, .ref 3 8 0 0) :: (bgq3 no)
abbrev bgq12 (v : Voters) (no : Int) (b : Bid) (m : Vote) : LS := (10, .lst 6 (((hearP v no b m).2.1).map Vote.cs)) :: (9, .ref 3 8 0 0) :: (bgq3 no)
abbrev bgq13 (v : Voters) (no : Int) (b : Bid) (m : Vote) : LS := (29, .lst 6 (((hearP v no b m).2.1).map Vote.cs)) :: (28, .v (.bool true)) :: (bgq12 v no b m)
abbrev bgq14 (v : Voters) (no : Int) (b : Bid) (m : Vote) : LS := (30, VI (List.length ((hearP v no b m).2.1) : Int)) :: (bgq13 v no b m)
abbrev bgq15 (v : Voters) (no : Int) (b : Bid) (m : Vote) : LS := (37, .lst 6 (((hearP v no b m).2.1).map Vote.cs)) :: (36, .v (.bool true)) :: (bgq12 v no b m)
abbrev bgq16 (v : Voters) (no : Int) (b : Bid) (m : Vote) : LS := (38, VI (List.length ((hearP v no b m).2.1) : Int)) :: (bgq15 v no b m)
abbrev bgq17 (m : Vote) (b : Bid) (v : Voters) (no : Int) : LS := (55, VI m.node) :: (54, .ref 2 6 0 2) :: (53, .v (.int .u64 (b.heard.n : Int))) :: (52, .ref 1 8 0 7) :: (51, VI v.need) :: (50, .ref 0 2 0 1) :: (49, .lst 1 (v.weights.map cI)) :: (48, .ref 0 2 0 0) :: (36, .v (.bool false)) :: (bgq12 v no b m)
abbrev bgq18 (m : Vote) (b : Bid) (v : Voters) (no : Int) : LS := (56, .v (.int .u64 ((2 ^ (Int.toNat m.node) : Nat) : Int))) :: (bgq17 m b v no)
abbrev bgq19 (b : Bid) (m : Vote) (v : Voters) (no : Int) : LS := (57, .v (.int .u64 ((orU b.heard (Int.toNat m.node)).n : Int))) :: (bgq18 m b v no)
abbrev bgq20 (b : Bid) (v : Voters) (no : Int) (m : Vote) : LS := (71, VI b.phase) :: (70, .ref 1 8 0 1) :: (69, VI (((hearP v no b m).1).phase)) :: (68, .ref 3 8 0 1) :: (67, .v (.bool false)) :: (66, .v (.bool false)) :: (65, .v (.bool false)) :: (64, .v (.bool true)) :: (63, .v (.bool false)) :: (62, .v (.bool false)) :: (61, VI ((enoughP v.weights v.need (orU b.heard (Int.toNat m.node)).n).2)) :: (13, VI ((enoughP v.weights v.need (orU b.heard (Int.toNat m.node)).n).2)) :: (12, .v (.bool true)) :: (bgq12 v no b m)
abbrev bgq21 (b : Bid) (v : Voters) (no : Int) (m : Vote) : LS := (79, .v (.string b.own)) :: (78, .ref 1 8 0 2) :: (77, .v (.string (((hearP v no b m).1).own))) :: (76, .ref 3 8 0 2) :: (75, .v (.bool false)) :: (74, .v (.bool false)) :: (73, .v (.bool false)) :: (72, VI (b.phase + 1)) :: (bgq20 b v no m)
abbrev bgq22 (b : Bid) (v : Voters) (no : Int) (m : Vote) : LS := (95, .v (.string b.value)) :: (94, .ref 1 8 0 3) :: (93, .v (.string (((hearP v no b m).1).value))) :: (92, .ref 3 8 0 3) :: (91, .v (.bool true)) :: (bgq12 v no b m)
abbrev bgq23 (v : Voters) (no : Int) (b : Bid) (m : Vote) : LS := (98, .lst 6 (((hearP v no b m).2.1).map Vote.cs)) :: (97, .v (.bool true)) :: (96, .v (.bool true)) :: (bgq22 b v no m)
abbrev bgq24 (v : Voters) (no : Int) (b : Bid) (m : Vote) : LS := (99, VI (List.length ((hearP v no b m).2.1) : Int)) :: (bgq23 v no b m)
abbrev bgq25 (b : Bid) : OB := some ⟨3, [[VI b.best.at_.time, VI b.best.at_.who, .v (.string b.best.data)]]⟩
abbrev bgq26 (v : Voters) (b : Bid) (m : Vote) (no : Int) : LB := [some ⟨2, [[.lst 1 (v.weights.map cI), VI v.need]]⟩, (bgq0 b), (bgq1 m), (bgq9 v no b m), (bgq25 b)]
abbrev bgq27 (m : Vote) (b : Bid) (v : Voters) (no : Int) : LS := (108, .agg [VI m.copy.at_.time, VI m.copy.at_.who]) :: (107, .ref 2 6 0 3) :: (106, .ref 2 6 0 3) :: (105, .agg [VI b.best.at_.time, VI b.best.at_.who]) :: (104, .ref 4 3 0 0) :: (14, .ref 4 3 0 0) :: (bgq12 v no b m)
abbrev bgq28 (m : Vote) : AV := .agg [VI m.copy.at_.time, VI m.copy.at_.who, .v (.string m.copy.data)]
abbrev bgq29 (m : Vote) : OB := some ⟨3, [[VI m.copy.at_.time, VI m.copy.at_.who, .v (.string m.copy.data)]]⟩
abbrev bgq30 (v : Voters) (b : Bid) (m : Vote) (no : Int) : LB := [some ⟨2, [[.lst 1 (v.weights.map cI), VI v.need]]⟩, (bgq0 b), (bgq1 m), (bgq9 v no b m), (bgq29 m)]
abbrev bgq31 (m : Vote) (v : Voters) (no : Int) (b : Bid) : LS := (111, (bgq28 m)) :: (110, .ref 2 6 0 3) :: (109, .v (.bool true)) :: (14, .ref 4 3 0 0) :: (bgq12 v no b m)
abbrev bgq32 (m : Vote) (v : Voters) (no : Int) (b : Bid) : LS := [(15, .v (.string m.copy.data)), (14, .ref 4 3 0 0), (10, .lst 6 (((hearP v no b m).2.1).map Vote.cs)), (9, .ref 3 8 0 0), (6, .ref 1 8 0 0), (4, .ref 0 2 0 0), (1, VI no)]
abbrev bgq33 (m : Vote) (v : Voters) (no : Int) (b : Bid) : LS := [(15, .v (.string m.copy.data)), (10, .lst 6 (((hearP v no b m).2.1).map Vote.cs)), (9, .ref 3 8 0 0), (6, .ref 1 8 0 0), (4, .ref 0 2 0 0), (1, VI no)]
abbrev bgq34 (b : Bid) (v : Voters) (no : Int) (m : Vote) : LS := [(15, .v (.string b.own)), (119, .v (.string b.own)), (118, .ref 1 8 0 2), (117, .v (.bool true)), (10, .lst 6 (((hearP v no b m).2.1).map Vote.cs)), (9, .ref 3 8 0 0), (6, .ref 1 8 0 0), (4, .ref 0 2 0 0), (1, VI no)]
abbrev bgq35 (b : Bid) (v : Voters) (no : Int) (m : Vote) : LS := (122, .v (.string b.own)) :: (121, .v (.string (((hearP v no b m).1).value))) :: (120, .ref 3 8 0 3) :: (bgq34 b v no m)
abbrev bgq36 (v : Voters) (no : Int) (b : Bid) (m : Vote) : LS := (125, .lst 6 (((hearP v no b m).2.1).map Vote.cs)) :: (124, .v (.bool true)) :: (123, .v (.bool true)) :: (bgq35 b v no m)
abbrev bgq37 (v : Voters) (no : Int) (b : Bid) (m : Vote) : LS := (126, VI (List.length ((hearP v no b m).2.1) : Int)) :: (bgq36 v no b m)
abbrev bgq38 (v : Voters) (no : Int) (b : Bid) (m : Vote) : LS := (128, .lst 1 (v.weights.map cI)) :: (127, .ref 0 2 0 0) :: (bgq37 v no b m)
abbrev bgq39 (v : Voters) (no : Int) (b : Bid) (m : Vote) : LS := (133, .lst 6 (((hearP v no b m).2.1).map Vote.cs)) :: (132, .v (.bool true)) :: (131, .v (.bool true)) :: (130, .v (.bool true)) :: (129, VI (List.length v.weights : Int)) :: (bgq38 v no b m)
abbrev bgq40 (v : Voters) (no : Int) (b : Bid) (m : Vote) : LS := (134, VI (List.length ((hearP v no b m).2.1) : Int)) :: (bgq39 v no b m)
abbrev bgq41 (v : Voters) (no : Int) (b : Bid) (m : Vote) : LS := (138, .lst 6 (((hearP v no b m).2.1).map Vote.cs)) :: (137, .v (.bool true)) :: (136, .v (.bool true)) :: (135, .v (.bool true)) :: (bgq40 v no b m)
abbrev bgq42 (a20 : Vote) (v : Voters) (no : Int) (b : Bid) (m : Vote) : LS := (139, .pim [VI a20.kind, VI a20.bid, VI a20.node, VI a20.copy.at_.time, VI a20.copy.at_.who, .v (.string a20.copy.data)] 0) :: (bgq41 v no b m)
abbrev bgq43 (a20 : Vote) : AV := .agg [VI a20.copy.at_.time, VI a20.copy.at_.who, .v (.string a20.copy.data)]
abbrev bgq44 (no : Int) (b : Bid) (a20 : Vote) (v : Voters) (m : Vote) : LS := (144, VI no) :: (143, VI b.time) :: (142, .ref 1 8 0 0) :: (141, (bgq43 a20)) :: (140, .pim [VI a20.kind, VI a20.bid, VI a20.node, VI a20.copy.at_.time, VI a20.copy.at_.who, .v (.string a20.copy.data)] 3) :: (bgq42 a20 v no b m)
abbrev bgq45 (b : Bid) (no : Int) : AV := .agg [VI ((⟨b.time, no⟩ : Stamp).time), VI ((⟨b.time, no⟩ : Stamp).who)]
abbrev bgq46 (m : Vote) (v : Voters) (no : Int) (b : Bid) : LS := (122, .v (.string m.copy.data)) :: (121, .v (.string (((hearP v no b m).1).value))) :: (120, .ref 3 8 0 3) :: (117, .v (.bool false)) :: (bgq33 m v no b)
abbrev bgq47 (v : Voters) (no : Int) (b : Bid) (m : Vote) : LS := (125, .lst 6 (((hearP v no b m).2.1).map Vote.cs)) :: (124, .v (.bool true)) :: (123, .v (.bool true)) :: (bgq46 m v no b)
abbrev bgq48 (v : Voters) (no : Int) (b : Bid) (m : Vote) : LS := (126, VI (List.length ((hearP v no b m).2.1) : Int)) :: (bgq47 v no b m)
abbrev bgq49 (v : Voters) (no : Int) (b : Bid) (m : Vote) : LS := (128, .lst 1 (v.weights.map cI)) :: (127, .ref 0 2 0 0) :: (bgq48 v no b m)
abbrev bgq50 (v : Voters) (no : Int) (b : Bid) (m : Vote) : LS := (133, .lst 6 (((hearP v no b m).2.1).map Vote.cs)) :: (132, .v (.bool true)) :: (131, .v (.bool true)) :: (130, .v (.bool true)) :: (129, VI (List.length v.weights : Int)) :: (bgq49 v no b m)
abbrev bgq51 (v : Voters) (no : Int) (b : Bid) (m : Vote) : LS := (134, VI (List.length ((hearP v no b m).2.1) : Int)) :: (bgq50 v no b m)
abbrev bgq52 (v : Voters) (no : Int) (b : Bid) (m : Vote) : LS := (138, .lst 6 (((hearP v no b m).2.1).map Vote.cs)) :: (137, .v (.bool true)) :: (136, .v (.bool true)) :: (135, .v (.bool true)) :: (bgq51 v no b m)
abbrev bgq53 (a25 : Vote) (v : Voters) (no : Int) (b : Bid) (m : Vote) : LS := (139, .pim [VI a25.kind, VI a25.bid, VI a25.node, VI a25.copy.at_.time, VI a25.copy.at_.who, .v (.string a25.copy.data)] 0) :: (bgq52 v no b m)
abbrev bgq54 (a25 : Vote) : AV := .agg [VI a25.copy.at_.time, VI a25.copy.at_.who, .v (.string a25.copy.data)]
abbrev bgq55 (no : Int) (b : Bid) (a25 : Vote) (v : Voters) (m : Vote) : LS := (144, VI no) :: (143, VI b.time) :: (142, .ref 1 8 0 0) :: (141, (bgq54 a25)) :: (140, .pim [VI a25.kind, VI a25.bid, VI a25.node, VI a25.copy.at_.time, VI a25.copy.at_.who, .v (.string a25.copy.data)] 3) :: (bgq53 a25 v no b m)
abbrev bgq56 (b : Bid) (v : Voters) (no : Int) (m : Vote) : LS := [(15, .v (.string b.best.data)), (14, .ref 4 3 0 0), (10, .lst 6 (((hearP v no b m).2.1).map Vote.cs)), (9, .ref 3 8 0 0), (6, .ref 1 8 0 0), (4, .ref 0 2 0 0), (1, VI no)]
abbrev bgq57 (b : Bid) (v : Voters) (no : Int) (m : Vote) : LS := [(15, .v (.string b.best.data)), (10, .lst 6 (((hearP v no b m).2.1).map Vote.cs)), (9, .ref 3 8 0 0), (6, .ref 1 8 0 0), (4, .ref 0 2 0 0), (1, VI no)]
abbrev bgq58 (a31 : Vote) (v : Voters) (no : Int) (b : Bid) (m : Vote) : LS := (139, .pim [VI a31.kind, VI a31.bid, VI a31.node, VI a31.copy.at_.time, VI a31.copy.at_.who, .v (.string a31.copy.data)] 0) :: (bgq41 v no b m)
abbrev bgq59 (a31 : Vote) : AV := .agg [VI a31.copy.at_.time, VI a31.copy.at_.who, .v (.string a31.copy.data)]
abbrev bgq60 (no : Int) (b : Bid) (a31 : Vote) (v : Voters) (m : Vote) : LS := (144, VI no) :: (143, VI b.time) :: (142, .ref 1 8 0 0) :: (141, (bgq59 a31)) :: (140, .pim [VI a31.kind, VI a31.bid, VI a31.node, VI a31.copy.at_.time, VI a31.copy.at_.who, .v (.string a31.copy.data)] 3) :: (bgq58 a31 v no b m)
abbrev bgq61 (b : Bid) (v : Voters) (no : Int) (m : Vote) : LS := (122, .v (.string b.best.data)) :: (121, .v (.string (((hearP v no b m).1).value))) :: (120, .ref 3 8 0 3) :: (117, .v (.bool false)) :: (bgq57 b v no m)
abbrev bgq62 (v : Voters) (no : Int) (b : Bid) (m : Vote) : LS := (125, .lst 6 (((hearP v no b m).2.1).map Vote.cs)) :: (124, .v (.bool true)) :: (123, .v (.bool true)) :: (bgq61 b v no m)
abbrev bgq63 (v : Voters) (no : Int) (b : Bid) (m : Vote) : LS := (126, VI (List.length ((hearP v no b m).2.1) : Int)) :: (bgq62 v no b m)
abbrev bgq64 (v : Voters) (no : Int) (b : Bid) (m : Vote) : LS := (128, .lst 1 (v.weights.map cI)) :: (127, .ref 0 2 0 0) :: (bgq63 v no b m)
abbrev bgq65 (v : Voters) (no : Int) (b : Bid) (m : Vote) : LS := (133, .lst 6 (((hearP v no b m).2.1).map Vote.cs)) :: (132, .v (.bool true)) :: (131, .v (.bool true)) :: (130, .v (.bool true)) :: (129, VI (List.length v.weights : Int)) :: (bgq64 v no b m)
abbrev bgq66 (v : Voters) (no : Int) (b : Bid) (m : Vote) : LS := (134, VI (List.length ((hearP v no b m).2.1) : Int)) :: (bgq65 v no b m)
abbrev bgq67 (v : Voters) (no : Int) (b : Bid) (m : Vote) : LS := (138, .lst 6 (((hearP v no b m).2.1).map Vote.cs)) :: (137, .v (.bool true)) :: (136, .v (.bool true)) :: (135, .v (.bool true)) :: (bgq66 v no b m)
abbrev bgq68 (a36 : Vote) (v : Voters) (no : Int) (b : Bid) (m : Vote) : LS := (139, .pim [VI a36.kind, VI a36.bid, VI a36.node, VI a36.copy.at_.time, VI a36.copy.at_.who, .v (.string a36.copy.data)] 0) :: (bgq67 v no b m)
abbrev bgq69 (a36 : Vote) : AV := .agg [VI a36.copy.at_.time, VI a36.copy.at_.who, .v (.string a36.copy.data)]
abbrev bgq70 (no : Int) (b : Bid) (a36 : Vote) (v : Voters) (m : Vote) : LS := (144, VI no) :: (143, VI b.time) :: (142, .ref 1 8 0 0) :: (141, (bgq69 a36)) :: (140, .pim [VI a36.kind, VI a36.bid, VI a36.node, VI a36.copy.at_.time, VI a36.copy.at_.who, .v (.string a36.copy.data)] 3) :: (bgq68 a36 v no b m)
theorem bidGoes_fn (v : Voters) (no : Int) (b : Bid) (m : Vote) (hx : v.weights.length ≤ 9223372036854775807) : Fn Tryd.prog 7 [.agg [.lst 1 (v.weights.map cI), VI v.need], VI no, .agg [VI b.time, VI b.phase, .v (.string b.own), .v (.string b.value), VI b.best.at_.time, VI b.best.at_.who, .v (.string b.best.data), .v (.int .u64 (b.heard.n : Int))], .agg [VI m.kind, VI m.bid, VI m.node, VI m.copy.at_.time, VI m.copy.at_.who, .v (.string m.copy.data)]] (.v (.bool true)) := by
  refine fn_walkW F7_ok (of_decide_eq_true (by kernel_rfl)) ?_
  refine EL.sreg ?_
  refine OW.last 4 [1, 4, 6, 7] (x' := ⟨(bgq3 no), (bgq2 v b m)⟩) (by kernel_rfl) (by kernel_rfl) ?_
  refine EL.sreg ?_
  refine OW.run 4 (x' := ⟨(bgq6 m b no v), (bgq2 v b m)⟩) (by kernel_rfl) ?_
  refine OW.fn (ar := [.agg [.lst 1 (v.weights.map cI), VI v.need], VI no, (bgq5 b), (bgq4 m)]) (x' := ⟨(bgq8 v no b m), (bgq2 v b m)⟩) (by kernel_rfl) (by kernel_rfl) F16_call (hear_fn v no b m hx) (by kernel_rfl) (by kernel_rfl) ?_
  refine OW.last 8 [1, 4, 6, 7, 9, 10, 11] (x' := ⟨(bgq11 v no b m), (bgq10 v b m no)⟩) (by kernel_rfl) (by kernel_rfl) ?_
  refine EL.seq ?_
  refine EL.sreg ?_
  refine OW.fn (ar := []) (x' := ⟨(25, .v (.bool true)) :: (bgq11 v no b m), (bgq10 v b m no)⟩) (by kernel_rfl) (by kernel_rfl) F10_call (begun_fn) (by kernel_rfl) (by kernel_rfl) ?_
  refine OW.last 1 [1, 4, 6, 7, 9, 10, 11, 26] (x' := ⟨(26, .v (.bool false)) :: (bgq11 v no b m), (bgq10 v b m no)⟩) (by kernel_rfl) (by kernel_rfl) ?_
  refine EL.condF (by kernel_rfl) ?_
  refine EL.skip ?_
  refine thenL_norm ?_
  refine EL.seq ?_
  refine EL.sreg ?_
  refine OW.last 2 [1, 4, 6, 7, 9, 10, 28] (x' := ⟨(28, .v (.bool (((hearP v no b m).2.2) != 0))) :: (bgq12 v no b m), (bgq10 v b m no)⟩) (by kernel_rfl) (by kernel_rfl) ?_
  rcases Bool.eq_false_or_eq_true ((((hearP v no b m).2.2) != 0)) with h1 | h1
  rw [h1]
  have g1 : ¬ (((hearP v no b m).2.2) = 0) := by simpa using h1
  refine EL.condT (by kernel_rfl) ?_
  refine EL.sreg ?_
  refine OW.run 1 (x' := ⟨(bgq13 v no b m), (bgq10 v b m no)⟩) (by kernel_rfl) ?_
  refine OW.ope (v := VI (List.length ((hearP v no b m).2.1) : Int)) (u := []) (acc := []) (x' := ⟨(bgq14 v no b m), (bgq10 v b m no)⟩) (by kernel_rfl) (opE_len Vote.cs ((hearP v no b m).2.1) (.s 29) 6 (by kernel_rfl) (by kernel_rfl) (.inl rfl)) (by kernel_rfl) ?_
  refine OW.last 2 [8] (x' := ⟨[(8, .v (.bool ((List.length ((hearP v no b m).2.1) : Int) == 0)))], (bgq10 v b m no)⟩) (by kernel_rfl) (by kernel_rfl) ?_
  refine EL.ret ?_
  refine thenL_ret ?_
  refine ⟨.inr rfl, .v (.bool ((List.length ((hearP v no b m).2.1) : Int) == 0)), by kernel_rfl, Ale.of_eq ?_⟩
  focus ((refine congrArg (fun b => AV.v (Value.bool b)) ?_; first | rfl | (have e9 := hear_err (v := v) (no := no) (b := b) (m := m) (by assumption); simp [e9]; done) | (have e9 := hear_same (v := v) (no := no) (b := b) (m := m) (by assumption) (by assumption); first | (simp [e9.1, e9.2, strEq]; done) | (exfalso; simp_all; done)) | (have hv := hear_adv (v := v) (no := no) (b := b) (m := m) (by assumption) (by assumption); first | (exfalso; obtain ⟨_, _, _, hv4, _, hv6, hv7, hv8⟩ := hv; first | omega | (simp_all [strEq_iff]; done)) | (have e9 := hear_put (v := v) (no := no) (b := b) (m := m) (by assumption) (by assumption) (by assumption); first | (simp [e9.1, e9.2, strEq]; done) | (exfalso; simp_all [strEq_iff]; done)) | (have hg := hear_go' (v := v) (no := no) (b := b) (m := m) (by assumption) (by assumption) (by assumption); have hw : b.best.raw m.copy = (if b.best.at_.lt m.copy.at_ then m.copy else b.best) := rfl; simp only [wantP, hw] at hg; first | (exfalso; omega) | ((try have hq := hg.2.2.2 _ (by assumption)); first | (simp_all [strEq_iff]; done) | (exfalso; simp_all [strEq_iff]; done))))))
  rw [h1]
  have g1 : (((hearP v no b m).2.2) = 0) := by simpa using h1
  refine EL.condF (by kernel_rfl) ?_
  refine EL.skip ?_
  refine thenL_norm ?_
  refine EL.seq ?_
  refine EL.sreg ?_
  refine OW.last 5 [1, 4, 6, 7, 9, 10, 36] (x' := ⟨(36, .v (.bool ((((hearP v no b m).1).phase) == b.phase))) :: (bgq12 v no b m), (bgq10 v b m no)⟩) (by kernel_rfl) (by kernel_rfl) ?_
  rcases Bool.eq_false_or_eq_true (((((hearP v no b m).1).phase) == b.phase)) with h2 | h2
  rw [h2]
  have g2 : ((((hearP v no b m).1).phase) = b.phase) := by simpa using h2
  refine EL.condT (by kernel_rfl) ?_
  refine EL.sreg ?_
  refine OW.run 1 (x' := ⟨(bgq15 v no b m), (bgq10 v b m no)⟩) (by kernel_rfl) ?_
  refine OW.ope (v := VI (List.length ((hearP v no b m).2.1) : Int)) (u := []) (acc := []) (x' := ⟨(bgq16 v no b m), (bgq10 v b m no)⟩) (by kernel_rfl) (opE_len Vote.cs ((hearP v no b m).2.1) (.s 37) 6 (by kernel_rfl) (by kernel_rfl) (.inl rfl)) (by kernel_rfl) ?_
  refine OW.run 2 (x' := ⟨(40, .v (.bool ((List.length ((hearP v no b m).2.1) : Int) == 0))) :: (39, .v (.bool ((List.length ((hearP v no b m).2.1) : Int) == 0))) :: (bgq16 v no b m), (bgq10 v b m no)⟩) (by kernel_rfl) ?_
  rcases Bool.eq_false_or_eq_true (((List.length ((hearP v no b m).2.1) : Int) == 0)) with h3 | h3
  rw [h3]
  have g3 : ((List.length ((hearP v no b m).2.1) : Int) = 0) := by simpa using h3
  have n3 : ((List.length ((hearP v no b m).2.1)) = 0) := by omega
  refine OW.last 7 [8] (x' := ⟨[(8, .v (.bool (strEq (((hearP v no b m).1).value) b.value)))], (bgq10 v b m no)⟩) (by kernel_rfl) (by kernel_rfl) ?_
  refine EL.ret ?_
  refine thenL_ret ?_
  refine ⟨.inr rfl, .v (.bool (strEq (((hearP v no b m).1).value) b.value)), by kernel_rfl, Ale.of_eq ?_⟩
  focus ((refine congrArg (fun b => AV.v (Value.bool b)) ?_; first | rfl | (have e9 := hear_err (v := v) (no := no) (b := b) (m := m) (by assumption); simp [e9]; done) | (have e9 := hear_same (v := v) (no := no) (b := b) (m := m) (by assumption) (by assumption); first | (simp [e9.1, e9.2, strEq]; done) | (exfalso; simp_all; done)) | (have hv := hear_adv (v := v) (no := no) (b := b) (m := m) (by assumption) (by assumption); first | (exfalso; obtain ⟨_, _, _, hv4, _, hv6, hv7, hv8⟩ := hv; first | omega | (simp_all [strEq_iff]; done)) | (have e9 := hear_put (v := v) (no := no) (b := b) (m := m) (by assumption) (by assumption) (by assumption); first | (simp [e9.1, e9.2, strEq]; done) | (exfalso; simp_all [strEq_iff]; done)) | (have hg := hear_go' (v := v) (no := no) (b := b) (m := m) (by assumption) (by assumption) (by assumption); have hw : b.best.raw m.copy = (if b.best.at_.lt m.copy.at_ then m.copy else b.best) := rfl; simp only [wantP, hw] at hg; first | (exfalso; omega) | ((try have hq := hg.2.2.2 _ (by assumption)); first | (simp_all [strEq_iff]; done) | (exfalso; simp_all [strEq_iff]; done))))))
  rw [h3]
  have g3 : ¬ ((List.length ((hearP v no b m).2.1) : Int) = 0) := by simpa using h3
  have n3 : ¬ ((List.length ((hearP v no b m).2.1)) = 0) := by omega
  refine OW.last 7 [8] (x' := ⟨[(8, .v (.bool false))], (bgq10 v b m no)⟩) (by kernel_rfl) (by kernel_rfl) ?_
  refine EL.ret ?_
  refine thenL_ret ?_
  refine ⟨.inr rfl, .v (.bool false), by kernel_rfl, Ale.of_eq ?_⟩
  focus ((refine congrArg (fun b => AV.v (Value.bool b)) ?_; first | rfl | (have e9 := hear_err (v := v) (no := no) (b := b) (m := m) (by assumption); simp [e9]; done) | (have e9 := hear_same (v := v) (no := no) (b := b) (m := m) (by assumption) (by assumption); first | (simp [e9.1, e9.2, strEq]; done) | (exfalso; simp_all; done)) | (have hv := hear_adv (v := v) (no := no) (b := b) (m := m) (by assumption) (by assumption); first | (exfalso; obtain ⟨_, _, _, hv4, _, hv6, hv7, hv8⟩ := hv; first | omega | (simp_all [strEq_iff]; done)) | (have e9 := hear_put (v := v) (no := no) (b := b) (m := m) (by assumption) (by assumption) (by assumption); first | (simp [e9.1, e9.2, strEq]; done) | (exfalso; simp_all [strEq_iff]; done)) | (have hg := hear_go' (v := v) (no := no) (b := b) (m := m) (by assumption) (by assumption) (by assumption); have hw : b.best.raw m.copy = (if b.best.at_.lt m.copy.at_ then m.copy else b.best) := rfl; simp only [wantP, hw] at hg; first | (exfalso; omega) | ((try have hq := hg.2.2.2 _ (by assumption)); first | (simp_all [strEq_iff]; done) | (exfalso; simp_all [strEq_iff]; done))))))
  rw [h2]
  have g2 : ¬ ((((hearP v no b m).1).phase) = b.phase) := by simpa using h2
  refine EL.condF (by kernel_rfl) ?_
  refine EL.skip ?_
  refine thenL_norm ?_
  refine EL.sdraw ?_
  refine DW.run 8 (x' := ⟨(bgq17 m b v no), (bgq10 v b m no)⟩) (by kernel_rfl) ?_
  refine DW.ope (v := .v (.int .u64 (IntKind.u64.wrap (1 * 2 ^ (min (Int.toNat m.node) IntKind.u64.bits))))) (u := []) (acc := []) (x' := ⟨(56, .v (.int .u64 (IntKind.u64.wrap (1 * 2 ^ (min (Int.toNat m.node) IntKind.u64.bits))))) :: (bgq17 m b v no), (bgq10 v b m no)⟩) (by kernel_rfl) (opE_shl (.c (.v (.int .u64 1))) (.s 55) .u64 .i64 1 m.node (by kernel_rfl) (by kernel_rfl) (by kernel_rfl) (by kernel_rfl) (by have hv := hear_adv (v := v) (no := no) (b := b) (m := m) (by assumption) (by assumption); have hb := bid_ok hv.1; omega)) (by kernel_rfl) ?_
  have e4 : IntKind.u64.wrap (1 * 2 ^ (min (Int.toNat m.node) IntKind.u64.bits)) = ((2 ^ (Int.toNat m.node) : Nat) : Int) := shl1 (by have hv := hear_adv (v := v) (no := no) (b := b) (m := m) (by assumption) (by assumption); have hb := bid_ok hv.1; omega)
  rw [e4]
  refine DW.run 1 (x' := ⟨(57, .v (.int .u64 (bits .or .u64 (b.heard.n : Int) ((2 ^ (Int.toNat m.node) : Nat) : Int)))) :: (bgq18 m b v no), (bgq10 v b m no)⟩) (by kernel_rfl) ?_
  have e5 : bits .or .u64 (b.heard.n : Int) ((2 ^ (Int.toNat m.node) : Nat) : Int) = ((orU b.heard (Int.toNat m.node)).n : Int) := orU_bits (by have hv := hear_adv (v := v) (no := no) (b := b) (m := m) (by assumption) (by assumption); have hb := bid_ok hv.1; omega)
  rw [e5]
  clear e5
  refine DW.fn (ar := [.lst 1 (v.weights.map cI), VI v.need, .v (.int .u64 ((orU b.heard (Int.toNat m.node)).n : Int))]) (x' := ⟨(58, .tup [.v (.bool ((enoughP v.weights v.need (orU b.heard (Int.toNat m.node)).n).1)), VI ((enoughP v.weights v.need (orU b.heard (Int.toNat m.node)).n).2)]) :: (bgq19 b m v no), (bgq10 v b m no)⟩) (by kernel_rfl) (by kernel_rfl) F23_call (enough_fn v.weights v.need (orU b.heard (Int.toNat m.node)) hx) (by kernel_rfl) (by kernel_rfl) ?_
  refine DW.last 5 [1, 4, 6, 7, 9, 10, 12, 13] (x' := ⟨(13, VI ((enoughP v.weights v.need (orU b.heard (Int.toNat m.node)).n).2)) :: (12, .v (.bool ((enoughP v.weights v.need (orU b.heard (Int.toNat m.node)).n).1))) :: (bgq12 v no b m), (bgq10 v b m no)⟩) (by kernel_rfl) (by kernel_rfl) ?_
  refine EL.seq ?_
  refine EL.sreg ?_
  refine OW.run 3 (x' := ⟨(63, .v (.bool (((enoughP v.weights v.need (orU b.heard (Int.toNat m.node)).n).2) != 0))) :: (62, .v (.bool (((enoughP v.weights v.need (orU b.heard (Int.toNat m.node)).n).2) != 0))) :: (61, VI ((enoughP v.weights v.need (orU b.heard (Int.toNat m.node)).n).2)) :: (13, VI ((enoughP v.weights v.need (orU b.heard (Int.toNat m.node)).n).2)) :: (12, .v (.bool ((enoughP v.weights v.need (orU b.heard (Int.toNat m.node)).n).1))) :: (bgq12 v no b m), (bgq10 v b m no)⟩) (by kernel_rfl) ?_
  rcases Bool.eq_false_or_eq_true ((((enoughP v.weights v.need (orU b.heard (Int.toNat m.node)).n).2) != 0)) with h6 | h6
  rw [h6]
  have g6 : ¬ (((enoughP v.weights v.need (orU b.heard (Int.toNat m.node)).n).2) = 0) := by simpa using h6
  refine OW.last 25 [1, 4, 6, 7, 9, 10, 88] (x' := ⟨(88, .v (.bool true)) :: (bgq12 v no b m), (bgq10 v b m no)⟩) (by kernel_rfl) (by kernel_rfl) ?_
  refine EL.condT (by kernel_rfl) ?_
  refine EL.sreg ?_
  refine OW.last 1 [8] (x' := ⟨[(8, .v (.bool false))], (bgq10 v b m no)⟩) (by kernel_rfl) (by kernel_rfl) ?_
  refine EL.ret ?_
  refine thenL_ret ?_
  refine ⟨.inr rfl, .v (.bool false), by kernel_rfl, Ale.of_eq ?_⟩
  focus ((refine congrArg (fun b => AV.v (Value.bool b)) ?_; first | rfl | (have e9 := hear_err (v := v) (no := no) (b := b) (m := m) (by assumption); simp [e9]; done) | (have e9 := hear_same (v := v) (no := no) (b := b) (m := m) (by assumption) (by assumption); first | (simp [e9.1, e9.2, strEq]; done) | (exfalso; simp_all; done)) | (have hv := hear_adv (v := v) (no := no) (b := b) (m := m) (by assumption) (by assumption); first | (exfalso; obtain ⟨_, _, _, hv4, _, hv6, hv7, hv8⟩ := hv; first | omega | (simp_all [strEq_iff]; done)) | (have e9 := hear_put (v := v) (no := no) (b := b) (m := m) (by assumption) (by assumption) (by assumption); first | (simp [e9.1, e9.2, strEq]; done) | (exfalso; simp_all [strEq_iff]; done)) | (have hg := hear_go' (v := v) (no := no) (b := b) (m := m) (by assumption) (by assumption) (by assumption); have hw : b.best.raw m.copy = (if b.best.at_.lt m.copy.at_ then m.copy else b.best) := rfl; simp only [wantP, hw] at hg; first | (exfalso; omega) | ((try have hq := hg.2.2.2 _ (by assumption)); first | (simp_all [strEq_iff]; done) | (exfalso; simp_all [strEq_iff]; done))))))
  rw [h6]
  have g6 : (((enoughP v.weights v.need (orU b.heard (Int.toNat m.node)).n).2) = 0) := by simpa using h6
  refine OW.run 4 (x' := ⟨(67, .v (.bool (!((enoughP v.weights v.need (orU b.heard (Int.toNat m.node)).n).1)))) :: (66, .v (.bool (!((enoughP v.weights v.need (orU b.heard (Int.toNat m.node)).n).1)))) :: (65, .v (.bool (!((enoughP v.weights v.need (orU b.heard (Int.toNat m.node)).n).1)))) :: (64, .v (.bool ((enoughP v.weights v.need (orU b.heard (Int.toNat m.node)).n).1))) :: (63, .v (.bool false)) :: (62, .v (.bool false)) :: (61, VI ((enoughP v.weights v.need (orU b.heard (Int.toNat m.node)).n).2)) :: (13, VI ((enoughP v.weights v.need (orU b.heard (Int.toNat m.node)).n).2)) :: (12, .v (.bool ((enoughP v.weights v.need (orU b.heard (Int.toNat m.node)).n).1))) :: (bgq12 v no b m), (bgq10 v b m no)⟩) (by kernel_rfl) ?_
  rcases Bool.eq_false_or_eq_true ((enoughP v.weights v.need (orU b.heard (Int.toNat m.node)).n).1) with h7 | h7
  rw [h7]
  refine OW.run 8 (x' := ⟨(75, .v (.bool ((((hearP v no b m).1).phase) != IntKind.i64.wrap (b.phase + 1)))) :: (74, .v (.bool ((((hearP v no b m).1).phase) != IntKind.i64.wrap (b.phase + 1)))) :: (73, .v (.bool ((((hearP v no b m).1).phase) != IntKind.i64.wrap (b.phase + 1)))) :: (72, VI (IntKind.i64.wrap (b.phase + 1))) :: (bgq20 b v no m), (bgq10 v b m no)⟩) (by kernel_rfl) ?_
  have e8 : IntKind.i64.wrap (b.phase + 1) = b.phase + 1 := wr64 (by have hv := hear_adv (v := v) (no := no) (b := b) (m := m) (by assumption) (by assumption); have hb := bid_ok hv.1; omega)
  rw [e8]
  rcases Bool.eq_false_or_eq_true (((((hearP v no b m).1).phase) != (b.phase + 1))) with h9 | h9
  rw [h9]
  have g9 : ¬ ((((hearP v no b m).1).phase) = (b.phase + 1)) := by simpa using h9
  refine OW.last 13 [1, 4, 6, 7, 9, 10, 88] (x' := ⟨(88, .v (.bool true)) :: (bgq12 v no b m), (bgq10 v b m no)⟩) (by kernel_rfl) (by kernel_rfl) ?_
  refine EL.condT (by kernel_rfl) ?_
  refine EL.sreg ?_
  refine OW.last 1 [8] (x' := ⟨[(8, .v (.bool false))], (bgq10 v b m no)⟩) (by kernel_rfl) (by kernel_rfl) ?_
  refine EL.ret ?_
  refine thenL_ret ?_
  refine ⟨.inr rfl, .v (.bool false), by kernel_rfl, Ale.of_eq ?_⟩
  focus ((refine congrArg (fun b => AV.v (Value.bool b)) ?_; first | rfl | (have e9 := hear_err (v := v) (no := no) (b := b) (m := m) (by assumption); simp [e9]; done) | (have e9 := hear_same (v := v) (no := no) (b := b) (m := m) (by assumption) (by assumption); first | (simp [e9.1, e9.2, strEq]; done) | (exfalso; simp_all; done)) | (have hv := hear_adv (v := v) (no := no) (b := b) (m := m) (by assumption) (by assumption); first | (exfalso; obtain ⟨_, _, _, hv4, _, hv6, hv7, hv8⟩ := hv; first | omega | (simp_all [strEq_iff]; done)) | (have e9 := hear_put (v := v) (no := no) (b := b) (m := m) (by assumption) (by assumption) (by assumption); first | (simp [e9.1, e9.2, strEq]; done) | (exfalso; simp_all [strEq_iff]; done)) | (have hg := hear_go' (v := v) (no := no) (b := b) (m := m) (by assumption) (by assumption) (by assumption); have hw : b.best.raw m.copy = (if b.best.at_.lt m.copy.at_ then m.copy else b.best) := rfl; simp only [wantP, hw] at hg; first | (exfalso; omega) | ((try have hq := hg.2.2.2 _ (by assumption)); first | (simp_all [strEq_iff]; done) | (exfalso; simp_all [strEq_iff]; done))))))
  rw [h9]
  have g9 : ((((hearP v no b m).1).phase) = (b.phase + 1)) := by simpa using h9
  refine OW.run 7 (x' := ⟨(82, .v (.bool (!(strEq (((hearP v no b m).1).own) b.own)))) :: (81, .v (.bool (!(strEq (((hearP v no b m).1).own) b.own)))) :: (80, .v (.bool (!(strEq (((hearP v no b m).1).own) b.own)))) :: (bgq21 b v no m), (bgq10 v b m no)⟩) (by kernel_rfl) ?_
  rcases Bool.eq_false_or_eq_true (strEq (((hearP v no b m).1).own) b.own) with h10 | h10
  rw [h10]
  have g10 : ((((hearP v no b m).1).own) = b.own) := strEq_iff.1 h10
  refine OW.last 6 [1, 4, 6, 7, 9, 10, 88] (x' := ⟨(88, .v (.bool ((((hearP v no b m).1).time) != b.time))) :: (bgq12 v no b m), (bgq10 v b m no)⟩) (by kernel_rfl) (by kernel_rfl) ?_
  rcases Bool.eq_false_or_eq_true (((((hearP v no b m).1).time) != b.time)) with h11 | h11
  rw [h11]
  have g11 : ¬ ((((hearP v no b m).1).time) = b.time) := by simpa using h11
  refine EL.condT (by kernel_rfl) ?_
  refine EL.sreg ?_
  refine OW.last 1 [8] (x' := ⟨[(8, .v (.bool false))], (bgq10 v b m no)⟩) (by kernel_rfl) (by kernel_rfl) ?_
  refine EL.ret ?_
  refine thenL_ret ?_
  refine ⟨.inr rfl, .v (.bool false), by kernel_rfl, Ale.of_eq ?_⟩
  focus ((refine congrArg (fun b => AV.v (Value.bool b)) ?_; first | rfl | (have e9 := hear_err (v := v) (no := no) (b := b) (m := m) (by assumption); simp [e9]; done) | (have e9 := hear_same (v := v) (no := no) (b := b) (m := m) (by assumption) (by assumption); first | (simp [e9.1, e9.2, strEq]; done) | (exfalso; simp_all; done)) | (have hv := hear_adv (v := v) (no := no) (b := b) (m := m) (by assumption) (by assumption); first | (exfalso; obtain ⟨_, _, _, hv4, _, hv6, hv7, hv8⟩ := hv; first | omega | (simp_all [strEq_iff]; done)) | (have e9 := hear_put (v := v) (no := no) (b := b) (m := m) (by assumption) (by assumption) (by assumption); first | (simp [e9.1, e9.2, strEq]; done) | (exfalso; simp_all [strEq_iff]; done)) | (have hg := hear_go' (v := v) (no := no) (b := b) (m := m) (by assumption) (by assumption) (by assumption); have hw : b.best.raw m.copy = (if b.best.at_.lt m.copy.at_ then m.copy else b.best) := rfl; simp only [wantP, hw] at hg; first | (exfalso; omega) | ((try have hq := hg.2.2.2 _ (by assumption)); first | (simp_all [strEq_iff]; done) | (exfalso; simp_all [strEq_iff]; done))))))
  rw [h11]
  have g11 : ((((hearP v no b m).1).time) = b.time) := by simpa using h11
  refine EL.condF (by kernel_rfl) ?_
  refine EL.skip ?_
  refine thenL_norm ?_
  refine EL.seq ?_
  refine EL.sreg ?_
  refine OW.last 3 [1, 4, 6, 7, 9, 10, 91] (x' := ⟨(91, .v (.bool (b.phase == 2))) :: (bgq12 v no b m), (bgq10 v b m no)⟩) (by kernel_rfl) (by kernel_rfl) ?_
  rcases Bool.eq_false_or_eq_true ((b.phase == 2)) with h12 | h12
  rw [h12]
  have g12 : (b.phase = 2) := by simpa using h12
  refine EL.condT (by kernel_rfl) ?_
  refine EL.sreg ?_
  refine OW.run 6 (x' := ⟨(97, .v (.bool (strEq (((hearP v no b m).1).value) b.value))) :: (96, .v (.bool (strEq (((hearP v no b m).1).value) b.value))) :: (bgq22 b v no m), (bgq10 v b m no)⟩) (by kernel_rfl) ?_
  rcases Bool.eq_false_or_eq_true (strEq (((hearP v no b m).1).value) b.value) with h13 | h13
  rw [h13]
  have g13 : ((((hearP v no b m).1).value) = b.value) := strEq_iff.1 h13
  refine OW.run 1 (x' := ⟨(bgq23 v no b m), (bgq10 v b m no)⟩) (by kernel_rfl) ?_
  refine OW.ope (v := VI (List.length ((hearP v no b m).2.1) : Int)) (u := []) (acc := []) (x' := ⟨(bgq24 v no b m), (bgq10 v b m no)⟩) (by kernel_rfl) (opE_len Vote.cs ((hearP v no b m).2.1) (.s 98) 6 (by kernel_rfl) (by kernel_rfl) (.inl rfl)) (by kernel_rfl) ?_
  refine OW.last 3 [8] (x' := ⟨[(8, .v (.bool ((List.length ((hearP v no b m).2.1) : Int) == 0)))], (bgq10 v b m no)⟩) (by kernel_rfl) (by kernel_rfl) ?_
  refine EL.ret ?_
  refine thenL_ret ?_
  refine ⟨.inr rfl, .v (.bool ((List.length ((hearP v no b m).2.1) : Int) == 0)), by kernel_rfl, Ale.of_eq ?_⟩
  focus ((refine congrArg (fun b => AV.v (Value.bool b)) ?_; first | rfl | (have e9 := hear_err (v := v) (no := no) (b := b) (m := m) (by assumption); simp [e9]; done) | (have e9 := hear_same (v := v) (no := no) (b := b) (m := m) (by assumption) (by assumption); first | (simp [e9.1, e9.2, strEq]; done) | (exfalso; simp_all; done)) | (have hv := hear_adv (v := v) (no := no) (b := b) (m := m) (by assumption) (by assumption); first | (exfalso; obtain ⟨_, _, _, hv4, _, hv6, hv7, hv8⟩ := hv; first | omega | (simp_all [strEq_iff]; done)) | (have e9 := hear_put (v := v) (no := no) (b := b) (m := m) (by assumption) (by assumption) (by assumption); first | (simp [e9.1, e9.2, strEq]; done) | (exfalso; simp_all [strEq_iff]; done)) | (have hg := hear_go' (v := v) (no := no) (b := b) (m := m) (by assumption) (by assumption) (by assumption); have hw : b.best.raw m.copy = (if b.best.at_.lt m.copy.at_ then m.copy else b.best) := rfl; simp only [wantP, hw] at hg; first | (exfalso; omega) | ((try have hq := hg.2.2.2 _ (by assumption)); first | (simp_all [strEq_iff]; done) | (exfalso; simp_all [strEq_iff]; done))))))
  rw [h13]
  have g13 : ¬ ((((hearP v no b m).1).value) = b.value) := fun hh => Bool.noConfusion ((strEq_iff.2 hh).symm.trans h13)
  refine OW.last 5 [8] (x' := ⟨[(8, .v (.bool false))], (bgq10 v b m no)⟩) (by kernel_rfl) (by kernel_rfl) ?_
  refine EL.ret ?_
  refine thenL_ret ?_
  refine ⟨.inr rfl, .v (.bool false), by kernel_rfl, Ale.of_eq ?_⟩
  focus ((refine congrArg (fun b => AV.v (Value.bool b)) ?_; first | rfl | (have e9 := hear_err (v := v) (no := no) (b := b) (m := m) (by assumption); simp [e9]; done) | (have e9 := hear_same (v := v) (no := no) (b := b) (m := m) (by assumption) (by assumption); first | (simp [e9.1, e9.2, strEq]; done) | (exfalso; simp_all; done)) | (have hv := hear_adv (v := v) (no := no) (b := b) (m := m) (by assumption) (by assumption); first | (exfalso; obtain ⟨_, _, _, hv4, _, hv6, hv7, hv8⟩ := hv; first | omega | (simp_all [strEq_iff]; done)) | (have e9 := hear_put (v := v) (no := no) (b := b) (m := m) (by assumption) (by assumption) (by assumption); first | (simp [e9.1, e9.2, strEq]; done) | (exfalso; simp_all [strEq_iff]; done)) | (have hg := hear_go' (v := v) (no := no) (b := b) (m := m) (by assumption) (by assumption) (by assumption); have hw : b.best.raw m.copy = (if b.best.at_.lt m.copy.at_ then m.copy else b.best) := rfl; simp only [wantP, hw] at hg; first | (exfalso; omega) | ((try have hq := hg.2.2.2 _ (by assumption)); first | (simp_all [strEq_iff]; done) | (exfalso; simp_all [strEq_iff]; done))))))
  rw [h12]
  have g12 : ¬ (b.phase = 2) := by simpa using h12
  refine EL.condF (by kernel_rfl) ?_
  refine EL.skip ?_
  refine thenL_norm ?_
  refine EL.sreg ?_
  refine OW.last 4 [1, 4, 6, 7, 9, 10, 14] (x' := ⟨(14, .ref 4 3 0 0) :: (bgq12 v no b m), (bgq26 v b m no)⟩) (by kernel_rfl) (by kernel_rfl) ?_
  refine EL.seq ?_
  refine EL.sreg ?_
  refine OW.run 5 (x' := ⟨(bgq27 m b v no), (bgq26 v b m no)⟩) (by kernel_rfl) ?_
  refine OW.fn (ar := [.agg [VI b.best.at_.time, VI b.best.at_.who], .agg [VI m.copy.at_.time, VI m.copy.at_.who]]) (x' := ⟨(109, .v (.bool (decide (b.best.at_.lt m.copy.at_)))) :: (bgq27 m b v no), (bgq26 v b m no)⟩) (by kernel_rfl) (by kernel_rfl) F22_call (less_fn b.best.at_ m.copy.at_) (by kernel_rfl) (by kernel_rfl) ?_
  refine OW.last 0 [1, 4, 6, 7, 9, 10, 14, 109] (x' := ⟨(109, .v (.bool (decide (b.best.at_.lt m.copy.at_)))) :: (14, .ref 4 3 0 0) :: (bgq12 v no b m), (bgq26 v b m no)⟩) (by kernel_rfl) (by kernel_rfl) ?_
  rcases Bool.eq_false_or_eq_true (decide (b.best.at_.lt m.copy.at_)) with h14 | h14
  rw [h14]
  have g14 : (b.best.at_.lt m.copy.at_) := of_decide_eq_true h14
  refine EL.condT (by kernel_rfl) ?_
  refine EL.reg0 ?_
  refine OW.end 3 (x' := ⟨(bgq31 m v no b), (bgq30 v b m no)⟩) (by kernel_rfl) (by kernel_rfl) ?_
  refine thenL_norm ?_
  refine EL.sreg ?_
  refine OW.last 3 [1, 4, 6, 9, 10, 14, 15] (x' := ⟨(bgq32 m v no b), (bgq30 v b m no)⟩) (by kernel_rfl) (by kernel_rfl) ?_
  refine EL.seq ?_
  refine EL.sreg ?_
  refine OW.last 4 [1, 4, 6, 9, 10, 15, 117] (x' := ⟨(117, .v (.bool ((m.copy.at_.time == 0) && ((m.copy.at_.who == 0) && true)))) :: (bgq33 m v no b), (bgq30 v b m no)⟩) (by kernel_rfl) (by kernel_rfl) ?_
  rcases Bool.eq_false_or_eq_true (((m.copy.at_.time == 0) && ((m.copy.at_.who == 0) && true))) with h15 | h15
  rw [h15]
  have g15 : m.copy.at_.time = 0 ∧ m.copy.at_.who = 0 := by simpa [strEq_iff] using h15
  refine EL.condT (by kernel_rfl) ?_
  refine EL.reg0 ?_
  refine OW.end 3 (x' := ⟨(bgq34 b v no m), (bgq30 v b m no)⟩) (by kernel_rfl) (by kernel_rfl) ?_
  refine thenL_norm ?_
  refine EL.sdraw ?_
  refine DW.run 5 (x' := ⟨(124, .v (.bool (strEq (((hearP v no b m).1).value) b.own))) :: (123, .v (.bool (strEq (((hearP v no b m).1).value) b.own))) :: (bgq35 b v no m), (bgq30 v b m no)⟩) (by kernel_rfl) ?_
  rcases Bool.eq_false_or_eq_true (strEq (((hearP v no b m).1).value) b.own) with h16 | h16
  rw [h16]
  have g16 : ((((hearP v no b m).1).value) = b.own) := strEq_iff.1 h16
  refine DW.run 1 (x' := ⟨(bgq36 v no b m), (bgq30 v b m no)⟩) (by kernel_rfl) ?_
  refine DW.ope (v := VI (List.length ((hearP v no b m).2.1) : Int)) (u := []) (acc := []) (x' := ⟨(bgq37 v no b m), (bgq30 v b m no)⟩) (by kernel_rfl) (opE_len Vote.cs ((hearP v no b m).2.1) (.s 125) 6 (by kernel_rfl) (by kernel_rfl) (.inl rfl)) (by kernel_rfl) ?_
  refine DW.run 2 (x' := ⟨(bgq38 v no b m), (bgq30 v b m no)⟩) (by kernel_rfl) ?_
  refine DW.ope (v := VI (List.length v.weights : Int)) (u := []) (acc := []) (x' := ⟨(129, VI (List.length v.weights : Int)) :: (bgq38 v no b m), (bgq30 v b m no)⟩) (by kernel_rfl) (opE_len cI v.weights (.s 128) 1 (by kernel_rfl) (by kernel_rfl) (.inl rfl)) (by kernel_rfl) ?_
  refine DW.run 3 (x' := ⟨(132, .v (.bool ((List.length ((hearP v no b m).2.1) : Int) == (List.length v.weights : Int)))) :: (131, .v (.bool ((List.length ((hearP v no b m).2.1) : Int) == (List.length v.weights : Int)))) :: (130, .v (.bool ((List.length ((hearP v no b m).2.1) : Int) == (List.length v.weights : Int)))) :: (129, VI (List.length v.weights : Int)) :: (bgq38 v no b m), (bgq30 v b m no)⟩) (by kernel_rfl) ?_
  rcases Bool.eq_false_or_eq_true (((List.length ((hearP v no b m).2.1) : Int) == (List.length v.weights : Int))) with h17 | h17
  rw [h17]
  have g17 : ((List.length ((hearP v no b m).2.1) : Int) = (List.length v.weights : Int)) := by simpa using h17
  have n17 : ((List.length ((hearP v no b m).2.1)) = (List.length v.weights)) := by omega
  refine DW.run 1 (x' := ⟨(bgq39 v no b m), (bgq30 v b m no)⟩) (by kernel_rfl) ?_
  refine DW.ope (v := VI (List.length ((hearP v no b m).2.1) : Int)) (u := []) (acc := []) (x' := ⟨(bgq40 v no b m), (bgq30 v b m no)⟩) (by kernel_rfl) (opE_len Vote.cs ((hearP v no b m).2.1) (.s 133) 6 (by kernel_rfl) (by kernel_rfl) (.inl rfl)) (by kernel_rfl) ?_
  refine DW.run 3 (x' := ⟨(137, .v (.bool (decide ((List.length ((hearP v no b m).2.1) : Int) > 0)))) :: (136, .v (.bool (decide ((List.length ((hearP v no b m).2.1) : Int) > 0)))) :: (135, .v (.bool (decide ((List.length ((hearP v no b m).2.1) : Int) > 0)))) :: (bgq40 v no b m), (bgq30 v b m no)⟩) (by kernel_rfl) ?_
  rcases Bool.eq_false_or_eq_true (decide ((List.length ((hearP v no b m).2.1) : Int) > 0)) with h18 | h18
  rw [h18]
  have g18 : ((List.length ((hearP v no b m).2.1) : Int) > 0) := of_decide_eq_true h18
  have n18 : ((List.length ((hearP v no b m).2.1)) > 0) := by omega
  refine DW.run 1 (x' := ⟨(bgq41 v no b m), (bgq30 v b m no)⟩) (by kernel_rfl) ?_
  obtain ⟨a20, ha20⟩ : ∃ y, ((hearP v no b m).2.1)[(0 : Int).toNat]? = some y := idx_ex ⟨by omega, by omega⟩
  refine DW.ope (v := .pim [VI a20.kind, VI a20.bid, VI a20.node, VI a20.copy.at_.time, VI a20.copy.at_.who, .v (.string a20.copy.data)] 0) (u := []) (acc := []) (x' := ⟨(bgq42 a20 v no b m), (bgq30 v b m no)⟩) (by kernel_rfl) (opE_iad Vote.cs ((hearP v no b m).2.1) (.s 138) (.c (VI 0)) 6 .i64 0 a20 (by kernel_rfl) (by kernel_rfl) (.inl rfl) rfl (by omega) ha20) (by kernel_rfl) ?_
  refine DW.run 5 (x' := ⟨(bgq44 no b a20 v m), (bgq30 v b m no)⟩) (by kernel_rfl) ?_
  refine DW.fn (ar := [VI b.time, VI no]) (x' := ⟨(145, (bgq45 b no)) :: (bgq44 no b a20 v m), (bgq30 v b m no)⟩) (by kernel_rfl) (by kernel_rfl) F24_call (lat_fn b.time no) (by kernel_rfl) (by kernel_rfl) ?_
  refine DW.last 5 [8] (x' := ⟨[(8, .v (.bool ((a20.copy.at_.time == (⟨b.time, no⟩ : Stamp).time) && ((a20.copy.at_.who == (⟨b.time, no⟩ : Stamp).who) && (strEq a20.copy.data b.own && true)))))], (bgq30 v b m no)⟩) (by kernel_rfl) (by kernel_rfl) ?_
  refine EL.ret ?_
  refine ⟨.inr rfl, .v (.bool ((a20.copy.at_.time == (⟨b.time, no⟩ : Stamp).time) && ((a20.copy.at_.who == (⟨b.time, no⟩ : Stamp).who) && (strEq a20.copy.data b.own && true)))), by kernel_rfl, Ale.of_eq ?_⟩
  focus ((refine congrArg (fun b => AV.v (Value.bool b)) ?_; first | rfl | (have e9 := hear_err (v := v) (no := no) (b := b) (m := m) (by assumption); simp [e9]; done) | (have e9 := hear_same (v := v) (no := no) (b := b) (m := m) (by assumption) (by assumption); first | (simp [e9.1, e9.2, strEq]; done) | (exfalso; simp_all; done)) | (have hv := hear_adv (v := v) (no := no) (b := b) (m := m) (by assumption) (by assumption); first | (exfalso; obtain ⟨_, _, _, hv4, _, hv6, hv7, hv8⟩ := hv; first | omega | (simp_all [strEq_iff]; done)) | (have e9 := hear_put (v := v) (no := no) (b := b) (m := m) (by assumption) (by assumption) (by assumption); first | (simp [e9.1, e9.2, strEq]; done) | (exfalso; simp_all [strEq_iff]; done)) | (have hg := hear_go' (v := v) (no := no) (b := b) (m := m) (by assumption) (by assumption) (by assumption); have hw : b.best.raw m.copy = (if b.best.at_.lt m.copy.at_ then m.copy else b.best) := rfl; simp only [wantP, hw] at hg; first | (exfalso; omega) | ((try have hq := hg.2.2.2 _ (by assumption)); first | (simp_all [strEq_iff]; done) | (exfalso; simp_all [strEq_iff]; done))))))
  rw [h18]
  have g18 : ¬ ((List.length ((hearP v no b m).2.1) : Int) > 0) := of_decide_eq_false h18
  have n18 : ¬ ((List.length ((hearP v no b m).2.1)) > 0) := by omega
  refine DW.last 13 [8] (x' := ⟨[(8, .v (.bool false))], (bgq30 v b m no)⟩) (by kernel_rfl) (by kernel_rfl) ?_
  refine EL.ret ?_
  refine ⟨.inr rfl, .v (.bool false), by kernel_rfl, Ale.of_eq ?_⟩
  focus ((refine congrArg (fun b => AV.v (Value.bool b)) ?_; first | rfl | (have e9 := hear_err (v := v) (no := no) (b := b) (m := m) (by assumption); simp [e9]; done) | (have e9 := hear_same (v := v) (no := no) (b := b) (m := m) (by assumption) (by assumption); first | (simp [e9.1, e9.2, strEq]; done) | (exfalso; simp_all; done)) | (have hv := hear_adv (v := v) (no := no) (b := b) (m := m) (by assumption) (by assumption); first | (exfalso; obtain ⟨_, _, _, hv4, _, hv6, hv7, hv8⟩ := hv; first | omega | (simp_all [strEq_iff]; done)) | (have e9 := hear_put (v := v) (no := no) (b := b) (m := m) (by assumption) (by assumption) (by assumption); first | (simp [e9.1, e9.2, strEq]; done) | (exfalso; simp_all [strEq_iff]; done)) | (have hg := hear_go' (v := v) (no := no) (b := b) (m := m) (by assumption) (by assumption) (by assumption); have hw : b.best.raw m.copy = (if b.best.at_.lt m.copy.at_ then m.copy else b.best) := rfl; simp only [wantP, hw] at hg; first | (exfalso; omega) | ((try have hq := hg.2.2.2 _ (by assumption)); first | (simp_all [strEq_iff]; done) | (exfalso; simp_all [strEq_iff]; done))))))
  rw [h17]
  have g17 : ¬ ((List.length ((hearP v no b m).2.1) : Int) = (List.length v.weights : Int)) := by simpa using h17
  have n17 : ¬ ((List.length ((hearP v no b m).2.1)) = (List.length v.weights)) := by omega
  refine DW.last 18 [8] (x' := ⟨[(8, .v (.bool false))], (bgq30 v b m no)⟩) (by kernel_rfl) (by kernel_rfl) ?_
  refine EL.ret ?_
  refine ⟨.inr rfl, .v (.bool false), by kernel_rfl, Ale.of_eq ?_⟩
  focus ((refine congrArg (fun b => AV.v (Value.bool b)) ?_; first | rfl | (have e9 := hear_err (v := v) (no := no) (b := b) (m := m) (by assumption); simp [e9]; done) | (have e9 := hear_same (v := v) (no := no) (b := b) (m := m) (by assumption) (by assumption); first | (simp [e9.1, e9.2, strEq]; done) | (exfalso; simp_all; done)) | (have hv := hear_adv (v := v) (no := no) (b := b) (m := m) (by assumption) (by assumption); first | (exfalso; obtain ⟨_, _, _, hv4, _, hv6, hv7, hv8⟩ := hv; first | omega | (simp_all [strEq_iff]; done)) | (have e9 := hear_put (v := v) (no := no) (b := b) (m := m) (by assumption) (by assumption) (by assumption); first | (simp [e9.1, e9.2, strEq]; done) | (exfalso; simp_all [strEq_iff]; done)) | (have hg := hear_go' (v := v) (no := no) (b := b) (m := m) (by assumption) (by assumption) (by assumption); have hw : b.best.raw m.copy = (if b.best.at_.lt m.copy.at_ then m.copy else b.best) := rfl; simp only [wantP, hw] at hg; first | (exfalso; omega) | ((try have hq := hg.2.2.2 _ (by assumption)); first | (simp_all [strEq_iff]; done) | (exfalso; simp_all [strEq_iff]; done))))))
  rw [h16]
  have g16 : ¬ ((((hearP v no b m).1).value) = b.own) := fun hh => Bool.noConfusion ((strEq_iff.2 hh).symm.trans h16)
  refine DW.last 26 [8] (x' := ⟨[(8, .v (.bool false))], (bgq30 v b m no)⟩) (by kernel_rfl) (by kernel_rfl) ?_
  refine EL.ret ?_
  refine ⟨.inr rfl, .v (.bool false), by kernel_rfl, Ale.of_eq ?_⟩
  focus ((refine congrArg (fun b => AV.v (Value.bool b)) ?_; first | rfl | (have e9 := hear_err (v := v) (no := no) (b := b) (m := m) (by assumption); simp [e9]; done) | (have e9 := hear_same (v := v) (no := no) (b := b) (m := m) (by assumption) (by assumption); first | (simp [e9.1, e9.2, strEq]; done) | (exfalso; simp_all; done)) | (have hv := hear_adv (v := v) (no := no) (b := b) (m := m) (by assumption) (by assumption); first | (exfalso; obtain ⟨_, _, _, hv4, _, hv6, hv7, hv8⟩ := hv; first | omega | (simp_all [strEq_iff]; done)) | (have e9 := hear_put (v := v) (no := no) (b := b) (m := m) (by assumption) (by assumption) (by assumption); first | (simp [e9.1, e9.2, strEq]; done) | (exfalso; simp_all [strEq_iff]; done)) | (have hg := hear_go' (v := v) (no := no) (b := b) (m := m) (by assumption) (by assumption) (by assumption); have hw : b.best.raw m.copy = (if b.best.at_.lt m.copy.at_ then m.copy else b.best) := rfl; simp only [wantP, hw] at hg; first | (exfalso; omega) | ((try have hq := hg.2.2.2 _ (by assumption)); first | (simp_all [strEq_iff]; done) | (exfalso; simp_all [strEq_iff]; done))))))
  rw [h15]
  have g15 : ¬ (m.copy.at_.time = 0 ∧ m.copy.at_.who = 0) := fun ⟨q0, q1⟩ => Bool.noConfusion ((show (((m.copy.at_.time == 0) && ((m.copy.at_.who == 0) && true))) = true by first | (simp [q0, q1, strEq_iff]; done) | (simp only [q0, q1, beq_self_eq_true, Bool.and_self, Bool.and_true, Bool.true_and]; done)).symm.trans h15)
  refine EL.condF (by kernel_rfl) ?_
  refine EL.skip ?_
  refine thenL_norm ?_
  refine EL.sdraw ?_
  refine DW.run 5 (x' := ⟨(124, .v (.bool (strEq (((hearP v no b m).1).value) m.copy.data))) :: (123, .v (.bool (strEq (((hearP v no b m).1).value) m.copy.data))) :: (bgq46 m v no b), (bgq30 v b m no)⟩) (by kernel_rfl) ?_
  rcases Bool.eq_false_or_eq_true (strEq (((hearP v no b m).1).value) m.copy.data) with h21 | h21
  rw [h21]
  have g21 : ((((hearP v no b m).1).value) = m.copy.data) := strEq_iff.1 h21
  refine DW.run 1 (x' := ⟨(bgq47 v no b m), (bgq30 v b m no)⟩) (by kernel_rfl) ?_
  refine DW.ope (v := VI (List.length ((hearP v no b m).2.1) : Int)) (u := []) (acc := []) (x' := ⟨(bgq48 v no b m), (bgq30 v b m no)⟩) (by kernel_rfl) (opE_len Vote.cs ((hearP v no b m).2.1) (.s 125) 6 (by kernel_rfl) (by kernel_rfl) (.inl rfl)) (by kernel_rfl) ?_
  refine DW.run 2 (x' := ⟨(bgq49 v no b m), (bgq30 v b m no)⟩) (by kernel_rfl) ?_
  refine DW.ope (v := VI (List.length v.weights : Int)) (u := []) (acc := []) (x' := ⟨(129, VI (List.length v.weights : Int)) :: (bgq49 v no b m), (bgq30 v b m no)⟩) (by kernel_rfl) (opE_len cI v.weights (.s 128) 1 (by kernel_rfl) (by kernel_rfl) (.inl rfl)) (by kernel_rfl) ?_
  refine DW.run 3 (x' := ⟨(132, .v (.bool ((List.length ((hearP v no b m).2.1) : Int) == (List.length v.weights : Int)))) :: (131, .v (.bool ((List.length ((hearP v no b m).2.1) : Int) == (List.length v.weights : Int)))) :: (130, .v (.bool ((List.length ((hearP v no b m).2.1) : Int) == (List.length v.weights : Int)))) :: (129, VI (List.length v.weights : Int)) :: (bgq49 v no b m), (bgq30 v b m no)⟩) (by kernel_rfl) ?_
  rcases Bool.eq_false_or_eq_true (((List.length ((hearP v no b m).2.1) : Int) == (List.length v.weights : Int))) with h22 | h22
  rw [h22]
  have g22 : ((List.length ((hearP v no b m).2.1) : Int) = (List.length v.weights : Int)) := by simpa using h22
  have n22 : ((List.length ((hearP v no b m).2.1)) = (List.length v.weights)) := by omega
  refine DW.run 1 (x' := ⟨(bgq50 v no b m), (bgq30 v b m no)⟩) (by kernel_rfl) ?_
  refine DW.ope (v := VI (List.length ((hearP v no b m).2.1) : Int)) (u := []) (acc := []) (x' := ⟨(bgq51 v no b m), (bgq30 v b m no)⟩) (by kernel_rfl) (opE_len Vote.cs ((hearP v no b m).2.1) (.s 133) 6 (by kernel_rfl) (by kernel_rfl) (.inl rfl)) (by kernel_rfl) ?_
  refine DW.run 3 (x' := ⟨(137, .v (.bool (decide ((List.length ((hearP v no b m).2.1) : Int) > 0)))) :: (136, .v (.bool (decide ((List.length ((hearP v no b m).2.1) : Int) > 0)))) :: (135, .v (.bool (decide ((List.length ((hearP v no b m).2.1) : Int) > 0)))) :: (bgq51 v no b m), (bgq30 v b m no)⟩) (by kernel_rfl) ?_
  rcases Bool.eq_false_or_eq_true (decide ((List.length ((hearP v no b m).2.1) : Int) > 0)) with h23 | h23
  rw [h23]
  have g23 : ((List.length ((hearP v no b m).2.1) : Int) > 0) := of_decide_eq_true h23
  have n23 : ((List.length ((hearP v no b m).2.1)) > 0) := by omega
  refine DW.run 1 (x' := ⟨(bgq52 v no b m), (bgq30 v b m no)⟩) (by kernel_rfl) ?_
  obtain ⟨a25, ha25⟩ : ∃ y, ((hearP v no b m).2.1)[(0 : Int).toNat]? = some y := idx_ex ⟨by omega, by omega⟩
  refine DW.ope (v := .pim [VI a25.kind, VI a25.bid, VI a25.node, VI a25.copy.at_.time, VI a25.copy.at_.who, .v (.string a25.copy.data)] 0) (u := []) (acc := []) (x' := ⟨(bgq53 a25 v no b m), (bgq30 v b m no)⟩) (by kernel_rfl) (opE_iad Vote.cs ((hearP v no b m).2.1) (.s 138) (.c (VI 0)) 6 .i64 0 a25 (by kernel_rfl) (by kernel_rfl) (.inl rfl) rfl (by omega) ha25) (by kernel_rfl) ?_
  refine DW.run 5 (x' := ⟨(bgq55 no b a25 v m), (bgq30 v b m no)⟩) (by kernel_rfl) ?_
  refine DW.fn (ar := [VI b.time, VI no]) (x' := ⟨(145, (bgq45 b no)) :: (bgq55 no b a25 v m), (bgq30 v b m no)⟩) (by kernel_rfl) (by kernel_rfl) F24_call (lat_fn b.time no) (by kernel_rfl) (by kernel_rfl) ?_
  refine DW.last 5 [8] (x' := ⟨[(8, .v (.bool ((a25.copy.at_.time == (⟨b.time, no⟩ : Stamp).time) && ((a25.copy.at_.who == (⟨b.time, no⟩ : Stamp).who) && (strEq a25.copy.data m.copy.data && true)))))], (bgq30 v b m no)⟩) (by kernel_rfl) (by kernel_rfl) ?_
  refine EL.ret ?_
  refine ⟨.inr rfl, .v (.bool ((a25.copy.at_.time == (⟨b.time, no⟩ : Stamp).time) && ((a25.copy.at_.who == (⟨b.time, no⟩ : Stamp).who) && (strEq a25.copy.data m.copy.data && true)))), by kernel_rfl, Ale.of_eq ?_⟩
  focus ((refine congrArg (fun b => AV.v (Value.bool b)) ?_; first | rfl | (have e9 := hear_err (v := v) (no := no) (b := b) (m := m) (by assumption); simp [e9]; done) | (have e9 := hear_same (v := v) (no := no) (b := b) (m := m) (by assumption) (by assumption); first | (simp [e9.1, e9.2, strEq]; done) | (exfalso; simp_all; done)) | (have hv := hear_adv (v := v) (no := no) (b := b) (m := m) (by assumption) (by assumption); first | (exfalso; obtain ⟨_, _, _, hv4, _, hv6, hv7, hv8⟩ := hv; first | omega | (simp_all [strEq_iff]; done)) | (have e9 := hear_put (v := v) (no := no) (b := b) (m := m) (by assumption) (by assumption) (by assumption); first | (simp [e9.1, e9.2, strEq]; done) | (exfalso; simp_all [strEq_iff]; done)) | (have hg := hear_go' (v := v) (no := no) (b := b) (m := m) (by assumption) (by assumption) (by assumption); have hw : b.best.raw m.copy = (if b.best.at_.lt m.copy.at_ then m.copy else b.best) := rfl; simp only [wantP, hw] at hg; first | (exfalso; omega) | ((try have hq := hg.2.2.2 _ (by assumption)); first | (simp_all [strEq_iff]; done) | (exfalso; simp_all [strEq_iff]; done))))))
  rw [h23]
  have g23 : ¬ ((List.length ((hearP v no b m).2.1) : Int) > 0) := of_decide_eq_false h23
  have n23 : ¬ ((List.length ((hearP v no b m).2.1)) > 0) := by omega
  refine DW.last 13 [8] (x' := ⟨[(8, .v (.bool false))], (bgq30 v b m no)⟩) (by kernel_rfl) (by kernel_rfl) ?_
  refine EL.ret ?_
  refine ⟨.inr rfl, .v (.bool false), by kernel_rfl, Ale.of_eq ?_⟩
  focus ((refine congrArg (fun b => AV.v (Value.bool b)) ?_; first | rfl | (have e9 := hear_err (v := v) (no := no) (b := b) (m := m) (by assumption); simp [e9]; done) | (have e9 := hear_same (v := v) (no := no) (b := b) (m := m) (by assumption) (by assumption); first | (simp [e9.1, e9.2, strEq]; done) | (exfalso; simp_all; done)) | (have hv := hear_adv (v := v) (no := no) (b := b) (m := m) (by assumption) (by assumption); first | (exfalso; obtain ⟨_, _, _, hv4, _, hv6, hv7, hv8⟩ := hv; first | omega | (simp_all [strEq_iff]; done)) | (have e9 := hear_put (v := v) (no := no) (b := b) (m := m) (by assumption) (by assumption) (by assumption); first | (simp [e9.1, e9.2, strEq]; done) | (exfalso; simp_all [strEq_iff]; done)) | (have hg := hear_go' (v := v) (no := no) (b := b) (m := m) (by assumption) (by assumption) (by assumption); have hw : b.best.raw m.copy = (if b.best.at_.lt m.copy.at_ then m.copy else b.best) := rfl; simp only [wantP, hw] at hg; first | (exfalso; omega) | ((try have hq := hg.2.2.2 _ (by assumption)); first | (simp_all [strEq_iff]; done) | (exfalso; simp_all [strEq_iff]; done))))))
  rw [h22]
  have g22 : ¬ ((List.length ((hearP v no b m).2.1) : Int) = (List.length v.weights : Int)) := by simpa using h22
  have n22 : ¬ ((List.length ((hearP v no b m).2.1)) = (List.length v.weights)) := by omega
  refine DW.last 18 [8] (x' := ⟨[(8, .v (.bool false))], (bgq30 v b m no)⟩) (by kernel_rfl) (by kernel_rfl) ?_
  refine EL.ret ?_
  refine ⟨.inr rfl, .v (.bool false), by kernel_rfl, Ale.of_eq ?_⟩
  focus ((refine congrArg (fun b => AV.v (Value.bool b)) ?_; first | rfl | (have e9 := hear_err (v := v) (no := no) (b := b) (m := m) (by assumption); simp [e9]; done) | (have e9 := hear_same (v := v) (no := no) (b := b) (m := m) (by assumption) (by assumption); first | (simp [e9.1, e9.2, strEq]; done) | (exfalso; simp_all; done)) | (have hv := hear_adv (v := v) (no := no) (b := b) (m := m) (by assumption) (by assumption); first | (exfalso; obtain ⟨_, _, _, hv4, _, hv6, hv7, hv8⟩ := hv; first | omega | (simp_all [strEq_iff]; done)) | (have e9 := hear_put (v := v) (no := no) (b := b) (m := m) (by assumption) (by assumption) (by assumption); first | (simp [e9.1, e9.2, strEq]; done) | (exfalso; simp_all [strEq_iff]; done)) | (have hg := hear_go' (v := v) (no := no) (b := b) (m := m) (by assumption) (by assumption) (by assumption); have hw : b.best.raw m.copy = (if b.best.at_.lt m.copy.at_ then m.copy else b.best) := rfl; simp only [wantP, hw] at hg; first | (exfalso; omega) | ((try have hq := hg.2.2.2 _ (by assumption)); first | (simp_all [strEq_iff]; done) | (exfalso; simp_all [strEq_iff]; done))))))
  rw [h21]
  have g21 : ¬ ((((hearP v no b m).1).value) = m.copy.data) := fun hh => Bool.noConfusion ((strEq_iff.2 hh).symm.trans h21)
  refine DW.last 26 [8] (x' := ⟨[(8, .v (.bool false))], (bgq30 v b m no)⟩) (by kernel_rfl) (by kernel_rfl) ?_
  refine EL.ret ?_
  refine ⟨.inr rfl, .v (.bool false), by kernel_rfl, Ale.of_eq ?_⟩
  focus ((refine congrArg (fun b => AV.v (Value.bool b)) ?_; first | rfl | (have e9 := hear_err (v := v) (no := no) (b := b) (m := m) (by assumption); simp [e9]; done) | (have e9 := hear_same (v := v) (no := no) (b := b) (m := m) (by assumption) (by assumption); first | (simp [e9.1, e9.2, strEq]; done) | (exfalso; simp_all; done)) | (have hv := hear_adv (v := v) (no := no) (b := b) (m := m) (by assumption) (by assumption); first | (exfalso; obtain ⟨_, _, _, hv4, _, hv6, hv7, hv8⟩ := hv; first | omega | (simp_all [strEq_iff]; done)) | (have e9 := hear_put (v := v) (no := no) (b := b) (m := m) (by assumption) (by assumption) (by assumption); first | (simp [e9.1, e9.2, strEq]; done) | (exfalso; simp_all [strEq_iff]; done)) | (have hg := hear_go' (v := v) (no := no) (b := b) (m := m) (by assumption) (by assumption) (by assumption); have hw : b.best.raw m.copy = (if b.best.at_.lt m.copy.at_ then m.copy else b.best) := rfl; simp only [wantP, hw] at hg; first | (exfalso; omega) | ((try have hq := hg.2.2.2 _ (by assumption)); first | (simp_all [strEq_iff]; done) | (exfalso; simp_all [strEq_iff]; done))))))
  rw [h14]
  have g14 : ¬ (b.best.at_.lt m.copy.at_) := of_decide_eq_false h14
  refine EL.condF (by kernel_rfl) ?_
  refine EL.skip ?_
  refine thenL_norm ?_
  refine EL.sreg ?_
  refine OW.last 3 [1, 4, 6, 9, 10, 14, 15] (x' := ⟨(bgq56 b v no m), (bgq26 v b m no)⟩) (by kernel_rfl) (by kernel_rfl) ?_
  refine EL.seq ?_
  refine EL.sreg ?_
  refine OW.last 4 [1, 4, 6, 9, 10, 15, 117] (x' := ⟨(117, .v (.bool ((b.best.at_.time == 0) && ((b.best.at_.who == 0) && true)))) :: (bgq57 b v no m), (bgq26 v b m no)⟩) (by kernel_rfl) (by kernel_rfl) ?_
  rcases Bool.eq_false_or_eq_true (((b.best.at_.time == 0) && ((b.best.at_.who == 0) && true))) with h26 | h26
  rw [h26]
  have g26 : b.best.at_.time = 0 ∧ b.best.at_.who = 0 := by simpa [strEq_iff] using h26
  refine EL.condT (by kernel_rfl) ?_
  refine EL.reg0 ?_
  refine OW.end 3 (x' := ⟨(bgq34 b v no m), (bgq26 v b m no)⟩) (by kernel_rfl) (by kernel_rfl) ?_
  refine thenL_norm ?_
  refine EL.sdraw ?_
  refine DW.run 5 (x' := ⟨(124, .v (.bool (strEq (((hearP v no b m).1).value) b.own))) :: (123, .v (.bool (strEq (((hearP v no b m).1).value) b.own))) :: (bgq35 b v no m), (bgq26 v b m no)⟩) (by kernel_rfl) ?_
  rcases Bool.eq_false_or_eq_true (strEq (((hearP v no b m).1).value) b.own) with h27 | h27
  rw [h27]
  have g27 : ((((hearP v no b m).1).value) = b.own) := strEq_iff.1 h27
  refine DW.run 1 (x' := ⟨(bgq36 v no b m), (bgq26 v b m no)⟩) (by kernel_rfl) ?_
  refine DW.ope (v := VI (List.length ((hearP v no b m).2.1) : Int)) (u := []) (acc := []) (x' := ⟨(bgq37 v no b m), (bgq26 v b m no)⟩) (by kernel_rfl) (opE_len Vote.cs ((hearP v no b m).2.1) (.s 125) 6 (by kernel_rfl) (by kernel_rfl) (.inl rfl)) (by kernel_rfl) ?_
  refine DW.run 2 (x' := ⟨(bgq38 v no b m), (bgq26 v b m no)⟩) (by kernel_rfl) ?_
  refine DW.ope (v := VI (List.length v.weights : Int)) (u := []) (acc := []) (x' := ⟨(129, VI (List.length v.weights : Int)) :: (bgq38 v no b m), (bgq26 v b m no)⟩) (by kernel_rfl) (opE_len cI v.weights (.s 128) 1 (by kernel_rfl) (by kernel_rfl) (.inl rfl)) (by kernel_rfl) ?_
  refine DW.run 3 (x' := ⟨(132, .v (.bool ((List.length ((hearP v no b m).2.1) : Int) == (List.length v.weights : Int)))) :: (131, .v (.bool ((List.length ((hearP v no b m).2.1) : Int) == (List.length v.weights : Int)))) :: (130, .v (.bool ((List.length ((hearP v no b m).2.1) : Int) == (List.length v.weights : Int)))) :: (129, VI (List.length v.weights : Int)) :: (bgq38 v no b m), (bgq26 v b m no)⟩) (by kernel_rfl) ?_
  rcases Bool.eq_false_or_eq_true (((List.length ((hearP v no b m).2.1) : Int) == (List.length v.weights : Int))) with h28 | h28
  rw [h28]
  have g28 : ((List.length ((hearP v no b m).2.1) : Int) = (List.length v.weights : Int)) := by simpa using h28
  have n28 : ((List.length ((hearP v no b m).2.1)) = (List.length v.weights)) := by omega
  refine DW.run 1 (x' := ⟨(bgq39 v no b m), (bgq26 v b m no)⟩) (by kernel_rfl) ?_
  refine DW.ope (v := VI (List.length ((hearP v no b m).2.1) : Int)) (u := []) (acc := []) (x' := ⟨(bgq40 v no b m), (bgq26 v b m no)⟩) (by kernel_rfl) (opE_len Vote.cs ((hearP v no b m).2.1) (.s 133) 6 (by kernel_rfl) (by kernel_rfl) (.inl rfl)) (by kernel_rfl) ?_
  refine DW.run 3 (x' := ⟨(137, .v (.bool (decide ((List.length ((hearP v no b m).2.1) : Int) > 0)))) :: (136, .v (.bool (decide ((List.length ((hearP v no b m).2.1) : Int) > 0)))) :: (135, .v (.bool (decide ((List.length ((hearP v no b m).2.1) : Int) > 0)))) :: (bgq40 v no b m), (bgq26 v b m no)⟩) (by kernel_rfl) ?_
  rcases Bool.eq_false_or_eq_true (decide ((List.length ((hearP v no b m).2.1) : Int) > 0)) with h29 | h29
  rw [h29]
  have g29 : ((List.length ((hearP v no b m).2.1) : Int) > 0) := of_decide_eq_true h29
  have n29 : ((List.length ((hearP v no b m).2.1)) > 0) := by omega
  refine DW.run 1 (x' := ⟨(bgq41 v no b m), (bgq26 v b m no)⟩) (by kernel_rfl) ?_
  obtain ⟨a31, ha31⟩ : ∃ y, ((hearP v no b m).2.1)[(0 : Int).toNat]? = some y := idx_ex ⟨by omega, by omega⟩
  refine DW.ope (v := .pim [VI a31.kind, VI a31.bid, VI a31.node, VI a31.copy.at_.time, VI a31.copy.at_.who, .v (.string a31.copy.data)] 0) (u := []) (acc := []) (x' := ⟨(bgq58 a31 v no b m), (bgq26 v b m no)⟩) (by kernel_rfl) (opE_iad Vote.cs ((hearP v no b m).2.1) (.s 138) (.c (VI 0)) 6 .i64 0 a31 (by kernel_rfl) (by kernel_rfl) (.inl rfl) rfl (by omega) ha31) (by kernel_rfl) ?_
  refine DW.run 5 (x' := ⟨(bgq60 no b a31 v m), (bgq26 v b m no)⟩) (by kernel_rfl) ?_
  refine DW.fn (ar := [VI b.time, VI no]) (x' := ⟨(145, (bgq45 b no)) :: (bgq60 no b a31 v m), (bgq26 v b m no)⟩) (by kernel_rfl) (by kernel_rfl) F24_call (lat_fn b.time no) (by kernel_rfl) (by kernel_rfl) ?_
  refine DW.last 5 [8] (x' := ⟨[(8, .v (.bool ((a31.copy.at_.time == (⟨b.time, no⟩ : Stamp).time) && ((a31.copy.at_.who == (⟨b.time, no⟩ : Stamp).who) && (strEq a31.copy.data b.own && true)))))], (bgq26 v b m no)⟩) (by kernel_rfl) (by kernel_rfl) ?_
  refine EL.ret ?_
  refine ⟨.inr rfl, .v (.bool ((a31.copy.at_.time == (⟨b.time, no⟩ : Stamp).time) && ((a31.copy.at_.who == (⟨b.time, no⟩ : Stamp).who) && (strEq a31.copy.data b.own && true)))), by kernel_rfl, Ale.of_eq ?_⟩
  focus ((refine congrArg (fun b => AV.v (Value.bool b)) ?_; first | rfl | (have e9 := hear_err (v := v) (no := no) (b := b) (m := m) (by assumption); simp [e9]; done) | (have e9 := hear_same (v := v) (no := no) (b := b) (m := m) (by assumption) (by assumption); first | (simp [e9.1, e9.2, strEq]; done) | (exfalso; simp_all; done)) | (have hv := hear_adv (v := v) (no := no) (b := b) (m := m) (by assumption) (by assumption); first | (exfalso; obtain ⟨_, _, _, hv4, _, hv6, hv7, hv8⟩ := hv; first | omega | (simp_all [strEq_iff]; done)) | (have e9 := hear_put (v := v) (no := no) (b := b) (m := m) (by assumption) (by assumption) (by assumption); first | (simp [e9.1, e9.2, strEq]; done) | (exfalso; simp_all [strEq_iff]; done)) | (have hg := hear_go' (v := v) (no := no) (b := b) (m := m) (by assumption) (by assumption) (by assumption); have hw : b.best.raw m.copy = (if b.best.at_.lt m.copy.at_ then m.copy else b.best) := rfl; simp only [wantP, hw] at hg; first | (exfalso; omega) | ((try have hq := hg.2.2.2 _ (by assumption)); first | (simp_all [strEq_iff]; done) | (exfalso; simp_all [strEq_iff]; done))))))
  rw [h29]
  have g29 : ¬ ((List.length ((hearP v no b m).2.1) : Int) > 0) := of_decide_eq_false h29
  have n29 : ¬ ((List.length ((hearP v no b m).2.1)) > 0) := by omega
  refine DW.last 13 [8] (x' := ⟨[(8, .v (.bool false))], (bgq26 v b m no)⟩) (by kernel_rfl) (by kernel_rfl) ?_
  refine EL.ret ?_
  refine ⟨.inr rfl, .v (.bool false), by kernel_rfl, Ale.of_eq ?_⟩
  focus ((refine congrArg (fun b => AV.v (Value.bool b)) ?_; first | rfl | (have e9 := hear_err (v := v) (no := no) (b := b) (m := m) (by assumption); simp [e9]; done) | (have e9 := hear_same (v := v) (no := no) (b := b) (m := m) (by assumption) (by assumption); first | (simp [e9.1, e9.2, strEq]; done) | (exfalso; simp_all; done)) | (have hv := hear_adv (v := v) (no := no) (b := b) (m := m) (by assumption) (by assumption); first | (exfalso; obtain ⟨_, _, _, hv4, _, hv6, hv7, hv8⟩ := hv; first | omega | (simp_all [strEq_iff]; done)) | (have e9 := hear_put (v := v) (no := no) (b := b) (m := m) (by assumption) (by assumption) (by assumption); first | (simp [e9.1, e9.2, strEq]; done) | (exfalso; simp_all [strEq_iff]; done)) | (have hg := hear_go' (v := v) (no := no) (b := b) (m := m) (by assumption) (by assumption) (by assumption); have hw : b.best.raw m.copy = (if b.best.at_.lt m.copy.at_ then m.copy else b.best) := rfl; simp only [wantP, hw] at hg; first | (exfalso; omega) | ((try have hq := hg.2.2.2 _ (by assumption)); first | (simp_all [strEq_iff]; done) | (exfalso; simp_all [strEq_iff]; done))))))
  rw [h28]
  have g28 : ¬ ((List.length ((hearP v no b m).2.1) : Int) = (List.length v.weights : Int)) := by simpa using h28
  have n28 : ¬ ((List.length ((hearP v no b m).2.1)) = (List.length v.weights)) := by omega
  refine DW.last 18 [8] (x' := ⟨[(8, .v (.bool false))], (bgq26 v b m no)⟩) (by kernel_rfl) (by kernel_rfl) ?_
  refine EL.ret ?_
  refine ⟨.inr rfl, .v (.bool false), by kernel_rfl, Ale.of_eq ?_⟩
  focus ((refine congrArg (fun b => AV.v (Value.bool b)) ?_; first | rfl | (have e9 := hear_err (v := v) (no := no) (b := b) (m := m) (by assumption); simp [e9]; done) | (have e9 := hear_same (v := v) (no := no) (b := b) (m := m) (by assumption) (by assumption); first | (simp [e9.1, e9.2, strEq]; done) | (exfalso; simp_all; done)) | (have hv := hear_adv (v := v) (no := no) (b := b) (m := m) (by assumption) (by assumption); first | (exfalso; obtain ⟨_, _, _, hv4, _, hv6, hv7, hv8⟩ := hv; first | omega | (simp_all [strEq_iff]; done)) | (have e9 := hear_put (v := v) (no := no) (b := b) (m := m) (by assumption) (by assumption) (by assumption); first | (simp [e9.1, e9.2, strEq]; done) | (exfalso; simp_all [strEq_iff]; done)) | (have hg := hear_go' (v := v) (no := no) (b := b) (m := m) (by assumption) (by assumption) (by assumption); have hw : b.best.raw m.copy = (if b.best.at_.lt m.copy.at_ then m.copy else b.best) := rfl; simp only [wantP, hw] at hg; first | (exfalso; omega) | ((try have hq := hg.2.2.2 _ (by assumption)); first | (simp_all [strEq_iff]; done) | (exfalso; simp_all [strEq_iff]; done))))))
  rw [h27]
  have g27 : ¬ ((((hearP v no b m).1).value) = b.own) := fun hh => Bool.noConfusion ((strEq_iff.2 hh).symm.trans h27)
  refine DW.last 26 [8] (x' := ⟨[(8, .v (.bool false))], (bgq26 v b m no)⟩) (by kernel_rfl) (by kernel_rfl) ?_
  refine EL.ret ?_
  refine ⟨.inr rfl, .v (.bool false), by kernel_rfl, Ale.of_eq ?_⟩
  focus ((refine congrArg (fun b => AV.v (Value.bool b)) ?_; first | rfl | (have e9 := hear_err (v := v) (no := no) (b := b) (m := m) (by assumption); simp [e9]; done) | (have e9 := hear_same (v := v) (no := no) (b := b) (m := m) (by assumption) (by assumption); first | (simp [e9.1, e9.2, strEq]; done) | (exfalso; simp_all; done)) | (have hv := hear_adv (v := v) (no := no) (b := b) (m := m) (by assumption) (by assumption); first | (exfalso; obtain ⟨_, _, _, hv4, _, hv6, hv7, hv8⟩ := hv; first | omega | (simp_all [strEq_iff]; done)) | (have e9 := hear_put (v := v) (no := no) (b := b) (m := m) (by assumption) (by assumption) (by assumption); first | (simp [e9.1, e9.2, strEq]; done) | (exfalso; simp_all [strEq_iff]; done)) | (have hg := hear_go' (v := v) (no := no) (b := b) (m := m) (by assumption) (by assumption) (by assumption); have hw : b.best.raw m.copy = (if b.best.at_.lt m.copy.at_ then m.copy else b.best) := rfl; simp only [wantP, hw] at hg; first | (exfalso; omega) | ((try have hq := hg.2.2.2 _ (by assumption)); first | (simp_all [strEq_iff]; done) | (exfalso; simp_all [strEq_iff]; done))))))
  rw [h26]
  have g26 : ¬ (b.best.at_.time = 0 ∧ b.best.at_.who = 0) := fun ⟨q0, q1⟩ => Bool.noConfusion ((show (((b.best.at_.time == 0) && ((b.best.at_.who == 0) && true))) = true by first | (simp [q0, q1, strEq_iff]; done) | (simp only [q0, q1, beq_self_eq_true, Bool.and_self, Bool.and_true, Bool.true_and]; done)).symm.trans h26)
  refine EL.condF (by kernel_rfl) ?_
  refine EL.skip ?_
  refine thenL_norm ?_
  refine EL.sdraw ?_
  refine DW.run 5 (x' := ⟨(124, .v (.bool (strEq (((hearP v no b m).1).value) b.best.data))) :: (123, .v (.bool (strEq (((hearP v no b m).1).value) b.best.data))) :: (bgq61 b v no m), (bgq26 v b m no)⟩) (by kernel_rfl) ?_
  rcases Bool.eq_false_or_eq_true (strEq (((hearP v no b m).1).value) b.best.data) with h32 | h32
  rw [h32]
  have g32 : ((((hearP v no b m).1).value) = b.best.data) := strEq_iff.1 h32
  refine DW.run 1 (x' := ⟨(bgq62 v no b m), (bgq26 v b m no)⟩) (by kernel_rfl) ?_
  refine DW.ope (v := VI (List.length ((hearP v no b m).2.1) : Int)) (u := []) (acc := []) (x' := ⟨(bgq63 v no b m), (bgq26 v b m no)⟩) (by kernel_rfl) (opE_len Vote.cs ((hearP v no b m).2.1) (.s 125) 6 (by kernel_rfl) (by kernel_rfl) (.inl rfl)) (by kernel_rfl) ?_
  refine DW.run 2 (x' := ⟨(bgq64 v no b m), (bgq26 v b m no)⟩) (by kernel_rfl) ?_
  refine DW.ope (v := VI (List.length v.weights : Int)) (u := []) (acc := []) (x' := ⟨(129, VI (List.length v.weights : Int)) :: (bgq64 v no b m), (bgq26 v b m no)⟩) (by kernel_rfl) (opE_len cI v.weights (.s 128) 1 (by kernel_rfl) (by kernel_rfl) (.inl rfl)) (by kernel_rfl) ?_
  refine DW.run 3 (x' := ⟨(132, .v (.bool ((List.length ((hearP v no b m).2.1) : Int) == (List.length v.weights : Int)))) :: (131, .v (.bool ((List.length ((hearP v no b m).2.1) : Int) == (List.length v.weights : Int)))) :: (130, .v (.bool ((List.length ((hearP v no b m).2.1) : Int) == (List.length v.weights : Int)))) :: (129, VI (List.length v.weights : Int)) :: (bgq64 v no b m), (bgq26 v b m no)⟩) (by kernel_rfl) ?_
  rcases Bool.eq_false_or_eq_true (((List.length ((hearP v no b m).2.1) : Int) == (List.length v.weights : Int))) with h33 | h33
  rw [h33]
  have g33 : ((List.length ((hearP v no b m).2.1) : Int) = (List.length v.weights : Int)) := by simpa using h33
  have n33 : ((List.length ((hearP v no b m).2.1)) = (List.length v.weights)) := by omega
  refine DW.run 1 (x' := ⟨(bgq65 v no b m), (bgq26 v b m no)⟩) (by kernel_rfl) ?_
  refine DW.ope (v := VI (List.length ((hearP v no b m).2.1) : Int)) (u := []) (acc := []) (x' := ⟨(bgq66 v no b m), (bgq26 v b m no)⟩) (by kernel_rfl) (opE_len Vote.cs ((hearP v no b m).2.1) (.s 133) 6 (by kernel_rfl) (by kernel_rfl) (.inl rfl)) (by kernel_rfl) ?_
  refine DW.run 3 (x' := ⟨(137, .v (.bool (decide ((List.length ((hearP v no b m).2.1) : Int) > 0)))) :: (136, .v (.bool (decide ((List.length ((hearP v no b m).2.1) : Int) > 0)))) :: (135, .v (.bool (decide ((List.length ((hearP v no b m).2.1) : Int) > 0)))) :: (bgq66 v no b m), (bgq26 v b m no)⟩) (by kernel_rfl) ?_
  rcases Bool.eq_false_or_eq_true (decide ((List.length ((hearP v no b m).2.1) : Int) > 0)) with h34 | h34
  rw [h34]
  have g34 : ((List.length ((hearP v no b m).2.1) : Int) > 0) := of_decide_eq_true h34
  have n34 : ((List.length ((hearP v no b m).2.1)) > 0) := by omega
  refine DW.run 1 (x' := ⟨(bgq67 v no b m), (bgq26 v b m no)⟩) (by kernel_rfl) ?_
  obtain ⟨a36, ha36⟩ : ∃ y, ((hearP v no b m).2.1)[(0 : Int).toNat]? = some y := idx_ex ⟨by omega, by omega⟩
  refine DW.ope (v := .pim [VI a36.kind, VI a36.bid, VI a36.node, VI a36.copy.at_.time, VI a36.copy.at_.who, .v (.string a36.copy.data)] 0) (u := []) (acc := []) (x' := ⟨(bgq68 a36 v no b m), (bgq26 v b m no)⟩) (by kernel_rfl) (opE_iad Vote.cs ((hearP v no b m).2.1) (.s 138) (.c (VI 0)) 6 .i64 0 a36 (by kernel_rfl) (by kernel_rfl) (.inl rfl) rfl (by omega) ha36) (by kernel_rfl) ?_
  refine DW.run 5 (x' := ⟨(bgq70 no b a36 v m), (bgq26 v b m no)⟩) (by kernel_rfl) ?_
  refine DW.fn (ar := [VI b.time, VI no]) (x' := ⟨(145, (bgq45 b no)) :: (bgq70 no b a36 v m), (bgq26 v b m no)⟩) (by kernel_rfl) (by kernel_rfl) F24_call (lat_fn b.time no) (by kernel_rfl) (by kernel_rfl) ?_
  refine DW.last 5 [8] (x' := ⟨[(8, .v (.bool ((a36.copy.at_.time == (⟨b.time, no⟩ : Stamp).time) && ((a36.copy.at_.who == (⟨b.time, no⟩ : Stamp).who) && (strEq a36.copy.data b.best.data && true)))))], (bgq26 v b m no)⟩) (by kernel_rfl) (by kernel_rfl) ?_
  refine EL.ret ?_
  refine ⟨.inr rfl, .v (.bool ((a36.copy.at_.time == (⟨b.time, no⟩ : Stamp).time) && ((a36.copy.at_.who == (⟨b.time, no⟩ : Stamp).who) && (strEq a36.copy.data b.best.data && true)))), by kernel_rfl, Ale.of_eq ?_⟩
  focus ((refine congrArg (fun b => AV.v (Value.bool b)) ?_; first | rfl | (have e9 := hear_err (v := v) (no := no) (b := b) (m := m) (by assumption); simp [e9]; done) | (have e9 := hear_same (v := v) (no := no) (b := b) (m := m) (by assumption) (by assumption); first | (simp [e9.1, e9.2, strEq]; done) | (exfalso; simp_all; done)) | (have hv := hear_adv (v := v) (no := no) (b := b) (m := m) (by assumption) (by assumption); first | (exfalso; obtain ⟨_, _, _, hv4, _, hv6, hv7, hv8⟩ := hv; first | omega | (simp_all [strEq_iff]; done)) | (have e9 := hear_put (v := v) (no := no) (b := b) (m := m) (by assumption) (by assumption) (by assumption); first | (simp [e9.1, e9.2, strEq]; done) | (exfalso; simp_all [strEq_iff]; done)) | (have hg := hear_go' (v := v) (no := no) (b := b) (m := m) (by assumption) (by assumption) (by assumption); have hw : b.best.raw m.copy = (if b.best.at_.lt m.copy.at_ then m.copy else b.best) := rfl; simp only [wantP, hw] at hg; first | (exfalso; omega) | ((try have hq := hg.2.2.2 _ (by assumption)); first | (simp_all [strEq_iff]; done) | (exfalso; simp_all [strEq_iff]; done))))))
  rw [h34]
  have g34 : ¬ ((List.length ((hearP v no b m).2.1) : Int) > 0) := of_decide_eq_false h34
  have n34 : ¬ ((List.length ((hearP v no b m).2.1)) > 0) := by omega
  refine DW.last 13 [8] (x' := ⟨[(8, .v (.bool false))], (bgq26 v b m no)⟩) (by kernel_rfl) (by kernel_rfl) ?_
  refine EL.ret ?_
  refine ⟨.inr rfl, .v (.bool false), by kernel_rfl, Ale.of_eq ?_⟩
  focus ((refine congrArg (fun b => AV.v (Value.bool b)) ?_; first | rfl | (have e9 := hear_err (v := v) (no := no) (b := b) (m := m) (by assumption); simp [e9]; done) | (have e9 := hear_same (v := v) (no := no) (b := b) (m := m) (by assumption) (by assumption); first | (simp [e9.1, e9.2, strEq]; done) | (exfalso; simp_all; done)) | (have hv := hear_adv (v := v) (no := no) (b := b) (m := m) (by assumption) (by assumption); first | (exfalso; obtain ⟨_, _, _, hv4, _, hv6, hv7, hv8⟩ := hv; first | omega | (simp_all [strEq_iff]; done)) | (have e9 := hear_put (v := v) (no := no) (b := b) (m := m) (by assumption) (by assumption) (by assumption); first | (simp [e9.1, e9.2, strEq]; done) | (exfalso; simp_all [strEq_iff]; done)) | (have hg := hear_go' (v := v) (no := no) (b := b) (m := m) (by assumption) (by assumption) (by assumption); have hw : b.best.raw m.copy = (if b.best.at_.lt m.copy.at_ then m.copy else b.best) := rfl; simp only [wantP, hw] at hg; first | (exfalso; omega) | ((try have hq := hg.2.2.2 _ (by assumption)); first | (simp_all [strEq_iff]; done) | (exfalso; simp_all [strEq_iff]; done))))))
  rw [h33]
  have g33 : ¬ ((List.length ((hearP v no b m).2.1) : Int) = (List.length v.weights : Int)) := by simpa using h33
  have n33 : ¬ ((List.length ((hearP v no b m).2.1)) = (List.length v.weights)) := by omega
  refine DW.last 18 [8] (x' := ⟨[(8, .v (.bool false))], (bgq26 v b m no)⟩) (by kernel_rfl) (by kernel_rfl) ?_
  refine EL.ret ?_
  refine ⟨.inr rfl, .v (.bool false), by kernel_rfl, Ale.of_eq ?_⟩
  focus ((refine congrArg (fun b => AV.v (Value.bool b)) ?_; first | rfl | (have e9 := hear_err (v := v) (no := no) (b := b) (m := m) (by assumption); simp [e9]; done) | (have e9 := hear_same (v := v) (no := no) (b := b) (m := m) (by assumption) (by assumption); first | (simp [e9.1, e9.2, strEq]; done) | (exfalso; simp_all; done)) | (have hv := hear_adv (v := v) (no := no) (b := b) (m := m) (by assumption) (by assumption); first | (exfalso; obtain ⟨_, _, _, hv4, _, hv6, hv7, hv8⟩ := hv; first | omega | (simp_all [strEq_iff]; done)) | (have e9 := hear_put (v := v) (no := no) (b := b) (m := m) (by assumption) (by assumption) (by assumption); first | (simp [e9.1, e9.2, strEq]; done) | (exfalso; simp_all [strEq_iff]; done)) | (have hg := hear_go' (v := v) (no := no) (b := b) (m := m) (by assumption) (by assumption) (by assumption); have hw : b.best.raw m.copy = (if b.best.at_.lt m.copy.at_ then m.copy else b.best) := rfl; simp only [wantP, hw] at hg; first | (exfalso; omega) | ((try have hq := hg.2.2.2 _ (by assumption)); first | (simp_all [strEq_iff]; done) | (exfalso; simp_all [strEq_iff]; done))))))
  rw [h32]
  have g32 : ¬ ((((hearP v no b m).1).value) = b.best.data) := fun hh => Bool.noConfusion ((strEq_iff.2 hh).symm.trans h32)
  refine DW.last 26 [8] (x' := ⟨[(8, .v (.bool false))], (bgq26 v b m no)⟩) (by kernel_rfl) (by kernel_rfl) ?_
  refine EL.ret ?_
  refine ⟨.inr rfl, .v (.bool false), by kernel_rfl, Ale.of_eq ?_⟩
  focus ((refine congrArg (fun b => AV.v (Value.bool b)) ?_; first | rfl | (have e9 := hear_err (v := v) (no := no) (b := b) (m := m) (by assumption); simp [e9]; done) | (have e9 := hear_same (v := v) (no := no) (b := b) (m := m) (by assumption) (by assumption); first | (simp [e9.1, e9.2, strEq]; done) | (exfalso; simp_all; done)) | (have hv := hear_adv (v := v) (no := no) (b := b) (m := m) (by assumption) (by assumption); first | (exfalso; obtain ⟨_, _, _, hv4, _, hv6, hv7, hv8⟩ := hv; first | omega | (simp_all [strEq_iff]; done)) | (have e9 := hear_put (v := v) (no := no) (b := b) (m := m) (by assumption) (by assumption) (by assumption); first | (simp [e9.1, e9.2, strEq]; done) | (exfalso; simp_all [strEq_iff]; done)) | (have hg := hear_go' (v := v) (no := no) (b := b) (m := m) (by assumption) (by assumption) (by assumption); have hw : b.best.raw m.copy = (if b.best.at_.lt m.copy.at_ then m.copy else b.best) := rfl; simp only [wantP, hw] at hg; first | (exfalso; omega) | ((try have hq := hg.2.2.2 _ (by assumption)); first | (simp_all [strEq_iff]; done) | (exfalso; simp_all [strEq_iff]; done))))))
  rw [h10]
  have g10 : ¬ ((((hearP v no b m).1).own) = b.own) := fun hh => Bool.noConfusion ((strEq_iff.2 hh).symm.trans h10)
  refine OW.last 6 [1, 4, 6, 7, 9, 10, 88] (x' := ⟨(88, .v (.bool true)) :: (bgq12 v no b m), (bgq10 v b m no)⟩) (by kernel_rfl) (by kernel_rfl) ?_
  refine EL.condT (by kernel_rfl) ?_
  refine EL.sreg ?_
  refine OW.last 1 [8] (x' := ⟨[(8, .v (.bool false))], (bgq10 v b m no)⟩) (by kernel_rfl) (by kernel_rfl) ?_
  refine EL.ret ?_
  refine thenL_ret ?_
  refine ⟨.inr rfl, .v (.bool false), by kernel_rfl, Ale.of_eq ?_⟩
  focus ((refine congrArg (fun b => AV.v (Value.bool b)) ?_; first | rfl | (have e9 := hear_err (v := v) (no := no) (b := b) (m := m) (by assumption); simp [e9]; done) | (have e9 := hear_same (v := v) (no := no) (b := b) (m := m) (by assumption) (by assumption); first | (simp [e9.1, e9.2, strEq]; done) | (exfalso; simp_all; done)) | (have hv := hear_adv (v := v) (no := no) (b := b) (m := m) (by assumption) (by assumption); first | (exfalso; obtain ⟨_, _, _, hv4, _, hv6, hv7, hv8⟩ := hv; first | omega | (simp_all [strEq_iff]; done)) | (have e9 := hear_put (v := v) (no := no) (b := b) (m := m) (by assumption) (by assumption) (by assumption); first | (simp [e9.1, e9.2, strEq]; done) | (exfalso; simp_all [strEq_iff]; done)) | (have hg := hear_go' (v := v) (no := no) (b := b) (m := m) (by assumption) (by assumption) (by assumption); have hw : b.best.raw m.copy = (if b.best.at_.lt m.copy.at_ then m.copy else b.best) := rfl; simp only [wantP, hw] at hg; first | (exfalso; omega) | ((try have hq := hg.2.2.2 _ (by assumption)); first | (simp_all [strEq_iff]; done) | (exfalso; simp_all [strEq_iff]; done))))))
  rw [h7]
  refine OW.last 21 [1, 4, 6, 7, 9, 10, 88] (x' := ⟨(88, .v (.bool true)) :: (bgq12 v no b m), (bgq10 v b m no)⟩) (by kernel_rfl) (by kernel_rfl) ?_
  refine EL.condT (by kernel_rfl) ?_
  refine EL.sreg ?_
  refine OW.last 1 [8] (x' := ⟨[(8, .v (.bool false))], (bgq10 v b m no)⟩) (by kernel_rfl) (by kernel_rfl) ?_
  refine EL.ret ?_
  refine thenL_ret ?_
  refine ⟨.inr rfl, .v (.bool false), by kernel_rfl, Ale.of_eq ?_⟩
  focus ((refine congrArg (fun b => AV.v (Value.bool b)) ?_; first | rfl | (have e9 := hear_err (v := v) (no := no) (b := b) (m := m) (by assumption); simp [e9]; done) | (have e9 := hear_same (v := v) (no := no) (b := b) (m := m) (by assumption) (by assumption); first | (simp [e9.1, e9.2, strEq]; done) | (exfalso; simp_all; done)) | (have hv := hear_adv (v := v) (no := no) (b := b) (m := m) (by assumption) (by assumption); first | (exfalso; obtain ⟨_, _, _, hv4, _, hv6, hv7, hv8⟩ := hv; first | omega | (simp_all [strEq_iff]; done)) | (have e9 := hear_put (v := v) (no := no) (b := b) (m := m) (by assumption) (by assumption) (by assumption); first | (simp [e9.1, e9.2, strEq]; done) | (exfalso; simp_all [strEq_iff]; done)) | (have hg := hear_go' (v := v) (no := no) (b := b) (m := m) (by assumption) (by assumption) (by assumption); have hw : b.best.raw m.copy = (if b.best.at_.lt m.copy.at_ then m.copy else b.best) := rfl; simp only [wantP, hw] at hg; first | (exfalso; omega) | ((try have hq := hg.2.2.2 _ (by assumption)); first | (simp_all [strEq_iff]; done) | (exfalso; simp_all [strEq_iff]; done))))))
theorem BidGoes_walk {w : World} (hG : GlE (E0 w fun b => b < w.heap.size)) (v : Voters) (csv : List Value) (rv : GoT.rep w w.heap.size csv v) (no : Int) (_wno : (Lit.int .i64 no).wf = true) (b : Bid) (_okb : b.ok) (m : Vote) (_okm : m.ok) : Calls Tryd.prog 7 #[.agg csv.toArray, I no, b.v, m.v] w fun e w' => e = .returned (.bool true) ∧ Below w.heap.size w w' := by
  have lv := (Voters.av rv).2
  exact fn_law (vs := [.agg csv.toArray, I no, b.v, m.v]) (bidGoes_fn v no b m (by first | assumption | omega)) hG (.cons ((Voters.av rv).1) (.cons (.v rfl) (.cons ((R2.agg (.cons (.v rfl) (.cons (.v rfl) (.cons (.v rfl) (.cons (.v rfl) (.cons (.v rfl) (.cons (.v rfl) (.cons (.v rfl) (.cons (.v rfl) (.nil))))))))) : Rep _ b.v _)) (.cons ((R2.agg (.cons (.v rfl) (.cons (.v rfl) (.cons (.v rfl) (.cons (.v rfl) (.cons (.v rfl) (.cons (.v rfl) (.nil))))))) : Rep _ m.v _)) (.nil)))))
theorem BidGoes_own : ownKnob Tryd.prog.godebug = none := by kernel_rfl
theorem BidGoes_laidOut : laidOutB Tryd.prog = true := by kernel_rfl
set_option maxRecDepth 100000 in
set_option linter.unusedVariables false in
theorem BidGoes_lifted (os : Os) (started : os.Started) (H : Type) (enc : TypeId × Value → H) :
    ReturnsInHanded {} Tryd.checked os 7 .any (fun w args => (Rows.bidGoesSpec.pre enc Tryd.prog Tryd.f7 [] false w args ∧ laidMetH Tryd.prog Rows.bidGoesRow.laid w) ∧ sizedMet enc Tryd.prog Tryd.f7 (OpenSpec.ofChange Rows.bidGoesSpec) false w args)
      (Rows.bidGoesSpec.post enc Tryd.prog Tryd.f7 false true false false) := by
  refine returnsInHanded_of_change_and (C := Tryd.checked) (X := fun w _ => laidMetH Tryd.prog Rows.bidGoesRow.laid w) (fun _ _ _ hh h => h.of_heap hh) BidGoes_own started (by kernel_rfl) Tryd.func7
    (ChangeSpec.witness_shaped (enc := enc) (C := Tryd.checked) (os := os) (X := fun w _ => laidMetH Tryd.prog Rows.bidGoesRow.laid w) false (World.doorLaid Tryd.prog 14 os) #[.agg #[.slice none 0 0, .int .i64 0], .int .i64 0, .agg #[.int .i64 0, .int .i64 0, .string ByteArray.empty, .string ByteArray.empty, .int .i64 0, .int .i64 0, .string ByteArray.empty, .int .u64 0], .agg #[.int .i64 0, .int .i64 0, .int .i64 0, .int .i64 0, .int .i64 0, .string ByteArray.empty]] 8 rfl (World.shaped_of_RefB (by kernel_rfl) (by kernel_rfl)) (by kernel_rfl) (by kernel_rfl) (by kernel_rfl) (laidMetH_of_parts3 (fuel := 8) (laidMet_of_run' 8 (by kernel_rfl) (by kernel_rfl)) (by kernel_rfl) (by kernel_rfl))) ?_
  intro W base args ds gs before hval0 hW _ _ hL _
  have hval : ∀ (j : Nat) t v, Tryd.f7.params[j]? = some t → args[j]? = some v → Value.okWide Tryd.prog W .any base t v := hval0
  have hW' := hW
  obtain ⟨p, q, hA0, hV, rfl, hfz, hnd⟩ := hW
  have hA : DataW.TrodAll enc Tryd.prog W 0 (fun _ => true) true Tryd.f7.params.toList args.toList ds p := hA0
  rw [Tryd.params7] at hA hval
  obtain ⟨v0, vs0, d0, ds0, p0, q0, hargs, rfl, rfl, h0, r0⟩ := trodAll_cons hA
  obtain ⟨v1, vs1, d1, ds1, p1, q1, rfl, rfl, rfl, h1, r1⟩ := trodAll_cons r0
  obtain ⟨v2, vs2, d2, ds2, p2, q2, rfl, rfl, rfl, h2, r2⟩ := trodAll_cons r1
  obtain ⟨v3, vs3, d3, ds3, p3, q3, rfl, rfl, rfl, h3, r3⟩ := trodAll_cons r2
  obtain ⟨rfl, rfl, rfl⟩ := trodAll_nil r3
  obtain rfl : args = #[v0, v1, v2, v3] := by cases args; simp_all
  obtain ⟨rfl, rfl⟩ := trodVars_none hV
  have k0 := h0
  have lt0 : ∀ x ∈ p0, x.block < W.heap.size := by obtain ⟨m, hm⟩ := k0; exact DataW.trod_lt m _ _ _ hm
  obtain ⟨x0, cs0, rfl, w0⟩ := open_agg opens_Voters Tryd.underlying41 (hval 0 41 v0 rfl rfl) h0
  have k1 := h1
  have lt1 : ∀ x ∈ p1, x.block < W.heap.size := by obtain ⟨m, hm⟩ := k1; exact DataW.trod_lt m _ _ _ hm
  obtain ⟨a1, rfl, e1, e1', w1⟩ := open_int Tryd.underlying3 (hval 1 3 v1 rfl rfl) h1
  have k2 := h2
  have lt2 : ∀ x ∈ p2, x.block < W.heap.size := by obtain ⟨m, hm⟩ := k2; exact DataW.trod_lt m _ _ _ hm
  obtain ⟨x2, cs2, rfl, w2⟩ := open_agg opens_Bid Tryd.underlying44 (hval 2 44 v2 rfl rfl) h2
  obtain ⟨rfl, ok2⟩ := Bid.flat w2
  have k3 := h3
  have lt3 : ∀ x ∈ p3, x.block < W.heap.size := by obtain ⟨m, hm⟩ := k3; exact DataW.trod_lt m _ _ _ hm
  obtain ⟨x3, cs3, rfl, w3⟩ := open_agg opens_Vote Tryd.underlying29 (hval 3 29 v3 rfl rfl) h3
  obtain ⟨rfl, ok3⟩ := Vote.flat w3
  clear hA0 hval0
  refine (BidGoes_walk (w := W) (glE_of hL) x0 cs0 w0 a1 w1 x2 ok2 x3 ok3).mono fun e W' ⟨he, bel⟩ => ?_
  subst he
  exact ⟨_, rfl, _, _, _, [], _, [], hW', trodAll_mk1 (shut_bool Tryd.underlying4 _), (trodAll_cons_mk (Below.trod BidGoes_laidOut (by kernel_rfl) (of_decide_eq_true (by kernel_rfl)) k0 bel lt0) (trodAll_cons_mk (Below.trod BidGoes_laidOut (by kernel_rfl) (of_decide_eq_true (by kernel_rfl)) k1 bel lt1) (trodAll_cons_mk (Below.trod BidGoes_laidOut (by kernel_rfl) (of_decide_eq_true (by kernel_rfl)) k2 bel lt2) (trodAll_cons_mk (Below.trod BidGoes_laidOut (by kernel_rfl) (of_decide_eq_true (by kernel_rfl)) k3 bel lt3) trodAll_mk0)))), rfl, bel.frame _, fun h => by cases h⟩
set_option maxRecDepth 100000 in
set_option maxHeartbeats 4000000 in
theorem BidGoes_row : Rows.BidGoesSaid :=
  OpenClaim.holds_of_wide 7 Tryd.f7 rfl rfl rfl rfl rfl rfl rfl ⟨rfl, rfl, rfl, rfl, rfl⟩ rfl rfl rfl rfl rfl (by kernel_rfl) Tryd.func7 (by kernel_rfl)
    (of_decide_eq_true (by kernel_rfl)) (by unfold Func.isWrapper; first | (rw [if_pos (by decide +kernel)]; kernel_rfl) | (rw [if_neg (by decide +kernel)]; exact ⟨rfl, rfl⟩))
    (fun os started H enc _ => BidGoes_lifted os started H enc)
set_option maxRecDepth 100000 in
set_option maxHeartbeats 4000000 in
theorem BidGoes_holds : Rows.BidGoesCardSaid :=
  Claim7.holds_tied_plain_at .later [] [.data] true (true, "b61f73abae45e264646c0b9802a4a2409c44329666a5012799d964ba1cee84f6") false
    BidGoes_row (fun _ h => by cases h) (by kernel_rfl) (fun _ h => by cases h) bidGoes_row_tie rfl ⟨rfl, rfl⟩ (by kernel_rfl) rfl
    (fun f fn hf hfn => by
      obtain rfl : f = 7 := Option.some.inj ((show Tryd.prog.funcNamed "supercargo/supercargolaw.BidGoes" = some 7 by kernel_rfl).symm.trans hf) |>.symm
      obtain rfl : fn = Tryd.f7 := (Option.some.inj (Tryd.func7.symm.trans hfn)).symm
      exact ⟨by kernel_rfl, fun j t ht => by
        rw [Tryd.params7] at ht
        have hm : t ∈ [41, 3, 44, 29] := by simpa using Array.mem_of_getElem? ht
        have hall : ([41, 3, 44, 29].all fun u => !Tryd.prog.wantsStandIn u) = true := by kernel_rfl
        exact (show Tryd.prog.wantsStandIn t = false by simpa using List.all_eq_true.1 hall t hm)⟩)
    (by kernel_rfl)
end Go.Proofs.YtejilglnpdjepaaDoor
