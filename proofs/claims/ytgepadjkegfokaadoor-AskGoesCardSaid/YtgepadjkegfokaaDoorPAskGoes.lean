/- Phases and the timestamp of Best never decrease; a transition requires a quorum, and a write puts a greater timestamp than all it knew: the law AskGoes returns true. No condition. -/
import Derived.Test.YtgepadjkegfokaaDoorPAskL
import Derived.Test.YtgepadjkegfokaaDoorPAskF
import Derived.WalkKit
import Derived.Handy
import Derived.ProofKit
import Derived.OpenShut
import Derived.ShutString
import Derived.ChangeOld
import Derived.Below
import Derived.Lib.Hide
import Derived.WalkLawsBesides
import Derived.WalkSpells
import Derived.Deep.QuietTactic
import Derived.BigQuiet
import Derived.Outline
import Derived.SevenTiedAt
namespace Go.Proofs.YtgepadjkegfokaaDoor
set_option linter.unusedSimpArgs false
set_option linter.unusedVariables false
open Go.ChangeShapes Go.WideShapes Go.ChangeAt Go.RowKit
open Go.ChangeMaps (open_string shut_string)
set_option maxRecDepth 100000
set_option maxHeartbeats 4000000
abbrev agoeq0 (a : Ask) : OB := some ⟨8, [[VI a.op, VI a.kind, VI a.phase, .v (.string a.data), VI a.best.at_.time, VI a.best.at_.who, .v (.string a.best.data), .v (.int .u64 (a.heard.n : Int))]]⟩
abbrev agoeq1 (m : Msg) : OB := some ⟨6, [[VI m.kind, VI m.op, VI m.node, VI m.copy.at_.time, VI m.copy.at_.who, .v (.string m.copy.data)]]⟩
abbrev agoeq2 (v : Voters) (a : Ask) (m : Msg) : LB := [some ⟨2, [[.lst 1 (v.weights.map cI), VI v.need]]⟩, (agoeq0 a), (agoeq1 m)]
abbrev agoeq3 : LS := [(5, .ref 2 6 0 0), (4, .ref 1 8 0 0), (3, .ref 0 2 0 0)]
abbrev agoeq4 (m : Msg) : AV := .agg [VI m.kind, VI m.op, VI m.node, VI m.copy.at_.time, VI m.copy.at_.who, .v (.string m.copy.data)]
abbrev agoeq5 (a : Ask) : AV := .agg [VI a.op, VI a.kind, VI a.phase, .v (.string a.data), VI a.best.at_.time, VI a.best.at_.who, .v (.string a.best.data), .v (.int .u64 (a.heard.n : Int))]
abbrev agoeq6 (m : Msg) (a : Ask) (v : Voters) : LS := (16, (agoeq4 m)) :: (15, (agoeq5 a)) :: (14, .agg [.lst 1 (v.weights.map cI), VI v.need]) :: agoeq3
abbrev agoeq7 (v : Voters) (a : Ask) (m : Msg) : AV := .agg [VI (((hearA v a m).1).op), VI (((hearA v a m).1).kind), VI (((hearA v a m).1).phase), .v (.string (((hearA v a m).1).data)), VI (((((hearA v a m).1).best).at_).time), VI (((((hearA v a m).1).best).at_).who), .v (.string ((((hearA v a m).1).best).data)), .v (.int .u64 (((hearA v a m).1).heard.n : Int))]
abbrev agoeq8 (v : Voters) (a : Ask) (m : Msg) : LS := (17, .tup [(agoeq7 v a m), .lst 6 (((hearA v a m).2.1).map Msg.cs), VI ((hearA v a m).2.2)]) :: (agoeq6 m a v)
abbrev agoeq9 (v : Voters) (a : Ask) (m : Msg) : OB := some ⟨8, [[VI (((hearA v a m).1).op), VI (((hearA v a m).1).kind), VI (((hearA v a m).1).phase), .v (.string (((hearA v a m).1).data)), VI (((((hearA v a m).1).best).at_).time), VI (((((hearA v a m).1).best).at_).who), .v (.string ((((hearA v a m).1).best).data)), .v (.int .u64 (((hearA v a m).1).heard.n : Int))]]⟩
abbrev agoeq10 (v : Voters) (a : Ask) (m : Msg) : LB := [some ⟨2, [[.lst 1 (v.weights.map cI), VI v.need]]⟩, (agoeq0 a), (agoeq1 m), (agoeq9 v a m)]
abbrev agoeq11 (v : Voters) (a : Ask) (m : Msg) : LS := (9, VI ((hearA v a m).2.2)) :: (8, .lst 6 (((hearA v a m).2.1).map Msg.cs)) :: (7, .ref 3 8 0 0) :: agoeq3
abbrev agoeq12 (v : Voters) (a : Ask) (m : Msg) : LS := (8, .lst 6 (((hearA v a m).2.1).map Msg.cs)) :: (7, .ref 3 8 0 0) :: agoeq3
abbrev agoeq13 (v : Voters) (a : Ask) (m : Msg) : LS := (25, .lst 6 (((hearA v a m).2.1).map Msg.cs)) :: (24, .v (.bool true)) :: (agoeq12 v a m)
abbrev agoeq14 (v : Voters) (a : Ask) (m : Msg) : LS := (26, VI (List.length ((hearA v a m).2.1) : Int)) :: (agoeq13 v a m)
abbrev agoeq15 (a : Ask) (v : Voters) (m : Msg) : LS := (31, VI a.phase) :: (30, .ref 1 8 0 2) :: (29, VI (((hearA v a m).1).phase)) :: (28, .ref 3 8 0 2) :: (24, .v (.bool false)) :: (agoeq12 v a m)
abbrev agoeq16 (a : Ask) (v : Voters) (m : Msg) : LS := (37, VI a.phase) :: (36, .ref 1 8 0 2) :: (35, VI (((hearA v a m).1).phase)) :: (34, .ref 3 8 0 2) :: (33, .v (.bool false)) :: (32, .v (.bool false)) :: (agoeq15 a v m)
abbrev agoeq17 (v : Voters) (a : Ask) (m : Msg) : AV := .agg [VI (((((hearA v a m).1).best).at_).time), VI (((((hearA v a m).1).best).at_).who)]
abbrev agoeq18 (a : Ask) (v : Voters) (m : Msg) : LS := (47, .agg [VI a.best.at_.time, VI a.best.at_.who]) :: (46, .ref 1 8 0 4) :: (45, .ref 1 8 0 4) :: (44, (agoeq17 v a m)) :: (43, .ref 3 8 0 4) :: (42, .ref 3 8 0 4) :: (41, .v (.bool false)) :: (40, .v (.bool false)) :: (39, .v (.bool false)) :: (38, VI (a.phase + 1)) :: (agoeq16 a v m)
abbrev agoeq19 (a : Ask) (v : Voters) (m : Msg) : LS := (54, VI a.op) :: (53, .ref 1 8 0 0) :: (52, VI (((hearA v a m).1).op)) :: (51, .ref 3 8 0 0) :: (50, .v (.bool false)) :: (49, .v (.bool false)) :: (48, .v (.bool false)) :: (agoeq18 a v m)
abbrev agoeq20 (a : Ask) (v : Voters) (m : Msg) : LS := (61, VI a.kind) :: (60, .ref 1 8 0 1) :: (59, VI (((hearA v a m).1).kind)) :: (58, .ref 3 8 0 1) :: (57, .v (.bool false)) :: (56, .v (.bool false)) :: (55, .v (.bool false)) :: (agoeq19 a v m)
abbrev agoeq21 (v : Voters) (a : Ask) (m : Msg) : LS := (76, .lst 6 (((hearA v a m).2.1).map Msg.cs)) :: (75, .v (.bool true)) :: (agoeq12 v a m)
abbrev agoeq22 (v : Voters) (a : Ask) (m : Msg) : LS := (77, VI (List.length ((hearA v a m).2.1) : Int)) :: (agoeq21 v a m)
abbrev agoeq23 (m : Msg) (a : Ask) (v : Voters) : LS := (87, VI m.node) :: (86, .ref 2 6 0 2) :: (85, .v (.int .u64 (a.heard.n : Int))) :: (84, .ref 1 8 0 7) :: (83, VI v.need) :: (82, .ref 0 2 0 1) :: (81, .lst 1 (v.weights.map cI)) :: (80, .ref 0 2 0 0) :: (75, .v (.bool false)) :: (agoeq12 v a m)
abbrev agoeq24 (m : Msg) (a : Ask) (v : Voters) : LS := (88, .v (.int .u64 ((2 ^ (Int.toNat m.node) : Nat) : Int))) :: (agoeq23 m a v)
abbrev agoeq25 (a : Ask) (m : Msg) (v : Voters) : LS := (89, .v (.int .u64 ((orU a.heard (Int.toNat m.node)).n : Int))) :: (agoeq24 m a v)
abbrev agoeq26 (v : Voters) (a : Ask) (m : Msg) : LS := (102, .lst 6 (((hearA v a m).2.1).map Msg.cs)) :: (101, .v (.bool true)) :: (agoeq12 v a m)
abbrev agoeq27 (v : Voters) (a : Ask) (m : Msg) : LS := (103, VI (List.length ((hearA v a m).2.1) : Int)) :: (agoeq26 v a m)
abbrev agoeq28 (a : Ask) (v : Voters) (m : Msg) : LS := (113, VI a.kind) :: (112, .ref 1 8 0 1) :: (101, .v (.bool false)) :: (agoeq12 v a m)
abbrev agoeq29 (v : Voters) (a : Ask) (m : Msg) : LS := (121, (agoeq17 v a m)) :: (120, .ref 3 8 0 4) :: (119, .ref 3 8 0 4) :: (118, .agg [VI a.best.at_.time, VI a.best.at_.who]) :: (117, .ref 1 8 0 4) :: (116, .ref 1 8 0 4) :: (115, .v (.bool true)) :: (114, .v (.bool true)) :: (agoeq28 a v m)
abbrev agoeq30 (v : Voters) (a : Ask) (m : Msg) : LS := (130, (agoeq17 v a m)) :: (129, .ref 3 8 0 4) :: (128, .ref 3 8 0 4) :: (127, .agg [VI m.copy.at_.time, VI m.copy.at_.who]) :: (126, .ref 2 6 0 3) :: (125, .ref 2 6 0 3) :: (124, .v (.bool false)) :: (123, .v (.bool false)) :: (122, .v (.bool true)) :: (agoeq29 v a m)
abbrev agoeq31 (a : Ask) (v : Voters) (m : Msg) : LS := (139, .v (.string a.data)) :: (138, .ref 1 8 0 3) :: (137, .v (.string ((((hearA v a m).1).best).data))) :: (136, .ref 3 8 0 6) :: (135, .ref 3 8 0 4) :: (134, .v (.bool false)) :: (133, .v (.bool false)) :: (132, .v (.bool false)) :: (131, .v (.bool true)) :: (agoeq30 v a m)
abbrev agoeq32 (a : Ask) (v : Voters) (m : Msg) : LS := (153, VI a.kind) :: (152, .ref 1 8 0 1) :: (151, .v (.bool false)) :: (agoeq12 v a m)
abbrev agoeq33 (a : Ask) : AV := .agg [VI a.best.at_.time, VI a.best.at_.who, .v (.string a.best.data)]
abbrev agoeq34 (v : Voters) (a : Ask) (m : Msg) : AV := .agg [VI (((((hearA v a m).1).best).at_).time), VI (((((hearA v a m).1).best).at_).who), .v (.string ((((hearA v a m).1).best).data))]
abbrev agoeq35 (a : Ask) (v : Voters) (m : Msg) : LS := (159, (agoeq33 a)) :: (158, .ref 1 8 0 4) :: (157, (agoeq34 v a m)) :: (156, .ref 3 8 0 4) :: (155, .v (.bool true)) :: (154, .v (.bool true)) :: (agoeq32 a v m)
abbrev agoeq36 (v : Voters) (a : Ask) (m : Msg) : LS := [(168, .v (.bool false)), (8, .lst 6 (((hearA v a m).2.1).map Msg.cs)), (7, .ref 3 8 0 0), (4, .ref 1 8 0 0), (3, .ref 0 2 0 0)]
abbrev agoeq37 (v : Voters) (a : Ask) (m : Msg) : LS := [(12, VI 0), (8, .lst 6 (((hearA v a m).2.1).map Msg.cs)), (7, .ref 3 8 0 0), (4, .ref 1 8 0 0), (3, .ref 0 2 0 0)]
abbrev agoeq38 (v : Voters) (a : Ask) (m : Msg) : LB := [some ⟨2, [[.lst 1 (v.weights.map cI), VI v.need]]⟩, (agoeq0 a), (agoeq9 v a m)]
abbrev agoeq39 (v : Voters) (a : Ask) (m : Msg) (k : Nat) : LS := [(3, .ref 0 2 0 0), (4, .ref 1 8 0 0), (7, .ref 2 8 0 0), (8, .lst 6 (((hearA v a m).2.1).map Msg.cs)), (12, VI (k : Int))]
abbrev agoeq40 (v : Voters) (a : Ask) (m : Msg) (k : Nat) : LS := (170, .lst 6 (((hearA v a m).2.1).map Msg.cs)) :: (169, VI (k : Int)) :: (agoeq39 v a m k)
abbrev agoeq41 (v : Voters) (a : Ask) (m : Msg) (k : Nat) : LS := (171, VI (List.length ((hearA v a m).2.1) : Int)) :: (agoeq40 v a m k)
abbrev agoeq42 (k : Nat) (v : Voters) (a : Ask) (m : Msg) : LS := (176, VI (k : Int)) :: (175, .lst 6 (((hearA v a m).2.1).map Msg.cs)) :: (172, .v (.bool true)) :: (agoeq39 v a m k)
abbrev agoeq43 (a26 : Msg) (k : Nat) (v : Voters) (a : Ask) (m : Msg) : LS := (177, .pim [VI a26.kind, VI a26.op, VI a26.node, VI a26.copy.at_.time, VI a26.copy.at_.who, .v (.string a26.copy.data)] 0) :: (agoeq42 k v a m)
abbrev agoeq44 (k : Nat) (v : Voters) (a : Ask) (m : Msg) : LS := [(173, VI (k : Int)), (185, .v (.bool false)), (3, .ref 0 2 0 0), (4, .ref 1 8 0 0), (7, .ref 2 8 0 0), (8, .lst 6 (((hearA v a m).2.1).map Msg.cs))]
abbrev agoeq45 (k : Nat) (v : Voters) (a : Ask) (m : Msg) : LS := (12, VI ((k : Int) + 1)) :: (174, VI ((k : Int) + 1)) :: (agoeq44 k v a m)
abbrev agoeq46 (v : Voters) (a : Ask) (m : Msg) (k : Nat) : LS := (186, .lst 6 (((hearA v a m).2.1).map Msg.cs)) :: (172, .v (.bool false)) :: (agoeq39 v a m k)
abbrev agoeq47 (v : Voters) (a : Ask) (m : Msg) (k : Nat) : LS := (187, VI (List.length ((hearA v a m).2.1) : Int)) :: (agoeq46 v a m k)
abbrev agoeq48 (v : Voters) (a : Ask) (m : Msg) (k : Nat) : LS := (189, .lst 1 (v.weights.map cI)) :: (188, .ref 0 2 0 0) :: (agoeq47 v a m k)
abbrev agoeq49 (v : Voters) (a : Ask) (m : Msg) : LS := [(8, .lst 6 (((hearA v a m).2.1).map Msg.cs)), (7, .ref 3 8 0 0), (4, .ref 1 8 0 0), (3, .ref 0 2 0 0)]
abbrev agoeq50 (a33 : Msg) (k : Nat) (v : Voters) (a : Ask) (m : Msg) : LS := (177, .pim [VI a33.kind, VI a33.op, VI a33.node, VI a33.copy.at_.time, VI a33.copy.at_.who, .v (.string a33.copy.data)] 0) :: (agoeq42 k v a m)
abbrev agoeq51 (a39 : Msg) (k : Nat) (v : Voters) (a : Ask) (m : Msg) : LS := (177, .pim [VI a39.kind, VI a39.op, VI a39.node, VI a39.copy.at_.time, VI a39.copy.at_.who, .v (.string a39.copy.data)] 0) :: (agoeq42 k v a m)
abbrev agoeq52 (a47 : Msg) (k : Nat) (v : Voters) (a : Ask) (m : Msg) : LS := (177, .pim [VI a47.kind, VI a47.op, VI a47.node, VI a47.copy.at_.time, VI a47.copy.at_.who, .v (.string a47.copy.data)] 0) :: (agoeq42 k v a m)
abbrev agoeq53 (a54 : Msg) (k : Nat) (v : Voters) (a : Ask) (m : Msg) : LS := (177, .pim [VI a54.kind, VI a54.op, VI a54.node, VI a54.copy.at_.time, VI a54.copy.at_.who, .v (.string a54.copy.data)] 0) :: (agoeq42 k v a m)
abbrev agoeq54 (a60 : Msg) (k : Nat) (v : Voters) (a : Ask) (m : Msg) : LS := (177, .pim [VI a60.kind, VI a60.op, VI a60.node, VI a60.copy.at_.time, VI a60.copy.at_.who, .v (.string a60.copy.data)] 0) :: (agoeq42 k v a m)
theorem askGoes_fn (v : Voters) (a : Ask) (m : Msg) (hx : v.weights.length ≤ 9223372036854775807) : Fn Tryd.prog 6 [.agg [.lst 1 (v.weights.map cI), VI v.need], .agg [VI a.op, VI a.kind, VI a.phase, .v (.string a.data), VI a.best.at_.time, VI a.best.at_.who, .v (.string a.best.data), .v (.int .u64 (a.heard.n : Int))], .agg [VI m.kind, VI m.op, VI m.node, VI m.copy.at_.time, VI m.copy.at_.who, .v (.string m.copy.data)]] (.v (.bool true)) := by
  refine fn_walkW F6_ok (of_decide_eq_true (by kernel_rfl)) ?_
  refine EL.sreg ?_
  refine OW.last 4 [3, 4, 5] (x' := ⟨agoeq3, (agoeq2 v a m)⟩) (by kernel_rfl) (by kernel_rfl) ?_
  refine EL.sreg ?_
  refine OW.run 3 (x' := ⟨(agoeq6 m a v), (agoeq2 v a m)⟩) (by kernel_rfl) ?_
  refine OW.fn (ar := [.agg [.lst 1 (v.weights.map cI), VI v.need], (agoeq5 a), (agoeq4 m)]) (x' := ⟨(agoeq8 v a m), (agoeq2 v a m)⟩) (by kernel_rfl) (by kernel_rfl) F8_call (hear_fn v a m hx) (by kernel_rfl) (by kernel_rfl) ?_
  refine OW.last 8 [3, 4, 5, 7, 8, 9] (x' := ⟨(agoeq11 v a m), (agoeq10 v a m)⟩) (by kernel_rfl) (by kernel_rfl) ?_
  refine EL.seq ?_
  refine EL.sreg ?_
  refine OW.fn (ar := []) (x' := ⟨(21, .v (.bool true)) :: (agoeq11 v a m), (agoeq10 v a m)⟩) (by kernel_rfl) (by kernel_rfl) F12_call (begun_fn) (by kernel_rfl) (by kernel_rfl) ?_
  refine OW.last 1 [3, 4, 5, 7, 8, 9, 22] (x' := ⟨(22, .v (.bool false)) :: (agoeq11 v a m), (agoeq10 v a m)⟩) (by kernel_rfl) (by kernel_rfl) ?_
  refine EL.condF (by kernel_rfl) ?_
  refine EL.skip ?_
  refine thenL_norm ?_
  refine EL.seq ?_
  refine EL.sreg ?_
  refine OW.last 2 [3, 4, 5, 7, 8, 24] (x' := ⟨(24, .v (.bool (((hearA v a m).2.2) != 0))) :: (agoeq12 v a m), (agoeq10 v a m)⟩) (by kernel_rfl) (by kernel_rfl) ?_
  rcases Bool.eq_false_or_eq_true ((((hearA v a m).2.2) != 0)) with h1 | h1
  rw [h1]
  have g1 : ¬ (((hearA v a m).2.2) = 0) := by simpa using h1
  refine EL.condT (by kernel_rfl) ?_
  refine EL.sreg ?_
  refine OW.run 1 (x' := ⟨(agoeq13 v a m), (agoeq10 v a m)⟩) (by kernel_rfl) ?_
  refine OW.ope (v := VI (List.length ((hearA v a m).2.1) : Int)) (u := []) (acc := []) (x' := ⟨(agoeq14 v a m), (agoeq10 v a m)⟩) (by kernel_rfl) (opE_len Msg.cs ((hearA v a m).2.1) (.s 25) 6 (by kernel_rfl) (by kernel_rfl) (.inl rfl)) (by kernel_rfl) ?_
  refine OW.last 2 [6] (x' := ⟨[(6, .v (.bool ((List.length ((hearA v a m).2.1) : Int) == 0)))], (agoeq10 v a m)⟩) (by kernel_rfl) (by kernel_rfl) ?_
  refine EL.ret ?_
  refine thenL_ret ?_
  refine ⟨.inr rfl, .v (.bool ((List.length ((hearA v a m).2.1) : Int) == 0)), by kernel_rfl, Ale.of_eq ?_⟩
  focus ((refine congrArg (fun b => AV.v (Value.bool b)) ?_; first | rfl | (have e9 := hear_zero (v := v) (a := a) (m := m) (by assumption); rw [e9.2]; rfl) | (have hg := goes (v := v) (a := a) (m := m) (by assumption); have hq9 := ask_ok hg.2.1; have hn9 := (msg_node hg.2.2.1).1; obtain ⟨⟨k1, k2, k3, k4, k5, k6⟩, _, _, k7, k8⟩ := hg; first | (exfalso; omega) | (exfalso; exact (by assumption : ¬ _ = _) k6) | (exfalso; exact absurd (by assumption) k3) | (have e9 := k7 (by omega); rw [e9]; rfl) | (have kk := k8 (by omega); obtain ⟨e1, e2, e3⟩ := kk; first | (exfalso; rw [e1] at *; simp_all; done) | (rcases Decidable.em (a.phase = 2) with hp2 | hp2 <;> first | (have ff := e2 hp2; obtain ⟨f1, f2⟩ := ff; first | (exfalso; omega) | (rw [f2]; simp [f1, strEq]; done) | (simp [f1, f2, strEq]; done) | (exfalso; simp only [f1] at *; simp_all; done) | (exfalso; simp only [f2] at *; simp_all [strEq]; done)) | (have ff := e3 hp2; obtain ⟨f1, f2, f3⟩ := ff; rcases (show a.kind = 1 ∨ a.kind = 2 by omega) with hk9 | hk9 <;> first | (have b5 := f2 hk9; first | (exfalso; omega) | (rw [f3, toAllM_len]; simp; done) | (exfalso; have hx9 := toAllM_get (n := v.weights.length) (m := ⟨3, a.op, 0, (hearA v a m).1.best⟩) (i := k) (by rw [← f3]; assumption); subst hx9; simp_all [strEq]; done) | (exfalso; rcases b5 with b5 | b5 <;> (simp only [b5] at *; simp_all [strEq]); done)) | (have ff := f1 hk9; obtain ⟨b1, b2, b3, b4⟩ := ff; first | (exfalso; exact absurd b1 (by assumption)) | (exfalso; exact absurd b2 (by assumption)) | (exfalso; exact absurd b3 (by assumption)) | (exfalso; omega) | (rw [f3, toAllM_len]; simp; done) | (exfalso; have hx9 := toAllM_get (n := v.weights.length) (m := ⟨3, a.op, 0, (hearA v a m).1.best⟩) (i := k) (by rw [← f3]; assumption); subst hx9; simp_all [strEq]; done)))))) | fail))
  rw [h1]
  have g1 : (((hearA v a m).2.2) = 0) := by simpa using h1
  refine EL.condF (by kernel_rfl) ?_
  refine EL.skip ?_
  refine thenL_norm ?_
  refine EL.seq ?_
  refine EL.sreg ?_
  refine OW.run 6 (x' := ⟨(33, .v (.bool (decide ((((hearA v a m).1).phase) < a.phase)))) :: (32, .v (.bool (decide ((((hearA v a m).1).phase) < a.phase)))) :: (agoeq15 a v m), (agoeq10 v a m)⟩) (by kernel_rfl) ?_
  rcases Bool.eq_false_or_eq_true (decide ((((hearA v a m).1).phase) < a.phase)) with h2 | h2
  rw [h2]
  have g2 : ((((hearA v a m).1).phase) < a.phase) := of_decide_eq_true h2
  refine OW.last 37 [3, 4, 5, 7, 8, 70] (x' := ⟨(70, .v (.bool true)) :: (agoeq12 v a m), (agoeq10 v a m)⟩) (by kernel_rfl) (by kernel_rfl) ?_
  refine EL.condT (by kernel_rfl) ?_
  refine EL.sreg ?_
  refine OW.last 1 [6] (x' := ⟨[(6, .v (.bool false))], (agoeq10 v a m)⟩) (by kernel_rfl) (by kernel_rfl) ?_
  refine EL.ret ?_
  refine thenL_ret ?_
  refine ⟨.inr rfl, .v (.bool false), by kernel_rfl, Ale.of_eq ?_⟩
  focus ((refine congrArg (fun b => AV.v (Value.bool b)) ?_; first | rfl | (have e9 := hear_zero (v := v) (a := a) (m := m) (by assumption); rw [e9.2]; rfl) | (have hg := goes (v := v) (a := a) (m := m) (by assumption); have hq9 := ask_ok hg.2.1; have hn9 := (msg_node hg.2.2.1).1; obtain ⟨⟨k1, k2, k3, k4, k5, k6⟩, _, _, k7, k8⟩ := hg; first | (exfalso; omega) | (exfalso; exact (by assumption : ¬ _ = _) k6) | (exfalso; exact absurd (by assumption) k3) | (have e9 := k7 (by omega); rw [e9]; rfl) | (have kk := k8 (by omega); obtain ⟨e1, e2, e3⟩ := kk; first | (exfalso; rw [e1] at *; simp_all; done) | (rcases Decidable.em (a.phase = 2) with hp2 | hp2 <;> first | (have ff := e2 hp2; obtain ⟨f1, f2⟩ := ff; first | (exfalso; omega) | (rw [f2]; simp [f1, strEq]; done) | (simp [f1, f2, strEq]; done) | (exfalso; simp only [f1] at *; simp_all; done) | (exfalso; simp only [f2] at *; simp_all [strEq]; done)) | (have ff := e3 hp2; obtain ⟨f1, f2, f3⟩ := ff; rcases (show a.kind = 1 ∨ a.kind = 2 by omega) with hk9 | hk9 <;> first | (have b5 := f2 hk9; first | (exfalso; omega) | (rw [f3, toAllM_len]; simp; done) | (exfalso; have hx9 := toAllM_get (n := v.weights.length) (m := ⟨3, a.op, 0, (hearA v a m).1.best⟩) (i := k) (by rw [← f3]; assumption); subst hx9; simp_all [strEq]; done) | (exfalso; rcases b5 with b5 | b5 <;> (simp only [b5] at *; simp_all [strEq]); done)) | (have ff := f1 hk9; obtain ⟨b1, b2, b3, b4⟩ := ff; first | (exfalso; exact absurd b1 (by assumption)) | (exfalso; exact absurd b2 (by assumption)) | (exfalso; exact absurd b3 (by assumption)) | (exfalso; omega) | (rw [f3, toAllM_len]; simp; done) | (exfalso; have hx9 := toAllM_get (n := v.weights.length) (m := ⟨3, a.op, 0, (hearA v a m).1.best⟩) (i := k) (by rw [← f3]; assumption); subst hx9; simp_all [strEq]; done)))))) | fail))
  rw [h2]
  have g2 : ¬ ((((hearA v a m).1).phase) < a.phase) := of_decide_eq_false h2
  refine OW.run 8 (x' := ⟨(41, .v (.bool (decide ((((hearA v a m).1).phase) > IntKind.i64.wrap (a.phase + 1))))) :: (40, .v (.bool (decide ((((hearA v a m).1).phase) > IntKind.i64.wrap (a.phase + 1))))) :: (39, .v (.bool (decide ((((hearA v a m).1).phase) > IntKind.i64.wrap (a.phase + 1))))) :: (38, VI (IntKind.i64.wrap (a.phase + 1))) :: (agoeq16 a v m), (agoeq10 v a m)⟩) (by kernel_rfl) ?_
  have e3 : IntKind.i64.wrap (a.phase + 1) = a.phase + 1 := wr64 (by have hg := goes (v := v) (a := a) (m := m) (by assumption); have hq9 := ask_ok hg.2.1; have hn9 := (msg_node hg.2.2.1).1; omega)
  rw [e3]
  rcases Bool.eq_false_or_eq_true (decide ((((hearA v a m).1).phase) > (a.phase + 1))) with h4 | h4
  rw [h4]
  have g4 : ((((hearA v a m).1).phase) > (a.phase + 1)) := of_decide_eq_true h4
  refine OW.last 29 [3, 4, 5, 7, 8, 70] (x' := ⟨(70, .v (.bool true)) :: (agoeq12 v a m), (agoeq10 v a m)⟩) (by kernel_rfl) (by kernel_rfl) ?_
  refine EL.condT (by kernel_rfl) ?_
  refine EL.sreg ?_
  refine OW.last 1 [6] (x' := ⟨[(6, .v (.bool false))], (agoeq10 v a m)⟩) (by kernel_rfl) (by kernel_rfl) ?_
  refine EL.ret ?_
  refine thenL_ret ?_
  refine ⟨.inr rfl, .v (.bool false), by kernel_rfl, Ale.of_eq ?_⟩
  focus ((refine congrArg (fun b => AV.v (Value.bool b)) ?_; first | rfl | (have e9 := hear_zero (v := v) (a := a) (m := m) (by assumption); rw [e9.2]; rfl) | (have hg := goes (v := v) (a := a) (m := m) (by assumption); have hq9 := ask_ok hg.2.1; have hn9 := (msg_node hg.2.2.1).1; obtain ⟨⟨k1, k2, k3, k4, k5, k6⟩, _, _, k7, k8⟩ := hg; first | (exfalso; omega) | (exfalso; exact (by assumption : ¬ _ = _) k6) | (exfalso; exact absurd (by assumption) k3) | (have e9 := k7 (by omega); rw [e9]; rfl) | (have kk := k8 (by omega); obtain ⟨e1, e2, e3⟩ := kk; first | (exfalso; rw [e1] at *; simp_all; done) | (rcases Decidable.em (a.phase = 2) with hp2 | hp2 <;> first | (have ff := e2 hp2; obtain ⟨f1, f2⟩ := ff; first | (exfalso; omega) | (rw [f2]; simp [f1, strEq]; done) | (simp [f1, f2, strEq]; done) | (exfalso; simp only [f1] at *; simp_all; done) | (exfalso; simp only [f2] at *; simp_all [strEq]; done)) | (have ff := e3 hp2; obtain ⟨f1, f2, f3⟩ := ff; rcases (show a.kind = 1 ∨ a.kind = 2 by omega) with hk9 | hk9 <;> first | (have b5 := f2 hk9; first | (exfalso; omega) | (rw [f3, toAllM_len]; simp; done) | (exfalso; have hx9 := toAllM_get (n := v.weights.length) (m := ⟨3, a.op, 0, (hearA v a m).1.best⟩) (i := k) (by rw [← f3]; assumption); subst hx9; simp_all [strEq]; done) | (exfalso; rcases b5 with b5 | b5 <;> (simp only [b5] at *; simp_all [strEq]); done)) | (have ff := f1 hk9; obtain ⟨b1, b2, b3, b4⟩ := ff; first | (exfalso; exact absurd b1 (by assumption)) | (exfalso; exact absurd b2 (by assumption)) | (exfalso; exact absurd b3 (by assumption)) | (exfalso; omega) | (rw [f3, toAllM_len]; simp; done) | (exfalso; have hx9 := toAllM_get (n := v.weights.length) (m := ⟨3, a.op, 0, (hearA v a m).1.best⟩) (i := k) (by rw [← f3]; assumption); subst hx9; simp_all [strEq]; done)))))) | fail))
  rw [h4]
  have g4 : ¬ ((((hearA v a m).1).phase) > (a.phase + 1)) := of_decide_eq_false h4
  refine OW.run 6 (x' := ⟨(agoeq18 a v m), (agoeq10 v a m)⟩) (by kernel_rfl) ?_
  refine OW.fn (ar := [(agoeq17 v a m), .agg [VI a.best.at_.time, VI a.best.at_.who]]) (x' := ⟨(48, .v (.bool (decide (((((hearA v a m).1).best).at_).lt a.best.at_)))) :: (agoeq18 a v m), (agoeq10 v a m)⟩) (by kernel_rfl) (by kernel_rfl) F18_call (less_fn ((((hearA v a m).1).best).at_) a.best.at_) (by kernel_rfl) (by kernel_rfl) ?_
  refine OW.run 2 (x' := ⟨(50, .v (.bool (decide (((((hearA v a m).1).best).at_).lt a.best.at_)))) :: (49, .v (.bool (decide (((((hearA v a m).1).best).at_).lt a.best.at_)))) :: (48, .v (.bool (decide (((((hearA v a m).1).best).at_).lt a.best.at_)))) :: (agoeq18 a v m), (agoeq10 v a m)⟩) (by kernel_rfl) ?_
  rcases Bool.eq_false_or_eq_true (decide (((((hearA v a m).1).best).at_).lt a.best.at_)) with h5 | h5
  rw [h5]
  have g5 : (((((hearA v a m).1).best).at_).lt a.best.at_) := of_decide_eq_true h5
  refine OW.last 20 [3, 4, 5, 7, 8, 70] (x' := ⟨(70, .v (.bool true)) :: (agoeq12 v a m), (agoeq10 v a m)⟩) (by kernel_rfl) (by kernel_rfl) ?_
  refine EL.condT (by kernel_rfl) ?_
  refine EL.sreg ?_
  refine OW.last 1 [6] (x' := ⟨[(6, .v (.bool false))], (agoeq10 v a m)⟩) (by kernel_rfl) (by kernel_rfl) ?_
  refine EL.ret ?_
  refine thenL_ret ?_
  refine ⟨.inr rfl, .v (.bool false), by kernel_rfl, Ale.of_eq ?_⟩
  focus ((refine congrArg (fun b => AV.v (Value.bool b)) ?_; first | rfl | (have e9 := hear_zero (v := v) (a := a) (m := m) (by assumption); rw [e9.2]; rfl) | (have hg := goes (v := v) (a := a) (m := m) (by assumption); have hq9 := ask_ok hg.2.1; have hn9 := (msg_node hg.2.2.1).1; obtain ⟨⟨k1, k2, k3, k4, k5, k6⟩, _, _, k7, k8⟩ := hg; first | (exfalso; omega) | (exfalso; exact (by assumption : ¬ _ = _) k6) | (exfalso; exact absurd (by assumption) k3) | (have e9 := k7 (by omega); rw [e9]; rfl) | (have kk := k8 (by omega); obtain ⟨e1, e2, e3⟩ := kk; first | (exfalso; rw [e1] at *; simp_all; done) | (rcases Decidable.em (a.phase = 2) with hp2 | hp2 <;> first | (have ff := e2 hp2; obtain ⟨f1, f2⟩ := ff; first | (exfalso; omega) | (rw [f2]; simp [f1, strEq]; done) | (simp [f1, f2, strEq]; done) | (exfalso; simp only [f1] at *; simp_all; done) | (exfalso; simp only [f2] at *; simp_all [strEq]; done)) | (have ff := e3 hp2; obtain ⟨f1, f2, f3⟩ := ff; rcases (show a.kind = 1 ∨ a.kind = 2 by omega) with hk9 | hk9 <;> first | (have b5 := f2 hk9; first | (exfalso; omega) | (rw [f3, toAllM_len]; simp; done) | (exfalso; have hx9 := toAllM_get (n := v.weights.length) (m := ⟨3, a.op, 0, (hearA v a m).1.best⟩) (i := k) (by rw [← f3]; assumption); subst hx9; simp_all [strEq]; done) | (exfalso; rcases b5 with b5 | b5 <;> (simp only [b5] at *; simp_all [strEq]); done)) | (have ff := f1 hk9; obtain ⟨b1, b2, b3, b4⟩ := ff; first | (exfalso; exact absurd b1 (by assumption)) | (exfalso; exact absurd b2 (by assumption)) | (exfalso; exact absurd b3 (by assumption)) | (exfalso; omega) | (rw [f3, toAllM_len]; simp; done) | (exfalso; have hx9 := toAllM_get (n := v.weights.length) (m := ⟨3, a.op, 0, (hearA v a m).1.best⟩) (i := k) (by rw [← f3]; assumption); subst hx9; simp_all [strEq]; done)))))) | fail))
  rw [h5]
  have g5 : ¬ (((((hearA v a m).1).best).at_).lt a.best.at_) := of_decide_eq_false h5
  refine OW.run 7 (x' := ⟨(57, .v (.bool ((((hearA v a m).1).op) != a.op))) :: (56, .v (.bool ((((hearA v a m).1).op) != a.op))) :: (55, .v (.bool ((((hearA v a m).1).op) != a.op))) :: (agoeq19 a v m), (agoeq10 v a m)⟩) (by kernel_rfl) ?_
  rcases Bool.eq_false_or_eq_true (((((hearA v a m).1).op) != a.op)) with h6 | h6
  rw [h6]
  have g6 : ¬ ((((hearA v a m).1).op) = a.op) := by simpa using h6
  refine OW.last 13 [3, 4, 5, 7, 8, 70] (x' := ⟨(70, .v (.bool true)) :: (agoeq12 v a m), (agoeq10 v a m)⟩) (by kernel_rfl) (by kernel_rfl) ?_
  refine EL.condT (by kernel_rfl) ?_
  refine EL.sreg ?_
  refine OW.last 1 [6] (x' := ⟨[(6, .v (.bool false))], (agoeq10 v a m)⟩) (by kernel_rfl) (by kernel_rfl) ?_
  refine EL.ret ?_
  refine thenL_ret ?_
  refine ⟨.inr rfl, .v (.bool false), by kernel_rfl, Ale.of_eq ?_⟩
  focus ((refine congrArg (fun b => AV.v (Value.bool b)) ?_; first | rfl | (have e9 := hear_zero (v := v) (a := a) (m := m) (by assumption); rw [e9.2]; rfl) | (have hg := goes (v := v) (a := a) (m := m) (by assumption); have hq9 := ask_ok hg.2.1; have hn9 := (msg_node hg.2.2.1).1; obtain ⟨⟨k1, k2, k3, k4, k5, k6⟩, _, _, k7, k8⟩ := hg; first | (exfalso; omega) | (exfalso; exact (by assumption : ¬ _ = _) k6) | (exfalso; exact absurd (by assumption) k3) | (have e9 := k7 (by omega); rw [e9]; rfl) | (have kk := k8 (by omega); obtain ⟨e1, e2, e3⟩ := kk; first | (exfalso; rw [e1] at *; simp_all; done) | (rcases Decidable.em (a.phase = 2) with hp2 | hp2 <;> first | (have ff := e2 hp2; obtain ⟨f1, f2⟩ := ff; first | (exfalso; omega) | (rw [f2]; simp [f1, strEq]; done) | (simp [f1, f2, strEq]; done) | (exfalso; simp only [f1] at *; simp_all; done) | (exfalso; simp only [f2] at *; simp_all [strEq]; done)) | (have ff := e3 hp2; obtain ⟨f1, f2, f3⟩ := ff; rcases (show a.kind = 1 ∨ a.kind = 2 by omega) with hk9 | hk9 <;> first | (have b5 := f2 hk9; first | (exfalso; omega) | (rw [f3, toAllM_len]; simp; done) | (exfalso; have hx9 := toAllM_get (n := v.weights.length) (m := ⟨3, a.op, 0, (hearA v a m).1.best⟩) (i := k) (by rw [← f3]; assumption); subst hx9; simp_all [strEq]; done) | (exfalso; rcases b5 with b5 | b5 <;> (simp only [b5] at *; simp_all [strEq]); done)) | (have ff := f1 hk9; obtain ⟨b1, b2, b3, b4⟩ := ff; first | (exfalso; exact absurd b1 (by assumption)) | (exfalso; exact absurd b2 (by assumption)) | (exfalso; exact absurd b3 (by assumption)) | (exfalso; omega) | (rw [f3, toAllM_len]; simp; done) | (exfalso; have hx9 := toAllM_get (n := v.weights.length) (m := ⟨3, a.op, 0, (hearA v a m).1.best⟩) (i := k) (by rw [← f3]; assumption); subst hx9; simp_all [strEq]; done)))))) | fail))
  rw [h6]
  have g6 : ((((hearA v a m).1).op) = a.op) := by simpa using h6
  refine OW.run 7 (x' := ⟨(64, .v (.bool ((((hearA v a m).1).kind) != a.kind))) :: (63, .v (.bool ((((hearA v a m).1).kind) != a.kind))) :: (62, .v (.bool ((((hearA v a m).1).kind) != a.kind))) :: (agoeq20 a v m), (agoeq10 v a m)⟩) (by kernel_rfl) ?_
  rcases Bool.eq_false_or_eq_true (((((hearA v a m).1).kind) != a.kind)) with h7 | h7
  rw [h7]
  have g7 : ¬ ((((hearA v a m).1).kind) = a.kind) := by simpa using h7
  refine OW.last 6 [3, 4, 5, 7, 8, 70] (x' := ⟨(70, .v (.bool true)) :: (agoeq12 v a m), (agoeq10 v a m)⟩) (by kernel_rfl) (by kernel_rfl) ?_
  refine EL.condT (by kernel_rfl) ?_
  refine EL.sreg ?_
  refine OW.last 1 [6] (x' := ⟨[(6, .v (.bool false))], (agoeq10 v a m)⟩) (by kernel_rfl) (by kernel_rfl) ?_
  refine EL.ret ?_
  refine thenL_ret ?_
  refine ⟨.inr rfl, .v (.bool false), by kernel_rfl, Ale.of_eq ?_⟩
  focus ((refine congrArg (fun b => AV.v (Value.bool b)) ?_; first | rfl | (have e9 := hear_zero (v := v) (a := a) (m := m) (by assumption); rw [e9.2]; rfl) | (have hg := goes (v := v) (a := a) (m := m) (by assumption); have hq9 := ask_ok hg.2.1; have hn9 := (msg_node hg.2.2.1).1; obtain ⟨⟨k1, k2, k3, k4, k5, k6⟩, _, _, k7, k8⟩ := hg; first | (exfalso; omega) | (exfalso; exact (by assumption : ¬ _ = _) k6) | (exfalso; exact absurd (by assumption) k3) | (have e9 := k7 (by omega); rw [e9]; rfl) | (have kk := k8 (by omega); obtain ⟨e1, e2, e3⟩ := kk; first | (exfalso; rw [e1] at *; simp_all; done) | (rcases Decidable.em (a.phase = 2) with hp2 | hp2 <;> first | (have ff := e2 hp2; obtain ⟨f1, f2⟩ := ff; first | (exfalso; omega) | (rw [f2]; simp [f1, strEq]; done) | (simp [f1, f2, strEq]; done) | (exfalso; simp only [f1] at *; simp_all; done) | (exfalso; simp only [f2] at *; simp_all [strEq]; done)) | (have ff := e3 hp2; obtain ⟨f1, f2, f3⟩ := ff; rcases (show a.kind = 1 ∨ a.kind = 2 by omega) with hk9 | hk9 <;> first | (have b5 := f2 hk9; first | (exfalso; omega) | (rw [f3, toAllM_len]; simp; done) | (exfalso; have hx9 := toAllM_get (n := v.weights.length) (m := ⟨3, a.op, 0, (hearA v a m).1.best⟩) (i := k) (by rw [← f3]; assumption); subst hx9; simp_all [strEq]; done) | (exfalso; rcases b5 with b5 | b5 <;> (simp only [b5] at *; simp_all [strEq]); done)) | (have ff := f1 hk9; obtain ⟨b1, b2, b3, b4⟩ := ff; first | (exfalso; exact absurd b1 (by assumption)) | (exfalso; exact absurd b2 (by assumption)) | (exfalso; exact absurd b3 (by assumption)) | (exfalso; omega) | (rw [f3, toAllM_len]; simp; done) | (exfalso; have hx9 := toAllM_get (n := v.weights.length) (m := ⟨3, a.op, 0, (hearA v a m).1.best⟩) (i := k) (by rw [← f3]; assumption); subst hx9; simp_all [strEq]; done)))))) | fail))
  rw [h7]
  have g7 : ((((hearA v a m).1).kind) = a.kind) := by simpa using h7
  refine OW.last 6 [3, 4, 5, 7, 8, 70] (x' := ⟨(70, .v (.bool (!(strEq (((hearA v a m).1).data) a.data)))) :: (agoeq12 v a m), (agoeq10 v a m)⟩) (by kernel_rfl) (by kernel_rfl) ?_
  rcases Bool.eq_false_or_eq_true (strEq (((hearA v a m).1).data) a.data) with h8 | h8
  rw [h8]
  have g8 : ((((hearA v a m).1).data) = a.data) := strEq_iff.1 h8
  refine EL.condF (by kernel_rfl) ?_
  refine EL.skip ?_
  refine thenL_norm ?_
  refine EL.seq ?_
  refine EL.sreg ?_
  refine OW.last 5 [3, 4, 5, 7, 8, 75] (x' := ⟨(75, .v (.bool ((((hearA v a m).1).phase) == a.phase))) :: (agoeq12 v a m), (agoeq10 v a m)⟩) (by kernel_rfl) (by kernel_rfl) ?_
  rcases Bool.eq_false_or_eq_true (((((hearA v a m).1).phase) == a.phase)) with h9 | h9
  rw [h9]
  have g9 : ((((hearA v a m).1).phase) = a.phase) := by simpa using h9
  refine EL.condT (by kernel_rfl) ?_
  refine EL.sreg ?_
  refine OW.run 1 (x' := ⟨(agoeq21 v a m), (agoeq10 v a m)⟩) (by kernel_rfl) ?_
  refine OW.ope (v := VI (List.length ((hearA v a m).2.1) : Int)) (u := []) (acc := []) (x' := ⟨(agoeq22 v a m), (agoeq10 v a m)⟩) (by kernel_rfl) (opE_len Msg.cs ((hearA v a m).2.1) (.s 76) 6 (by kernel_rfl) (by kernel_rfl) (.inl rfl)) (by kernel_rfl) ?_
  refine OW.last 2 [6] (x' := ⟨[(6, .v (.bool ((List.length ((hearA v a m).2.1) : Int) == 0)))], (agoeq10 v a m)⟩) (by kernel_rfl) (by kernel_rfl) ?_
  refine EL.ret ?_
  refine thenL_ret ?_
  refine ⟨.inr rfl, .v (.bool ((List.length ((hearA v a m).2.1) : Int) == 0)), by kernel_rfl, Ale.of_eq ?_⟩
  focus ((refine congrArg (fun b => AV.v (Value.bool b)) ?_; first | rfl | (have e9 := hear_zero (v := v) (a := a) (m := m) (by assumption); rw [e9.2]; rfl) | (have hg := goes (v := v) (a := a) (m := m) (by assumption); have hq9 := ask_ok hg.2.1; have hn9 := (msg_node hg.2.2.1).1; obtain ⟨⟨k1, k2, k3, k4, k5, k6⟩, _, _, k7, k8⟩ := hg; first | (exfalso; omega) | (exfalso; exact (by assumption : ¬ _ = _) k6) | (exfalso; exact absurd (by assumption) k3) | (have e9 := k7 (by omega); rw [e9]; rfl) | (have kk := k8 (by omega); obtain ⟨e1, e2, e3⟩ := kk; first | (exfalso; rw [e1] at *; simp_all; done) | (rcases Decidable.em (a.phase = 2) with hp2 | hp2 <;> first | (have ff := e2 hp2; obtain ⟨f1, f2⟩ := ff; first | (exfalso; omega) | (rw [f2]; simp [f1, strEq]; done) | (simp [f1, f2, strEq]; done) | (exfalso; simp only [f1] at *; simp_all; done) | (exfalso; simp only [f2] at *; simp_all [strEq]; done)) | (have ff := e3 hp2; obtain ⟨f1, f2, f3⟩ := ff; rcases (show a.kind = 1 ∨ a.kind = 2 by omega) with hk9 | hk9 <;> first | (have b5 := f2 hk9; first | (exfalso; omega) | (rw [f3, toAllM_len]; simp; done) | (exfalso; have hx9 := toAllM_get (n := v.weights.length) (m := ⟨3, a.op, 0, (hearA v a m).1.best⟩) (i := k) (by rw [← f3]; assumption); subst hx9; simp_all [strEq]; done) | (exfalso; rcases b5 with b5 | b5 <;> (simp only [b5] at *; simp_all [strEq]); done)) | (have ff := f1 hk9; obtain ⟨b1, b2, b3, b4⟩ := ff; first | (exfalso; exact absurd b1 (by assumption)) | (exfalso; exact absurd b2 (by assumption)) | (exfalso; exact absurd b3 (by assumption)) | (exfalso; omega) | (rw [f3, toAllM_len]; simp; done) | (exfalso; have hx9 := toAllM_get (n := v.weights.length) (m := ⟨3, a.op, 0, (hearA v a m).1.best⟩) (i := k) (by rw [← f3]; assumption); subst hx9; simp_all [strEq]; done)))))) | fail))
  rw [h9]
  have g9 : ¬ ((((hearA v a m).1).phase) = a.phase) := by simpa using h9
  refine EL.condF (by kernel_rfl) ?_
  refine EL.skip ?_
  refine thenL_norm ?_
  refine EL.sdraw ?_
  refine DW.run 8 (x' := ⟨(agoeq23 m a v), (agoeq10 v a m)⟩) (by kernel_rfl) ?_
  refine DW.ope (v := .v (.int .u64 (IntKind.u64.wrap (1 * 2 ^ (min (Int.toNat m.node) IntKind.u64.bits))))) (u := []) (acc := []) (x' := ⟨(88, .v (.int .u64 (IntKind.u64.wrap (1 * 2 ^ (min (Int.toNat m.node) IntKind.u64.bits))))) :: (agoeq23 m a v), (agoeq10 v a m)⟩) (by kernel_rfl) (opE_shl (.c (.v (.int .u64 1))) (.s 87) .u64 .i64 1 m.node (by kernel_rfl) (by kernel_rfl) (by kernel_rfl) (by kernel_rfl) (by have hg := goes (v := v) (a := a) (m := m) (by assumption); have hq9 := ask_ok hg.2.1; have hn9 := (msg_node hg.2.2.1).1; omega)) (by kernel_rfl) ?_
  have e10 : IntKind.u64.wrap (1 * 2 ^ (min (Int.toNat m.node) IntKind.u64.bits)) = ((2 ^ (Int.toNat m.node) : Nat) : Int) := shl1 (by have hg := goes (v := v) (a := a) (m := m) (by assumption); have hq9 := ask_ok hg.2.1; have hn9 := (msg_node hg.2.2.1).1; omega)
  rw [e10]
  refine DW.run 1 (x' := ⟨(89, .v (.int .u64 (bits .or .u64 (a.heard.n : Int) ((2 ^ (Int.toNat m.node) : Nat) : Int)))) :: (agoeq24 m a v), (agoeq10 v a m)⟩) (by kernel_rfl) ?_
  have e11 : bits .or .u64 (a.heard.n : Int) ((2 ^ (Int.toNat m.node) : Nat) : Int) = ((orU a.heard (Int.toNat m.node)).n : Int) := orU_bits (by have hg := goes (v := v) (a := a) (m := m) (by assumption); have hq9 := ask_ok hg.2.1; have hn9 := (msg_node hg.2.2.1).1; omega)
  rw [e11]
  clear e11
  refine DW.fn (ar := [.lst 1 (v.weights.map cI), VI v.need, .v (.int .u64 ((orU a.heard (Int.toNat m.node)).n : Int))]) (x' := ⟨(90, .tup [.v (.bool ((enoughP v.weights v.need (orU a.heard (Int.toNat m.node)).n).1)), VI ((enoughP v.weights v.need (orU a.heard (Int.toNat m.node)).n).2)]) :: (agoeq25 a m v), (agoeq10 v a m)⟩) (by kernel_rfl) (by kernel_rfl) F19_call (enough_fn v.weights v.need (orU a.heard (Int.toNat m.node)) hx) (by kernel_rfl) (by kernel_rfl) ?_
  refine DW.last 5 [3, 4, 5, 7, 8, 10, 11] (x' := ⟨(11, VI ((enoughP v.weights v.need (orU a.heard (Int.toNat m.node)).n).2)) :: (10, .v (.bool ((enoughP v.weights v.need (orU a.heard (Int.toNat m.node)).n).1))) :: (agoeq12 v a m), (agoeq10 v a m)⟩) (by kernel_rfl) (by kernel_rfl) ?_
  refine EL.seq ?_
  refine EL.sreg ?_
  refine OW.run 3 (x' := ⟨(95, .v (.bool (((enoughP v.weights v.need (orU a.heard (Int.toNat m.node)).n).2) != 0))) :: (94, .v (.bool (((enoughP v.weights v.need (orU a.heard (Int.toNat m.node)).n).2) != 0))) :: (93, VI ((enoughP v.weights v.need (orU a.heard (Int.toNat m.node)).n).2)) :: (11, VI ((enoughP v.weights v.need (orU a.heard (Int.toNat m.node)).n).2)) :: (10, .v (.bool ((enoughP v.weights v.need (orU a.heard (Int.toNat m.node)).n).1))) :: (agoeq12 v a m), (agoeq10 v a m)⟩) (by kernel_rfl) ?_
  rcases Bool.eq_false_or_eq_true ((((enoughP v.weights v.need (orU a.heard (Int.toNat m.node)).n).2) != 0)) with h12 | h12
  rw [h12]
  have g12 : ¬ (((enoughP v.weights v.need (orU a.heard (Int.toNat m.node)).n).2) = 0) := by simpa using h12
  refine OW.last 3 [3, 4, 5, 7, 8, 98] (x' := ⟨(98, .v (.bool true)) :: (agoeq12 v a m), (agoeq10 v a m)⟩) (by kernel_rfl) (by kernel_rfl) ?_
  refine EL.condT (by kernel_rfl) ?_
  refine EL.sreg ?_
  refine OW.last 1 [6] (x' := ⟨[(6, .v (.bool false))], (agoeq10 v a m)⟩) (by kernel_rfl) (by kernel_rfl) ?_
  refine EL.ret ?_
  refine thenL_ret ?_
  refine ⟨.inr rfl, .v (.bool false), by kernel_rfl, Ale.of_eq ?_⟩
  focus ((refine congrArg (fun b => AV.v (Value.bool b)) ?_; first | rfl | (have e9 := hear_zero (v := v) (a := a) (m := m) (by assumption); rw [e9.2]; rfl) | (have hg := goes (v := v) (a := a) (m := m) (by assumption); have hq9 := ask_ok hg.2.1; have hn9 := (msg_node hg.2.2.1).1; obtain ⟨⟨k1, k2, k3, k4, k5, k6⟩, _, _, k7, k8⟩ := hg; first | (exfalso; omega) | (exfalso; exact (by assumption : ¬ _ = _) k6) | (exfalso; exact absurd (by assumption) k3) | (have e9 := k7 (by omega); rw [e9]; rfl) | (have kk := k8 (by omega); obtain ⟨e1, e2, e3⟩ := kk; first | (exfalso; rw [e1] at *; simp_all; done) | (rcases Decidable.em (a.phase = 2) with hp2 | hp2 <;> first | (have ff := e2 hp2; obtain ⟨f1, f2⟩ := ff; first | (exfalso; omega) | (rw [f2]; simp [f1, strEq]; done) | (simp [f1, f2, strEq]; done) | (exfalso; simp only [f1] at *; simp_all; done) | (exfalso; simp only [f2] at *; simp_all [strEq]; done)) | (have ff := e3 hp2; obtain ⟨f1, f2, f3⟩ := ff; rcases (show a.kind = 1 ∨ a.kind = 2 by omega) with hk9 | hk9 <;> first | (have b5 := f2 hk9; first | (exfalso; omega) | (rw [f3, toAllM_len]; simp; done) | (exfalso; have hx9 := toAllM_get (n := v.weights.length) (m := ⟨3, a.op, 0, (hearA v a m).1.best⟩) (i := k) (by rw [← f3]; assumption); subst hx9; simp_all [strEq]; done) | (exfalso; rcases b5 with b5 | b5 <;> (simp only [b5] at *; simp_all [strEq]); done)) | (have ff := f1 hk9; obtain ⟨b1, b2, b3, b4⟩ := ff; first | (exfalso; exact absurd b1 (by assumption)) | (exfalso; exact absurd b2 (by assumption)) | (exfalso; exact absurd b3 (by assumption)) | (exfalso; omega) | (rw [f3, toAllM_len]; simp; done) | (exfalso; have hx9 := toAllM_get (n := v.weights.length) (m := ⟨3, a.op, 0, (hearA v a m).1.best⟩) (i := k) (by rw [← f3]; assumption); subst hx9; simp_all [strEq]; done)))))) | fail))
  rw [h12]
  have g12 : (((enoughP v.weights v.need (orU a.heard (Int.toNat m.node)).n).2) = 0) := by simpa using h12
  refine OW.last 3 [3, 4, 5, 7, 8, 98] (x' := ⟨(98, .v (.bool (!((enoughP v.weights v.need (orU a.heard (Int.toNat m.node)).n).1)))) :: (agoeq12 v a m), (agoeq10 v a m)⟩) (by kernel_rfl) (by kernel_rfl) ?_
  rcases Bool.eq_false_or_eq_true ((enoughP v.weights v.need (orU a.heard (Int.toNat m.node)).n).1) with h13 | h13
  rw [h13]
  refine EL.condF (by kernel_rfl) ?_
  refine EL.skip ?_
  refine thenL_norm ?_
  refine EL.seq ?_
  refine EL.sreg ?_
  refine OW.last 3 [3, 4, 5, 7, 8, 101] (x' := ⟨(101, .v (.bool (a.phase == 2))) :: (agoeq12 v a m), (agoeq10 v a m)⟩) (by kernel_rfl) (by kernel_rfl) ?_
  rcases Bool.eq_false_or_eq_true ((a.phase == 2)) with h14 | h14
  rw [h14]
  have g14 : (a.phase = 2) := by simpa using h14
  refine EL.condT (by kernel_rfl) ?_
  refine EL.sreg ?_
  refine OW.run 1 (x' := ⟨(agoeq26 v a m), (agoeq10 v a m)⟩) (by kernel_rfl) ?_
  refine OW.ope (v := VI (List.length ((hearA v a m).2.1) : Int)) (u := []) (acc := []) (x' := ⟨(agoeq27 v a m), (agoeq10 v a m)⟩) (by kernel_rfl) (opE_len Msg.cs ((hearA v a m).2.1) (.s 102) 6 (by kernel_rfl) (by kernel_rfl) (.inl rfl)) (by kernel_rfl) ?_
  refine OW.run 2 (x' := ⟨(105, .v (.bool ((List.length ((hearA v a m).2.1) : Int) == 0))) :: (104, .v (.bool ((List.length ((hearA v a m).2.1) : Int) == 0))) :: (agoeq27 v a m), (agoeq10 v a m)⟩) (by kernel_rfl) ?_
  rcases Bool.eq_false_or_eq_true (((List.length ((hearA v a m).2.1) : Int) == 0)) with h15 | h15
  rw [h15]
  have g15 : ((List.length ((hearA v a m).2.1) : Int) = 0) := by simpa using h15
  have n15 : ((List.length ((hearA v a m).2.1)) = 0) := by omega
  refine OW.last 7 [6] (x' := ⟨[(6, .v (.bool (((((((hearA v a m).1).best).at_).time) == a.best.at_.time) && (((((((hearA v a m).1).best).at_).who) == a.best.at_.who) && (strEq ((((hearA v a m).1).best).data) a.best.data && true)))))], (agoeq10 v a m)⟩) (by kernel_rfl) (by kernel_rfl) ?_
  refine EL.ret ?_
  refine thenL_ret ?_
  refine ⟨.inr rfl, .v (.bool (((((((hearA v a m).1).best).at_).time) == a.best.at_.time) && (((((((hearA v a m).1).best).at_).who) == a.best.at_.who) && (strEq ((((hearA v a m).1).best).data) a.best.data && true)))), by kernel_rfl, Ale.of_eq ?_⟩
  focus ((refine congrArg (fun b => AV.v (Value.bool b)) ?_; first | rfl | (have e9 := hear_zero (v := v) (a := a) (m := m) (by assumption); rw [e9.2]; rfl) | (have hg := goes (v := v) (a := a) (m := m) (by assumption); have hq9 := ask_ok hg.2.1; have hn9 := (msg_node hg.2.2.1).1; obtain ⟨⟨k1, k2, k3, k4, k5, k6⟩, _, _, k7, k8⟩ := hg; first | (exfalso; omega) | (exfalso; exact (by assumption : ¬ _ = _) k6) | (exfalso; exact absurd (by assumption) k3) | (have e9 := k7 (by omega); rw [e9]; rfl) | (have kk := k8 (by omega); obtain ⟨e1, e2, e3⟩ := kk; first | (exfalso; rw [e1] at *; simp_all; done) | (rcases Decidable.em (a.phase = 2) with hp2 | hp2 <;> first | (have ff := e2 hp2; obtain ⟨f1, f2⟩ := ff; first | (exfalso; omega) | (rw [f2]; simp [f1, strEq]; done) | (simp [f1, f2, strEq]; done) | (exfalso; simp only [f1] at *; simp_all; done) | (exfalso; simp only [f2] at *; simp_all [strEq]; done)) | (have ff := e3 hp2; obtain ⟨f1, f2, f3⟩ := ff; rcases (show a.kind = 1 ∨ a.kind = 2 by omega) with hk9 | hk9 <;> first | (have b5 := f2 hk9; first | (exfalso; omega) | (rw [f3, toAllM_len]; simp; done) | (exfalso; have hx9 := toAllM_get (n := v.weights.length) (m := ⟨3, a.op, 0, (hearA v a m).1.best⟩) (i := k) (by rw [← f3]; assumption); subst hx9; simp_all [strEq]; done) | (exfalso; rcases b5 with b5 | b5 <;> (simp only [b5] at *; simp_all [strEq]); done)) | (have ff := f1 hk9; obtain ⟨b1, b2, b3, b4⟩ := ff; first | (exfalso; exact absurd b1 (by assumption)) | (exfalso; exact absurd b2 (by assumption)) | (exfalso; exact absurd b3 (by assumption)) | (exfalso; omega) | (rw [f3, toAllM_len]; simp; done) | (exfalso; have hx9 := toAllM_get (n := v.weights.length) (m := ⟨3, a.op, 0, (hearA v a m).1.best⟩) (i := k) (by rw [← f3]; assumption); subst hx9; simp_all [strEq]; done)))))) | fail))
  rw [h15]
  have g15 : ¬ ((List.length ((hearA v a m).2.1) : Int) = 0) := by simpa using h15
  have n15 : ¬ ((List.length ((hearA v a m).2.1)) = 0) := by omega
  refine OW.last 7 [6] (x' := ⟨[(6, .v (.bool false))], (agoeq10 v a m)⟩) (by kernel_rfl) (by kernel_rfl) ?_
  refine EL.ret ?_
  refine thenL_ret ?_
  refine ⟨.inr rfl, .v (.bool false), by kernel_rfl, Ale.of_eq ?_⟩
  focus ((refine congrArg (fun b => AV.v (Value.bool b)) ?_; first | rfl | (have e9 := hear_zero (v := v) (a := a) (m := m) (by assumption); rw [e9.2]; rfl) | (have hg := goes (v := v) (a := a) (m := m) (by assumption); have hq9 := ask_ok hg.2.1; have hn9 := (msg_node hg.2.2.1).1; obtain ⟨⟨k1, k2, k3, k4, k5, k6⟩, _, _, k7, k8⟩ := hg; first | (exfalso; omega) | (exfalso; exact (by assumption : ¬ _ = _) k6) | (exfalso; exact absurd (by assumption) k3) | (have e9 := k7 (by omega); rw [e9]; rfl) | (have kk := k8 (by omega); obtain ⟨e1, e2, e3⟩ := kk; first | (exfalso; rw [e1] at *; simp_all; done) | (rcases Decidable.em (a.phase = 2) with hp2 | hp2 <;> first | (have ff := e2 hp2; obtain ⟨f1, f2⟩ := ff; first | (exfalso; omega) | (rw [f2]; simp [f1, strEq]; done) | (simp [f1, f2, strEq]; done) | (exfalso; simp only [f1] at *; simp_all; done) | (exfalso; simp only [f2] at *; simp_all [strEq]; done)) | (have ff := e3 hp2; obtain ⟨f1, f2, f3⟩ := ff; rcases (show a.kind = 1 ∨ a.kind = 2 by omega) with hk9 | hk9 <;> first | (have b5 := f2 hk9; first | (exfalso; omega) | (rw [f3, toAllM_len]; simp; done) | (exfalso; have hx9 := toAllM_get (n := v.weights.length) (m := ⟨3, a.op, 0, (hearA v a m).1.best⟩) (i := k) (by rw [← f3]; assumption); subst hx9; simp_all [strEq]; done) | (exfalso; rcases b5 with b5 | b5 <;> (simp only [b5] at *; simp_all [strEq]); done)) | (have ff := f1 hk9; obtain ⟨b1, b2, b3, b4⟩ := ff; first | (exfalso; exact absurd b1 (by assumption)) | (exfalso; exact absurd b2 (by assumption)) | (exfalso; exact absurd b3 (by assumption)) | (exfalso; omega) | (rw [f3, toAllM_len]; simp; done) | (exfalso; have hx9 := toAllM_get (n := v.weights.length) (m := ⟨3, a.op, 0, (hearA v a m).1.best⟩) (i := k) (by rw [← f3]; assumption); subst hx9; simp_all [strEq]; done)))))) | fail))
  rw [h14]
  have g14 : ¬ (a.phase = 2) := by simpa using h14
  refine EL.condF (by kernel_rfl) ?_
  refine EL.skip ?_
  refine thenL_norm ?_
  refine EL.seq ?_
  refine EL.sreg ?_
  refine OW.run 4 (x' := ⟨(115, .v (.bool (a.kind == 2))) :: (114, .v (.bool (a.kind == 2))) :: (agoeq28 a v m), (agoeq10 v a m)⟩) (by kernel_rfl) ?_
  rcases Bool.eq_false_or_eq_true ((a.kind == 2)) with h16 | h16
  rw [h16]
  have g16 : (a.kind = 2) := by simpa using h16
  refine OW.run 6 (x' := ⟨(agoeq29 v a m), (agoeq10 v a m)⟩) (by kernel_rfl) ?_
  refine OW.fn (ar := [.agg [VI a.best.at_.time, VI a.best.at_.who], (agoeq17 v a m)]) (x' := ⟨(122, .v (.bool (decide (a.best.at_.lt ((((hearA v a m).1).best).at_))))) :: (agoeq29 v a m), (agoeq10 v a m)⟩) (by kernel_rfl) (by kernel_rfl) F18_call (less_fn a.best.at_ ((((hearA v a m).1).best).at_)) (by kernel_rfl) (by kernel_rfl) ?_
  refine OW.run 2 (x' := ⟨(124, .v (.bool (!(decide (a.best.at_.lt ((((hearA v a m).1).best).at_)))))) :: (123, .v (.bool (!(decide (a.best.at_.lt ((((hearA v a m).1).best).at_)))))) :: (122, .v (.bool (decide (a.best.at_.lt ((((hearA v a m).1).best).at_))))) :: (agoeq29 v a m), (agoeq10 v a m)⟩) (by kernel_rfl) ?_
  rcases Bool.eq_false_or_eq_true (decide (a.best.at_.lt ((((hearA v a m).1).best).at_))) with h17 | h17
  rw [h17]
  have g17 : (a.best.at_.lt ((((hearA v a m).1).best).at_)) := of_decide_eq_true h17
  refine OW.run 6 (x' := ⟨(agoeq30 v a m), (agoeq10 v a m)⟩) (by kernel_rfl) ?_
  refine OW.fn (ar := [.agg [VI m.copy.at_.time, VI m.copy.at_.who], (agoeq17 v a m)]) (x' := ⟨(131, .v (.bool (decide (m.copy.at_.lt ((((hearA v a m).1).best).at_))))) :: (agoeq30 v a m), (agoeq10 v a m)⟩) (by kernel_rfl) (by kernel_rfl) F18_call (less_fn m.copy.at_ ((((hearA v a m).1).best).at_)) (by kernel_rfl) (by kernel_rfl) ?_
  refine OW.run 3 (x' := ⟨(134, .v (.bool (!(decide (m.copy.at_.lt ((((hearA v a m).1).best).at_)))))) :: (133, .v (.bool (!(decide (m.copy.at_.lt ((((hearA v a m).1).best).at_)))))) :: (132, .v (.bool (!(decide (m.copy.at_.lt ((((hearA v a m).1).best).at_)))))) :: (131, .v (.bool (decide (m.copy.at_.lt ((((hearA v a m).1).best).at_))))) :: (agoeq30 v a m), (agoeq10 v a m)⟩) (by kernel_rfl) ?_
  rcases Bool.eq_false_or_eq_true (decide (m.copy.at_.lt ((((hearA v a m).1).best).at_))) with h18 | h18
  rw [h18]
  have g18 : (m.copy.at_.lt ((((hearA v a m).1).best).at_)) := of_decide_eq_true h18
  refine OW.run 8 (x' := ⟨(142, .v (.bool (!(strEq ((((hearA v a m).1).best).data) a.data)))) :: (141, .v (.bool (!(strEq ((((hearA v a m).1).best).data) a.data)))) :: (140, .v (.bool (!(strEq ((((hearA v a m).1).best).data) a.data)))) :: (agoeq31 a v m), (agoeq10 v a m)⟩) (by kernel_rfl) ?_
  rcases Bool.eq_false_or_eq_true (strEq ((((hearA v a m).1).best).data) a.data) with h19 | h19
  rw [h19]
  have g19 : (((((hearA v a m).1).best).data) = a.data) := strEq_iff.1 h19
  refine OW.last 9 [3, 4, 5, 7, 8, 151] (x' := ⟨(151, .v (.bool ((((((hearA v a m).1).best).at_).who) != a.op))) :: (agoeq12 v a m), (agoeq10 v a m)⟩) (by kernel_rfl) (by kernel_rfl) ?_
  rcases Bool.eq_false_or_eq_true (((((((hearA v a m).1).best).at_).who) != a.op)) with h20 | h20
  rw [h20]
  have g20 : ¬ ((((((hearA v a m).1).best).at_).who) = a.op) := by simpa using h20
  refine EL.condT (by kernel_rfl) ?_
  refine EL.sreg ?_
  refine OW.last 1 [6] (x' := ⟨[(6, .v (.bool false))], (agoeq10 v a m)⟩) (by kernel_rfl) (by kernel_rfl) ?_
  refine EL.ret ?_
  refine thenL_ret ?_
  refine ⟨.inr rfl, .v (.bool false), by kernel_rfl, Ale.of_eq ?_⟩
  focus ((refine congrArg (fun b => AV.v (Value.bool b)) ?_; first | rfl | (have e9 := hear_zero (v := v) (a := a) (m := m) (by assumption); rw [e9.2]; rfl) | (have hg := goes (v := v) (a := a) (m := m) (by assumption); have hq9 := ask_ok hg.2.1; have hn9 := (msg_node hg.2.2.1).1; obtain ⟨⟨k1, k2, k3, k4, k5, k6⟩, _, _, k7, k8⟩ := hg; first | (exfalso; omega) | (exfalso; exact (by assumption : ¬ _ = _) k6) | (exfalso; exact absurd (by assumption) k3) | (have e9 := k7 (by omega); rw [e9]; rfl) | (have kk := k8 (by omega); obtain ⟨e1, e2, e3⟩ := kk; first | (exfalso; rw [e1] at *; simp_all; done) | (rcases Decidable.em (a.phase = 2) with hp2 | hp2 <;> first | (have ff := e2 hp2; obtain ⟨f1, f2⟩ := ff; first | (exfalso; omega) | (rw [f2]; simp [f1, strEq]; done) | (simp [f1, f2, strEq]; done) | (exfalso; simp only [f1] at *; simp_all; done) | (exfalso; simp only [f2] at *; simp_all [strEq]; done)) | (have ff := e3 hp2; obtain ⟨f1, f2, f3⟩ := ff; rcases (show a.kind = 1 ∨ a.kind = 2 by omega) with hk9 | hk9 <;> first | (have b5 := f2 hk9; first | (exfalso; omega) | (rw [f3, toAllM_len]; simp; done) | (exfalso; have hx9 := toAllM_get (n := v.weights.length) (m := ⟨3, a.op, 0, (hearA v a m).1.best⟩) (i := k) (by rw [← f3]; assumption); subst hx9; simp_all [strEq]; done) | (exfalso; rcases b5 with b5 | b5 <;> (simp only [b5] at *; simp_all [strEq]); done)) | (have ff := f1 hk9; obtain ⟨b1, b2, b3, b4⟩ := ff; first | (exfalso; exact absurd b1 (by assumption)) | (exfalso; exact absurd b2 (by assumption)) | (exfalso; exact absurd b3 (by assumption)) | (exfalso; omega) | (rw [f3, toAllM_len]; simp; done) | (exfalso; have hx9 := toAllM_get (n := v.weights.length) (m := ⟨3, a.op, 0, (hearA v a m).1.best⟩) (i := k) (by rw [← f3]; assumption); subst hx9; simp_all [strEq]; done)))))) | fail))
  rw [h20]
  have g20 : ((((((hearA v a m).1).best).at_).who) = a.op) := by simpa using h20
  refine EL.condF (by kernel_rfl) ?_
  refine EL.skip ?_
  refine thenL_norm ?_
  refine EL.seq ?_
  refine EL.sreg ?_
  refine OW.run 4 (x' := ⟨(155, .v (.bool (a.kind == 1))) :: (154, .v (.bool (a.kind == 1))) :: (agoeq32 a v m), (agoeq10 v a m)⟩) (by kernel_rfl) ?_
  rcases Bool.eq_false_or_eq_true ((a.kind == 1)) with h21 | h21
  rw [h21]
  have g21 : (a.kind = 1) := by simpa using h21
  refine OW.run 7 (x' := ⟨(162, .v (.bool (!(((((((hearA v a m).1).best).at_).time) == a.best.at_.time) && (((((((hearA v a m).1).best).at_).who) == a.best.at_.who) && (strEq ((((hearA v a m).1).best).data) a.best.data && true)))))) :: (161, .v (.bool (!(((((((hearA v a m).1).best).at_).time) == a.best.at_.time) && (((((((hearA v a m).1).best).at_).who) == a.best.at_.who) && (strEq ((((hearA v a m).1).best).data) a.best.data && true)))))) :: (160, .v (.bool (!(((((((hearA v a m).1).best).at_).time) == a.best.at_.time) && (((((((hearA v a m).1).best).at_).who) == a.best.at_.who) && (strEq ((((hearA v a m).1).best).data) a.best.data && true)))))) :: (agoeq35 a v m), (agoeq10 v a m)⟩) (by kernel_rfl) ?_
  rcases Bool.eq_false_or_eq_true ((((((((hearA v a m).1).best).at_).time) == a.best.at_.time) && (((((((hearA v a m).1).best).at_).who) == a.best.at_.who) && (strEq ((((hearA v a m).1).best).data) a.best.data && true)))) with h22 | h22
  rw [h22]
  refine OW.last 6 [3, 4, 7, 8, 168] (x' := ⟨(agoeq36 v a m), (agoeq10 v a m)⟩) (by kernel_rfl) (by kernel_rfl) ?_
  refine EL.condF (by kernel_rfl) ?_
  refine EL.skip ?_
  refine thenL_norm ?_
  refine EL.seq ?_
  refine EL.sreg ?_
  refine OW.last 1 [3, 4, 7, 8, 12] (x' := ⟨(agoeq37 v a m), (agoeq10 v a m)⟩) (by kernel_rfl) (by kernel_rfl) ?_
  refine EL.block ?_
  refine EL.loopN (fun mM xX => ∃ (k : Nat), mM = (hearA v a m).2.1.length - k ∧ (k ≤ (hearA v a m).2.1.length) ∧ xX = ⟨(agoeq39 v a m k), (agoeq38 v a m)⟩) (y := (fun (k : Nat) => (⟨(agoeq39 v a m k), (agoeq38 v a m)⟩ : L3)) 0) [3, 4, 7, 8, 12] [.old 0 false, .old 1 false, .old 3 false] [] (by kernel_rfl) trivial ⟨0, rfl, by omega, rfl⟩ ?_
  rintro _ _ ⟨k, rfl, hI23, rfl⟩
  have hk := hI23
  have hla := hearA_len v a m
  refine EL.seq ?_
  refine EL.sreg ?_
  refine OW.run 2 (x' := ⟨(agoeq40 v a m k), (agoeq38 v a m)⟩) (by kernel_rfl) ?_
  refine OW.ope (v := VI (List.length ((hearA v a m).2.1) : Int)) (u := []) (acc := []) (x' := ⟨(agoeq41 v a m k), (agoeq38 v a m)⟩) (by kernel_rfl) (opE_len Msg.cs ((hearA v a m).2.1) (.s 170) 6 (by kernel_rfl) (by kernel_rfl) (.inl rfl)) (by kernel_rfl) ?_
  refine OW.last 1 [3, 4, 7, 8, 12, 172] (x' := ⟨(172, .v (.bool (decide ((k : Int) < (List.length ((hearA v a m).2.1) : Int))))) :: (agoeq39 v a m k), (agoeq38 v a m)⟩) (by kernel_rfl) (by kernel_rfl) ?_
  rcases Bool.eq_false_or_eq_true (decide ((k : Int) < (List.length ((hearA v a m).2.1) : Int))) with h24 | h24
  rw [h24]
  have g24 : ((k : Int) < (List.length ((hearA v a m).2.1) : Int)) := of_decide_eq_true h24
  have n24 : ((k) < (List.length ((hearA v a m).2.1))) := by omega
  refine EL.condT (by kernel_rfl) ?_
  refine EL.skip ?_
  refine thenL_norm ?_
  refine EL.seq ?_
  refine EL.block ?_
  refine EL.sdraw ?_
  refine DW.run 2 (x' := ⟨(agoeq42 k v a m), (agoeq38 v a m)⟩) (by kernel_rfl) ?_
  obtain ⟨a26, ha26⟩ : ∃ y, ((hearA v a m).2.1)[((k : Int) : Int).toNat]? = some y := idx_ex ⟨by omega, by omega⟩
  have iha26 : ((hearA v a m).2.1)[k]? = some a26 := by simpa using ha26
  have dha26 := drop_get iha26
  refine DW.ope (v := .pim [VI a26.kind, VI a26.op, VI a26.node, VI a26.copy.at_.time, VI a26.copy.at_.who, .v (.string a26.copy.data)] 0) (u := []) (acc := []) (x' := ⟨(agoeq43 a26 k v a m), (agoeq38 v a m)⟩) (by kernel_rfl) (opE_iad Msg.cs ((hearA v a m).2.1) (.s 175) (.s 176) 6 .i64 (k : Int) a26 (by kernel_rfl) (by kernel_rfl) (.inl rfl) rfl (by omega) ha26) (by kernel_rfl) ?_
  refine DW.last 8 [3, 4, 7, 8, 12, 185] (x' := ⟨(185, .v (.bool (!((a26.kind == 3) && ((a26.op == a.op) && ((a26.node == (k : Int)) && ((a26.copy.at_.time == ((((hearA v a m).1).best).at_).time) && ((a26.copy.at_.who == ((((hearA v a m).1).best).at_).who) && (strEq a26.copy.data ((((hearA v a m).1).best).data) && true))))))))) :: (agoeq39 v a m k), (agoeq38 v a m)⟩) (by kernel_rfl) (by kernel_rfl) ?_
  rcases Bool.eq_false_or_eq_true (((a26.kind == 3) && ((a26.op == a.op) && ((a26.node == (k : Int)) && ((a26.copy.at_.time == ((((hearA v a m).1).best).at_).time) && ((a26.copy.at_.who == ((((hearA v a m).1).best).at_).who) && (strEq a26.copy.data ((((hearA v a m).1).best).data) && true))))))) with h27 | h27
  rw [h27]
  refine EL.condF (by kernel_rfl) ?_
  refine EL.skip ?_
  refine inBlk_norm ?_
  refine thenL_norm ?_
  refine EL.reg0 ?_
  refine OW.run 3 (x' := ⟨(12, VI (IntKind.i64.wrap ((k : Int) + 1))) :: (174, VI (IntKind.i64.wrap ((k : Int) + 1))) :: (agoeq44 k v a m), (agoeq38 v a m)⟩) (by kernel_rfl) ?_
  have e28 : IntKind.i64.wrap ((k : Int) + 1) = (k : Int) + 1 := wr64 (by omega)
  rw [e28]
  refine OW.end 0 (x' := ⟨(agoeq45 k v a m), (agoeq38 v a m)⟩) (by kernel_rfl) (by kernel_rfl) ?_
  refine thenL_norm ?_
  refine round_end (live := [3, 4, 7, 8, 12]) (src := [.old 0 false, .old 1 false, .old 2 false]) (es := []) (y := (fun (k : Nat) => (⟨(agoeq39 v a m k), (agoeq38 v a m)⟩ : L3)) (k + 1)) ?_ trivial ?_ ⟨(k + 1), rfl, ?_, rfl⟩
  kernel_rfl
  omega
  focus (omega)
  rw [h27]
  refine EL.condT (by kernel_rfl) ?_
  refine EL.sreg ?_
  refine OW.last 1 [6] (x' := ⟨[(6, .v (.bool false))], (agoeq38 v a m)⟩) (by kernel_rfl) (by kernel_rfl) ?_
  refine EL.ret ?_
  refine inBlk_ret ?_
  refine thenL_ret ?_
  refine thenL_ret ?_
  refine inBlk_ret ?_
  refine thenL_ret ?_
  refine ⟨.inr rfl, .v (.bool false), by kernel_rfl, Ale.of_eq ?_⟩
  focus ((refine congrArg (fun b => AV.v (Value.bool b)) ?_; first | rfl | (have e9 := hear_zero (v := v) (a := a) (m := m) (by assumption); rw [e9.2]; rfl) | (have hg := goes (v := v) (a := a) (m := m) (by assumption); have hq9 := ask_ok hg.2.1; have hn9 := (msg_node hg.2.2.1).1; obtain ⟨⟨k1, k2, k3, k4, k5, k6⟩, _, _, k7, k8⟩ := hg; first | (exfalso; omega) | (exfalso; exact (by assumption : ¬ _ = _) k6) | (exfalso; exact absurd (by assumption) k3) | (have e9 := k7 (by omega); rw [e9]; rfl) | (have kk := k8 (by omega); obtain ⟨e1, e2, e3⟩ := kk; first | (exfalso; rw [e1] at *; simp_all; done) | (rcases Decidable.em (a.phase = 2) with hp2 | hp2 <;> first | (have ff := e2 hp2; obtain ⟨f1, f2⟩ := ff; first | (exfalso; omega) | (rw [f2]; simp [f1, strEq]; done) | (simp [f1, f2, strEq]; done) | (exfalso; simp only [f1] at *; simp_all; done) | (exfalso; simp only [f2] at *; simp_all [strEq]; done)) | (have ff := e3 hp2; obtain ⟨f1, f2, f3⟩ := ff; rcases (show a.kind = 1 ∨ a.kind = 2 by omega) with hk9 | hk9 <;> first | (have b5 := f2 hk9; first | (exfalso; omega) | (rw [f3, toAllM_len]; simp; done) | (exfalso; have hx9 := toAllM_get (n := v.weights.length) (m := ⟨3, a.op, 0, (hearA v a m).1.best⟩) (i := k) (by rw [← f3]; assumption); subst hx9; simp_all [strEq]; done) | (exfalso; rcases b5 with b5 | b5 <;> (simp only [b5] at *; simp_all [strEq]); done)) | (have ff := f1 hk9; obtain ⟨b1, b2, b3, b4⟩ := ff; first | (exfalso; exact absurd b1 (by assumption)) | (exfalso; exact absurd b2 (by assumption)) | (exfalso; exact absurd b3 (by assumption)) | (exfalso; omega) | (rw [f3, toAllM_len]; simp; done) | (exfalso; have hx9 := toAllM_get (n := v.weights.length) (m := ⟨3, a.op, 0, (hearA v a m).1.best⟩) (i := k) (by rw [← f3]; assumption); subst hx9; simp_all [strEq]; done)))))) | fail))
  rw [h24]
  have g24 : ¬ ((k : Int) < (List.length ((hearA v a m).2.1) : Int)) := of_decide_eq_false h24
  have n24 : ¬ ((k) < (List.length ((hearA v a m).2.1))) := by omega
  refine EL.condF (by kernel_rfl) ?_
  refine EL.exit ?_
  refine thenL_exit ?_
  refine thenL_exit ?_
  refine inBlk_hit ?_
  refine thenL_norm ?_
  refine EL.sreg ?_
  refine OW.run 1 (x' := ⟨(agoeq46 v a m k), (agoeq38 v a m)⟩) (by kernel_rfl) ?_
  refine OW.ope (v := VI (List.length ((hearA v a m).2.1) : Int)) (u := []) (acc := []) (x' := ⟨(agoeq47 v a m k), (agoeq38 v a m)⟩) (by kernel_rfl) (opE_len Msg.cs ((hearA v a m).2.1) (.s 186) 6 (by kernel_rfl) (by kernel_rfl) (.inl rfl)) (by kernel_rfl) ?_
  refine OW.run 2 (x' := ⟨(agoeq48 v a m k), (agoeq38 v a m)⟩) (by kernel_rfl) ?_
  refine OW.ope (v := VI (List.length v.weights : Int)) (u := []) (acc := []) (x' := ⟨(190, VI (List.length v.weights : Int)) :: (agoeq48 v a m k), (agoeq38 v a m)⟩) (by kernel_rfl) (opE_len cI v.weights (.s 189) 1 (by kernel_rfl) (by kernel_rfl) (.inl rfl)) (by kernel_rfl) ?_
  refine OW.last 2 [6] (x' := ⟨[(6, .v (.bool ((List.length ((hearA v a m).2.1) : Int) == (List.length v.weights : Int))))], (agoeq38 v a m)⟩) (by kernel_rfl) (by kernel_rfl) ?_
  refine EL.ret ?_
  refine ⟨.inr rfl, .v (.bool ((List.length ((hearA v a m).2.1) : Int) == (List.length v.weights : Int))), by kernel_rfl, Ale.of_eq ?_⟩
  focus ((refine congrArg (fun b => AV.v (Value.bool b)) ?_; first | rfl | (have e9 := hear_zero (v := v) (a := a) (m := m) (by assumption); rw [e9.2]; rfl) | (have hg := goes (v := v) (a := a) (m := m) (by assumption); have hq9 := ask_ok hg.2.1; have hn9 := (msg_node hg.2.2.1).1; obtain ⟨⟨k1, k2, k3, k4, k5, k6⟩, _, _, k7, k8⟩ := hg; first | (exfalso; omega) | (exfalso; exact (by assumption : ¬ _ = _) k6) | (exfalso; exact absurd (by assumption) k3) | (have e9 := k7 (by omega); rw [e9]; rfl) | (have kk := k8 (by omega); obtain ⟨e1, e2, e3⟩ := kk; first | (exfalso; rw [e1] at *; simp_all; done) | (rcases Decidable.em (a.phase = 2) with hp2 | hp2 <;> first | (have ff := e2 hp2; obtain ⟨f1, f2⟩ := ff; first | (exfalso; omega) | (rw [f2]; simp [f1, strEq]; done) | (simp [f1, f2, strEq]; done) | (exfalso; simp only [f1] at *; simp_all; done) | (exfalso; simp only [f2] at *; simp_all [strEq]; done)) | (have ff := e3 hp2; obtain ⟨f1, f2, f3⟩ := ff; rcases (show a.kind = 1 ∨ a.kind = 2 by omega) with hk9 | hk9 <;> first | (have b5 := f2 hk9; first | (exfalso; omega) | (rw [f3, toAllM_len]; simp; done) | (exfalso; have hx9 := toAllM_get (n := v.weights.length) (m := ⟨3, a.op, 0, (hearA v a m).1.best⟩) (i := k) (by rw [← f3]; assumption); subst hx9; simp_all [strEq]; done) | (exfalso; rcases b5 with b5 | b5 <;> (simp only [b5] at *; simp_all [strEq]); done)) | (have ff := f1 hk9; obtain ⟨b1, b2, b3, b4⟩ := ff; first | (exfalso; exact absurd b1 (by assumption)) | (exfalso; exact absurd b2 (by assumption)) | (exfalso; exact absurd b3 (by assumption)) | (exfalso; omega) | (rw [f3, toAllM_len]; simp; done) | (exfalso; have hx9 := toAllM_get (n := v.weights.length) (m := ⟨3, a.op, 0, (hearA v a m).1.best⟩) (i := k) (by rw [← f3]; assumption); subst hx9; simp_all [strEq]; done)))))) | fail))
  rw [h22]
  refine OW.last 6 [3, 4, 7, 8, 168] (x' := ⟨(168, .v (.bool (!(((((((hearA v a m).1).best).at_).time) == m.copy.at_.time) && (((((((hearA v a m).1).best).at_).who) == m.copy.at_.who) && (strEq ((((hearA v a m).1).best).data) m.copy.data && true)))))) :: (agoeq49 v a m), (agoeq10 v a m)⟩) (by kernel_rfl) (by kernel_rfl) ?_
  rcases Bool.eq_false_or_eq_true ((((((((hearA v a m).1).best).at_).time) == m.copy.at_.time) && (((((((hearA v a m).1).best).at_).who) == m.copy.at_.who) && (strEq ((((hearA v a m).1).best).data) m.copy.data && true)))) with h29 | h29
  rw [h29]
  refine EL.condF (by kernel_rfl) ?_
  refine EL.skip ?_
  refine thenL_norm ?_
  refine EL.seq ?_
  refine EL.sreg ?_
  refine OW.last 1 [3, 4, 7, 8, 12] (x' := ⟨(agoeq37 v a m), (agoeq10 v a m)⟩) (by kernel_rfl) (by kernel_rfl) ?_
  refine EL.block ?_
  refine EL.loopN (fun mM xX => ∃ (k : Nat), mM = (hearA v a m).2.1.length - k ∧ (k ≤ (hearA v a m).2.1.length) ∧ xX = ⟨(agoeq39 v a m k), (agoeq38 v a m)⟩) (y := (fun (k : Nat) => (⟨(agoeq39 v a m k), (agoeq38 v a m)⟩ : L3)) 0) [3, 4, 7, 8, 12] [.old 0 false, .old 1 false, .old 3 false] [] (by kernel_rfl) trivial ⟨0, rfl, by omega, rfl⟩ ?_
  rintro _ _ ⟨k, rfl, hI30, rfl⟩
  have hk := hI30
  have hla := hearA_len v a m
  refine EL.seq ?_
  refine EL.sreg ?_
  refine OW.run 2 (x' := ⟨(agoeq40 v a m k), (agoeq38 v a m)⟩) (by kernel_rfl) ?_
  refine OW.ope (v := VI (List.length ((hearA v a m).2.1) : Int)) (u := []) (acc := []) (x' := ⟨(agoeq41 v a m k), (agoeq38 v a m)⟩) (by kernel_rfl) (opE_len Msg.cs ((hearA v a m).2.1) (.s 170) 6 (by kernel_rfl) (by kernel_rfl) (.inl rfl)) (by kernel_rfl) ?_
  refine OW.last 1 [3, 4, 7, 8, 12, 172] (x' := ⟨(172, .v (.bool (decide ((k : Int) < (List.length ((hearA v a m).2.1) : Int))))) :: (agoeq39 v a m k), (agoeq38 v a m)⟩) (by kernel_rfl) (by kernel_rfl) ?_
  rcases Bool.eq_false_or_eq_true (decide ((k : Int) < (List.length ((hearA v a m).2.1) : Int))) with h31 | h31
  rw [h31]
  have g31 : ((k : Int) < (List.length ((hearA v a m).2.1) : Int)) := of_decide_eq_true h31
  have n31 : ((k) < (List.length ((hearA v a m).2.1))) := by omega
  refine EL.condT (by kernel_rfl) ?_
  refine EL.skip ?_
  refine thenL_norm ?_
  refine EL.seq ?_
  refine EL.block ?_
  refine EL.sdraw ?_
  refine DW.run 2 (x' := ⟨(agoeq42 k v a m), (agoeq38 v a m)⟩) (by kernel_rfl) ?_
  obtain ⟨a33, ha33⟩ : ∃ y, ((hearA v a m).2.1)[((k : Int) : Int).toNat]? = some y := idx_ex ⟨by omega, by omega⟩
  have iha33 : ((hearA v a m).2.1)[k]? = some a33 := by simpa using ha33
  have dha33 := drop_get iha33
  refine DW.ope (v := .pim [VI a33.kind, VI a33.op, VI a33.node, VI a33.copy.at_.time, VI a33.copy.at_.who, .v (.string a33.copy.data)] 0) (u := []) (acc := []) (x' := ⟨(agoeq50 a33 k v a m), (agoeq38 v a m)⟩) (by kernel_rfl) (opE_iad Msg.cs ((hearA v a m).2.1) (.s 175) (.s 176) 6 .i64 (k : Int) a33 (by kernel_rfl) (by kernel_rfl) (.inl rfl) rfl (by omega) ha33) (by kernel_rfl) ?_
  refine DW.last 8 [3, 4, 7, 8, 12, 185] (x' := ⟨(185, .v (.bool (!((a33.kind == 3) && ((a33.op == a.op) && ((a33.node == (k : Int)) && ((a33.copy.at_.time == ((((hearA v a m).1).best).at_).time) && ((a33.copy.at_.who == ((((hearA v a m).1).best).at_).who) && (strEq a33.copy.data ((((hearA v a m).1).best).data) && true))))))))) :: (agoeq39 v a m k), (agoeq38 v a m)⟩) (by kernel_rfl) (by kernel_rfl) ?_
  rcases Bool.eq_false_or_eq_true (((a33.kind == 3) && ((a33.op == a.op) && ((a33.node == (k : Int)) && ((a33.copy.at_.time == ((((hearA v a m).1).best).at_).time) && ((a33.copy.at_.who == ((((hearA v a m).1).best).at_).who) && (strEq a33.copy.data ((((hearA v a m).1).best).data) && true))))))) with h34 | h34
  rw [h34]
  refine EL.condF (by kernel_rfl) ?_
  refine EL.skip ?_
  refine inBlk_norm ?_
  refine thenL_norm ?_
  refine EL.reg0 ?_
  refine OW.run 3 (x' := ⟨(12, VI (IntKind.i64.wrap ((k : Int) + 1))) :: (174, VI (IntKind.i64.wrap ((k : Int) + 1))) :: (agoeq44 k v a m), (agoeq38 v a m)⟩) (by kernel_rfl) ?_
  have e35 : IntKind.i64.wrap ((k : Int) + 1) = (k : Int) + 1 := wr64 (by omega)
  rw [e35]
  refine OW.end 0 (x' := ⟨(agoeq45 k v a m), (agoeq38 v a m)⟩) (by kernel_rfl) (by kernel_rfl) ?_
  refine thenL_norm ?_
  refine round_end (live := [3, 4, 7, 8, 12]) (src := [.old 0 false, .old 1 false, .old 2 false]) (es := []) (y := (fun (k : Nat) => (⟨(agoeq39 v a m k), (agoeq38 v a m)⟩ : L3)) (k + 1)) ?_ trivial ?_ ⟨(k + 1), rfl, ?_, rfl⟩
  kernel_rfl
  omega
  focus (omega)
  rw [h34]
  refine EL.condT (by kernel_rfl) ?_
  refine EL.sreg ?_
  refine OW.last 1 [6] (x' := ⟨[(6, .v (.bool false))], (agoeq38 v a m)⟩) (by kernel_rfl) (by kernel_rfl) ?_
  refine EL.ret ?_
  refine inBlk_ret ?_
  refine thenL_ret ?_
  refine thenL_ret ?_
  refine inBlk_ret ?_
  refine thenL_ret ?_
  refine ⟨.inr rfl, .v (.bool false), by kernel_rfl, Ale.of_eq ?_⟩
  focus ((refine congrArg (fun b => AV.v (Value.bool b)) ?_; first | rfl | (have e9 := hear_zero (v := v) (a := a) (m := m) (by assumption); rw [e9.2]; rfl) | (have hg := goes (v := v) (a := a) (m := m) (by assumption); have hq9 := ask_ok hg.2.1; have hn9 := (msg_node hg.2.2.1).1; obtain ⟨⟨k1, k2, k3, k4, k5, k6⟩, _, _, k7, k8⟩ := hg; first | (exfalso; omega) | (exfalso; exact (by assumption : ¬ _ = _) k6) | (exfalso; exact absurd (by assumption) k3) | (have e9 := k7 (by omega); rw [e9]; rfl) | (have kk := k8 (by omega); obtain ⟨e1, e2, e3⟩ := kk; first | (exfalso; rw [e1] at *; simp_all; done) | (rcases Decidable.em (a.phase = 2) with hp2 | hp2 <;> first | (have ff := e2 hp2; obtain ⟨f1, f2⟩ := ff; first | (exfalso; omega) | (rw [f2]; simp [f1, strEq]; done) | (simp [f1, f2, strEq]; done) | (exfalso; simp only [f1] at *; simp_all; done) | (exfalso; simp only [f2] at *; simp_all [strEq]; done)) | (have ff := e3 hp2; obtain ⟨f1, f2, f3⟩ := ff; rcases (show a.kind = 1 ∨ a.kind = 2 by omega) with hk9 | hk9 <;> first | (have b5 := f2 hk9; first | (exfalso; omega) | (rw [f3, toAllM_len]; simp; done) | (exfalso; have hx9 := toAllM_get (n := v.weights.length) (m := ⟨3, a.op, 0, (hearA v a m).1.best⟩) (i := k) (by rw [← f3]; assumption); subst hx9; simp_all [strEq]; done) | (exfalso; rcases b5 with b5 | b5 <;> (simp only [b5] at *; simp_all [strEq]); done)) | (have ff := f1 hk9; obtain ⟨b1, b2, b3, b4⟩ := ff; first | (exfalso; exact absurd b1 (by assumption)) | (exfalso; exact absurd b2 (by assumption)) | (exfalso; exact absurd b3 (by assumption)) | (exfalso; omega) | (rw [f3, toAllM_len]; simp; done) | (exfalso; have hx9 := toAllM_get (n := v.weights.length) (m := ⟨3, a.op, 0, (hearA v a m).1.best⟩) (i := k) (by rw [← f3]; assumption); subst hx9; simp_all [strEq]; done)))))) | fail))
  rw [h31]
  have g31 : ¬ ((k : Int) < (List.length ((hearA v a m).2.1) : Int)) := of_decide_eq_false h31
  have n31 : ¬ ((k) < (List.length ((hearA v a m).2.1))) := by omega
  refine EL.condF (by kernel_rfl) ?_
  refine EL.exit ?_
  refine thenL_exit ?_
  refine thenL_exit ?_
  refine inBlk_hit ?_
  refine thenL_norm ?_
  refine EL.sreg ?_
  refine OW.run 1 (x' := ⟨(agoeq46 v a m k), (agoeq38 v a m)⟩) (by kernel_rfl) ?_
  refine OW.ope (v := VI (List.length ((hearA v a m).2.1) : Int)) (u := []) (acc := []) (x' := ⟨(agoeq47 v a m k), (agoeq38 v a m)⟩) (by kernel_rfl) (opE_len Msg.cs ((hearA v a m).2.1) (.s 186) 6 (by kernel_rfl) (by kernel_rfl) (.inl rfl)) (by kernel_rfl) ?_
  refine OW.run 2 (x' := ⟨(agoeq48 v a m k), (agoeq38 v a m)⟩) (by kernel_rfl) ?_
  refine OW.ope (v := VI (List.length v.weights : Int)) (u := []) (acc := []) (x' := ⟨(190, VI (List.length v.weights : Int)) :: (agoeq48 v a m k), (agoeq38 v a m)⟩) (by kernel_rfl) (opE_len cI v.weights (.s 189) 1 (by kernel_rfl) (by kernel_rfl) (.inl rfl)) (by kernel_rfl) ?_
  refine OW.last 2 [6] (x' := ⟨[(6, .v (.bool ((List.length ((hearA v a m).2.1) : Int) == (List.length v.weights : Int))))], (agoeq38 v a m)⟩) (by kernel_rfl) (by kernel_rfl) ?_
  refine EL.ret ?_
  refine ⟨.inr rfl, .v (.bool ((List.length ((hearA v a m).2.1) : Int) == (List.length v.weights : Int))), by kernel_rfl, Ale.of_eq ?_⟩
  focus ((refine congrArg (fun b => AV.v (Value.bool b)) ?_; first | rfl | (have e9 := hear_zero (v := v) (a := a) (m := m) (by assumption); rw [e9.2]; rfl) | (have hg := goes (v := v) (a := a) (m := m) (by assumption); have hq9 := ask_ok hg.2.1; have hn9 := (msg_node hg.2.2.1).1; obtain ⟨⟨k1, k2, k3, k4, k5, k6⟩, _, _, k7, k8⟩ := hg; first | (exfalso; omega) | (exfalso; exact (by assumption : ¬ _ = _) k6) | (exfalso; exact absurd (by assumption) k3) | (have e9 := k7 (by omega); rw [e9]; rfl) | (have kk := k8 (by omega); obtain ⟨e1, e2, e3⟩ := kk; first | (exfalso; rw [e1] at *; simp_all; done) | (rcases Decidable.em (a.phase = 2) with hp2 | hp2 <;> first | (have ff := e2 hp2; obtain ⟨f1, f2⟩ := ff; first | (exfalso; omega) | (rw [f2]; simp [f1, strEq]; done) | (simp [f1, f2, strEq]; done) | (exfalso; simp only [f1] at *; simp_all; done) | (exfalso; simp only [f2] at *; simp_all [strEq]; done)) | (have ff := e3 hp2; obtain ⟨f1, f2, f3⟩ := ff; rcases (show a.kind = 1 ∨ a.kind = 2 by omega) with hk9 | hk9 <;> first | (have b5 := f2 hk9; first | (exfalso; omega) | (rw [f3, toAllM_len]; simp; done) | (exfalso; have hx9 := toAllM_get (n := v.weights.length) (m := ⟨3, a.op, 0, (hearA v a m).1.best⟩) (i := k) (by rw [← f3]; assumption); subst hx9; simp_all [strEq]; done) | (exfalso; rcases b5 with b5 | b5 <;> (simp only [b5] at *; simp_all [strEq]); done)) | (have ff := f1 hk9; obtain ⟨b1, b2, b3, b4⟩ := ff; first | (exfalso; exact absurd b1 (by assumption)) | (exfalso; exact absurd b2 (by assumption)) | (exfalso; exact absurd b3 (by assumption)) | (exfalso; omega) | (rw [f3, toAllM_len]; simp; done) | (exfalso; have hx9 := toAllM_get (n := v.weights.length) (m := ⟨3, a.op, 0, (hearA v a m).1.best⟩) (i := k) (by rw [← f3]; assumption); subst hx9; simp_all [strEq]; done)))))) | fail))
  rw [h29]
  refine EL.condT (by kernel_rfl) ?_
  refine EL.sreg ?_
  refine OW.last 1 [6] (x' := ⟨[(6, .v (.bool false))], (agoeq10 v a m)⟩) (by kernel_rfl) (by kernel_rfl) ?_
  refine EL.ret ?_
  refine thenL_ret ?_
  refine ⟨.inr rfl, .v (.bool false), by kernel_rfl, Ale.of_eq ?_⟩
  focus ((refine congrArg (fun b => AV.v (Value.bool b)) ?_; first | rfl | (have e9 := hear_zero (v := v) (a := a) (m := m) (by assumption); rw [e9.2]; rfl) | (have hg := goes (v := v) (a := a) (m := m) (by assumption); have hq9 := ask_ok hg.2.1; have hn9 := (msg_node hg.2.2.1).1; obtain ⟨⟨k1, k2, k3, k4, k5, k6⟩, _, _, k7, k8⟩ := hg; first | (exfalso; omega) | (exfalso; exact (by assumption : ¬ _ = _) k6) | (exfalso; exact absurd (by assumption) k3) | (have e9 := k7 (by omega); rw [e9]; rfl) | (have kk := k8 (by omega); obtain ⟨e1, e2, e3⟩ := kk; first | (exfalso; rw [e1] at *; simp_all; done) | (rcases Decidable.em (a.phase = 2) with hp2 | hp2 <;> first | (have ff := e2 hp2; obtain ⟨f1, f2⟩ := ff; first | (exfalso; omega) | (rw [f2]; simp [f1, strEq]; done) | (simp [f1, f2, strEq]; done) | (exfalso; simp only [f1] at *; simp_all; done) | (exfalso; simp only [f2] at *; simp_all [strEq]; done)) | (have ff := e3 hp2; obtain ⟨f1, f2, f3⟩ := ff; rcases (show a.kind = 1 ∨ a.kind = 2 by omega) with hk9 | hk9 <;> first | (have b5 := f2 hk9; first | (exfalso; omega) | (rw [f3, toAllM_len]; simp; done) | (exfalso; have hx9 := toAllM_get (n := v.weights.length) (m := ⟨3, a.op, 0, (hearA v a m).1.best⟩) (i := k) (by rw [← f3]; assumption); subst hx9; simp_all [strEq]; done) | (exfalso; rcases b5 with b5 | b5 <;> (simp only [b5] at *; simp_all [strEq]); done)) | (have ff := f1 hk9; obtain ⟨b1, b2, b3, b4⟩ := ff; first | (exfalso; exact absurd b1 (by assumption)) | (exfalso; exact absurd b2 (by assumption)) | (exfalso; exact absurd b3 (by assumption)) | (exfalso; omega) | (rw [f3, toAllM_len]; simp; done) | (exfalso; have hx9 := toAllM_get (n := v.weights.length) (m := ⟨3, a.op, 0, (hearA v a m).1.best⟩) (i := k) (by rw [← f3]; assumption); subst hx9; simp_all [strEq]; done)))))) | fail))
  rw [h21]
  have g21 : ¬ (a.kind = 1) := by simpa using h21
  refine OW.last 13 [3, 4, 7, 8, 168] (x' := ⟨(agoeq36 v a m), (agoeq10 v a m)⟩) (by kernel_rfl) (by kernel_rfl) ?_
  refine EL.condF (by kernel_rfl) ?_
  refine EL.skip ?_
  refine thenL_norm ?_
  refine EL.seq ?_
  refine EL.sreg ?_
  refine OW.last 1 [3, 4, 7, 8, 12] (x' := ⟨(agoeq37 v a m), (agoeq10 v a m)⟩) (by kernel_rfl) (by kernel_rfl) ?_
  refine EL.block ?_
  refine EL.loopN (fun mM xX => ∃ (k : Nat), mM = (hearA v a m).2.1.length - k ∧ (k ≤ (hearA v a m).2.1.length) ∧ xX = ⟨(agoeq39 v a m k), (agoeq38 v a m)⟩) (y := (fun (k : Nat) => (⟨(agoeq39 v a m k), (agoeq38 v a m)⟩ : L3)) 0) [3, 4, 7, 8, 12] [.old 0 false, .old 1 false, .old 3 false] [] (by kernel_rfl) trivial ⟨0, rfl, by omega, rfl⟩ ?_
  rintro _ _ ⟨k, rfl, hI36, rfl⟩
  have hk := hI36
  have hla := hearA_len v a m
  refine EL.seq ?_
  refine EL.sreg ?_
  refine OW.run 2 (x' := ⟨(agoeq40 v a m k), (agoeq38 v a m)⟩) (by kernel_rfl) ?_
  refine OW.ope (v := VI (List.length ((hearA v a m).2.1) : Int)) (u := []) (acc := []) (x' := ⟨(agoeq41 v a m k), (agoeq38 v a m)⟩) (by kernel_rfl) (opE_len Msg.cs ((hearA v a m).2.1) (.s 170) 6 (by kernel_rfl) (by kernel_rfl) (.inl rfl)) (by kernel_rfl) ?_
  refine OW.last 1 [3, 4, 7, 8, 12, 172] (x' := ⟨(172, .v (.bool (decide ((k : Int) < (List.length ((hearA v a m).2.1) : Int))))) :: (agoeq39 v a m k), (agoeq38 v a m)⟩) (by kernel_rfl) (by kernel_rfl) ?_
  rcases Bool.eq_false_or_eq_true (decide ((k : Int) < (List.length ((hearA v a m).2.1) : Int))) with h37 | h37
  rw [h37]
  have g37 : ((k : Int) < (List.length ((hearA v a m).2.1) : Int)) := of_decide_eq_true h37
  have n37 : ((k) < (List.length ((hearA v a m).2.1))) := by omega
  refine EL.condT (by kernel_rfl) ?_
  refine EL.skip ?_
  refine thenL_norm ?_
  refine EL.seq ?_
  refine EL.block ?_
  refine EL.sdraw ?_
  refine DW.run 2 (x' := ⟨(agoeq42 k v a m), (agoeq38 v a m)⟩) (by kernel_rfl) ?_
  obtain ⟨a39, ha39⟩ : ∃ y, ((hearA v a m).2.1)[((k : Int) : Int).toNat]? = some y := idx_ex ⟨by omega, by omega⟩
  have iha39 : ((hearA v a m).2.1)[k]? = some a39 := by simpa using ha39
  have dha39 := drop_get iha39
  refine DW.ope (v := .pim [VI a39.kind, VI a39.op, VI a39.node, VI a39.copy.at_.time, VI a39.copy.at_.who, .v (.string a39.copy.data)] 0) (u := []) (acc := []) (x' := ⟨(agoeq51 a39 k v a m), (agoeq38 v a m)⟩) (by kernel_rfl) (opE_iad Msg.cs ((hearA v a m).2.1) (.s 175) (.s 176) 6 .i64 (k : Int) a39 (by kernel_rfl) (by kernel_rfl) (.inl rfl) rfl (by omega) ha39) (by kernel_rfl) ?_
  refine DW.last 8 [3, 4, 7, 8, 12, 185] (x' := ⟨(185, .v (.bool (!((a39.kind == 3) && ((a39.op == a.op) && ((a39.node == (k : Int)) && ((a39.copy.at_.time == ((((hearA v a m).1).best).at_).time) && ((a39.copy.at_.who == ((((hearA v a m).1).best).at_).who) && (strEq a39.copy.data ((((hearA v a m).1).best).data) && true))))))))) :: (agoeq39 v a m k), (agoeq38 v a m)⟩) (by kernel_rfl) (by kernel_rfl) ?_
  rcases Bool.eq_false_or_eq_true (((a39.kind == 3) && ((a39.op == a.op) && ((a39.node == (k : Int)) && ((a39.copy.at_.time == ((((hearA v a m).1).best).at_).time) && ((a39.copy.at_.who == ((((hearA v a m).1).best).at_).who) && (strEq a39.copy.data ((((hearA v a m).1).best).data) && true))))))) with h40 | h40
  rw [h40]
  refine EL.condF (by kernel_rfl) ?_
  refine EL.skip ?_
  refine inBlk_norm ?_
  refine thenL_norm ?_
  refine EL.reg0 ?_
  refine OW.run 3 (x' := ⟨(12, VI (IntKind.i64.wrap ((k : Int) + 1))) :: (174, VI (IntKind.i64.wrap ((k : Int) + 1))) :: (agoeq44 k v a m), (agoeq38 v a m)⟩) (by kernel_rfl) ?_
  have e41 : IntKind.i64.wrap ((k : Int) + 1) = (k : Int) + 1 := wr64 (by omega)
  rw [e41]
  refine OW.end 0 (x' := ⟨(agoeq45 k v a m), (agoeq38 v a m)⟩) (by kernel_rfl) (by kernel_rfl) ?_
  refine thenL_norm ?_
  refine round_end (live := [3, 4, 7, 8, 12]) (src := [.old 0 false, .old 1 false, .old 2 false]) (es := []) (y := (fun (k : Nat) => (⟨(agoeq39 v a m k), (agoeq38 v a m)⟩ : L3)) (k + 1)) ?_ trivial ?_ ⟨(k + 1), rfl, ?_, rfl⟩
  kernel_rfl
  omega
  focus (omega)
  rw [h40]
  refine EL.condT (by kernel_rfl) ?_
  refine EL.sreg ?_
  refine OW.last 1 [6] (x' := ⟨[(6, .v (.bool false))], (agoeq38 v a m)⟩) (by kernel_rfl) (by kernel_rfl) ?_
  refine EL.ret ?_
  refine inBlk_ret ?_
  refine thenL_ret ?_
  refine thenL_ret ?_
  refine inBlk_ret ?_
  refine thenL_ret ?_
  refine ⟨.inr rfl, .v (.bool false), by kernel_rfl, Ale.of_eq ?_⟩
  focus ((refine congrArg (fun b => AV.v (Value.bool b)) ?_; first | rfl | (have e9 := hear_zero (v := v) (a := a) (m := m) (by assumption); rw [e9.2]; rfl) | (have hg := goes (v := v) (a := a) (m := m) (by assumption); have hq9 := ask_ok hg.2.1; have hn9 := (msg_node hg.2.2.1).1; obtain ⟨⟨k1, k2, k3, k4, k5, k6⟩, _, _, k7, k8⟩ := hg; first | (exfalso; omega) | (exfalso; exact (by assumption : ¬ _ = _) k6) | (exfalso; exact absurd (by assumption) k3) | (have e9 := k7 (by omega); rw [e9]; rfl) | (have kk := k8 (by omega); obtain ⟨e1, e2, e3⟩ := kk; first | (exfalso; rw [e1] at *; simp_all; done) | (rcases Decidable.em (a.phase = 2) with hp2 | hp2 <;> first | (have ff := e2 hp2; obtain ⟨f1, f2⟩ := ff; first | (exfalso; omega) | (rw [f2]; simp [f1, strEq]; done) | (simp [f1, f2, strEq]; done) | (exfalso; simp only [f1] at *; simp_all; done) | (exfalso; simp only [f2] at *; simp_all [strEq]; done)) | (have ff := e3 hp2; obtain ⟨f1, f2, f3⟩ := ff; rcases (show a.kind = 1 ∨ a.kind = 2 by omega) with hk9 | hk9 <;> first | (have b5 := f2 hk9; first | (exfalso; omega) | (rw [f3, toAllM_len]; simp; done) | (exfalso; have hx9 := toAllM_get (n := v.weights.length) (m := ⟨3, a.op, 0, (hearA v a m).1.best⟩) (i := k) (by rw [← f3]; assumption); subst hx9; simp_all [strEq]; done) | (exfalso; rcases b5 with b5 | b5 <;> (simp only [b5] at *; simp_all [strEq]); done)) | (have ff := f1 hk9; obtain ⟨b1, b2, b3, b4⟩ := ff; first | (exfalso; exact absurd b1 (by assumption)) | (exfalso; exact absurd b2 (by assumption)) | (exfalso; exact absurd b3 (by assumption)) | (exfalso; omega) | (rw [f3, toAllM_len]; simp; done) | (exfalso; have hx9 := toAllM_get (n := v.weights.length) (m := ⟨3, a.op, 0, (hearA v a m).1.best⟩) (i := k) (by rw [← f3]; assumption); subst hx9; simp_all [strEq]; done)))))) | fail))
  rw [h37]
  have g37 : ¬ ((k : Int) < (List.length ((hearA v a m).2.1) : Int)) := of_decide_eq_false h37
  have n37 : ¬ ((k) < (List.length ((hearA v a m).2.1))) := by omega
  refine EL.condF (by kernel_rfl) ?_
  refine EL.exit ?_
  refine thenL_exit ?_
  refine thenL_exit ?_
  refine inBlk_hit ?_
  refine thenL_norm ?_
  refine EL.sreg ?_
  refine OW.run 1 (x' := ⟨(agoeq46 v a m k), (agoeq38 v a m)⟩) (by kernel_rfl) ?_
  refine OW.ope (v := VI (List.length ((hearA v a m).2.1) : Int)) (u := []) (acc := []) (x' := ⟨(agoeq47 v a m k), (agoeq38 v a m)⟩) (by kernel_rfl) (opE_len Msg.cs ((hearA v a m).2.1) (.s 186) 6 (by kernel_rfl) (by kernel_rfl) (.inl rfl)) (by kernel_rfl) ?_
  refine OW.run 2 (x' := ⟨(agoeq48 v a m k), (agoeq38 v a m)⟩) (by kernel_rfl) ?_
  refine OW.ope (v := VI (List.length v.weights : Int)) (u := []) (acc := []) (x' := ⟨(190, VI (List.length v.weights : Int)) :: (agoeq48 v a m k), (agoeq38 v a m)⟩) (by kernel_rfl) (opE_len cI v.weights (.s 189) 1 (by kernel_rfl) (by kernel_rfl) (.inl rfl)) (by kernel_rfl) ?_
  refine OW.last 2 [6] (x' := ⟨[(6, .v (.bool ((List.length ((hearA v a m).2.1) : Int) == (List.length v.weights : Int))))], (agoeq38 v a m)⟩) (by kernel_rfl) (by kernel_rfl) ?_
  refine EL.ret ?_
  refine ⟨.inr rfl, .v (.bool ((List.length ((hearA v a m).2.1) : Int) == (List.length v.weights : Int))), by kernel_rfl, Ale.of_eq ?_⟩
  focus ((refine congrArg (fun b => AV.v (Value.bool b)) ?_; first | rfl | (have e9 := hear_zero (v := v) (a := a) (m := m) (by assumption); rw [e9.2]; rfl) | (have hg := goes (v := v) (a := a) (m := m) (by assumption); have hq9 := ask_ok hg.2.1; have hn9 := (msg_node hg.2.2.1).1; obtain ⟨⟨k1, k2, k3, k4, k5, k6⟩, _, _, k7, k8⟩ := hg; first | (exfalso; omega) | (exfalso; exact (by assumption : ¬ _ = _) k6) | (exfalso; exact absurd (by assumption) k3) | (have e9 := k7 (by omega); rw [e9]; rfl) | (have kk := k8 (by omega); obtain ⟨e1, e2, e3⟩ := kk; first | (exfalso; rw [e1] at *; simp_all; done) | (rcases Decidable.em (a.phase = 2) with hp2 | hp2 <;> first | (have ff := e2 hp2; obtain ⟨f1, f2⟩ := ff; first | (exfalso; omega) | (rw [f2]; simp [f1, strEq]; done) | (simp [f1, f2, strEq]; done) | (exfalso; simp only [f1] at *; simp_all; done) | (exfalso; simp only [f2] at *; simp_all [strEq]; done)) | (have ff := e3 hp2; obtain ⟨f1, f2, f3⟩ := ff; rcases (show a.kind = 1 ∨ a.kind = 2 by omega) with hk9 | hk9 <;> first | (have b5 := f2 hk9; first | (exfalso; omega) | (rw [f3, toAllM_len]; simp; done) | (exfalso; have hx9 := toAllM_get (n := v.weights.length) (m := ⟨3, a.op, 0, (hearA v a m).1.best⟩) (i := k) (by rw [← f3]; assumption); subst hx9; simp_all [strEq]; done) | (exfalso; rcases b5 with b5 | b5 <;> (simp only [b5] at *; simp_all [strEq]); done)) | (have ff := f1 hk9; obtain ⟨b1, b2, b3, b4⟩ := ff; first | (exfalso; exact absurd b1 (by assumption)) | (exfalso; exact absurd b2 (by assumption)) | (exfalso; exact absurd b3 (by assumption)) | (exfalso; omega) | (rw [f3, toAllM_len]; simp; done) | (exfalso; have hx9 := toAllM_get (n := v.weights.length) (m := ⟨3, a.op, 0, (hearA v a m).1.best⟩) (i := k) (by rw [← f3]; assumption); subst hx9; simp_all [strEq]; done)))))) | fail))
  rw [h19]
  have g19 : ¬ (((((hearA v a m).1).best).data) = a.data) := fun hh => Bool.noConfusion ((strEq_iff.2 hh).symm.trans h19)
  refine OW.last 9 [3, 4, 5, 7, 8, 151] (x' := ⟨(151, .v (.bool true)) :: (agoeq12 v a m), (agoeq10 v a m)⟩) (by kernel_rfl) (by kernel_rfl) ?_
  refine EL.condT (by kernel_rfl) ?_
  refine EL.sreg ?_
  refine OW.last 1 [6] (x' := ⟨[(6, .v (.bool false))], (agoeq10 v a m)⟩) (by kernel_rfl) (by kernel_rfl) ?_
  refine EL.ret ?_
  refine thenL_ret ?_
  refine ⟨.inr rfl, .v (.bool false), by kernel_rfl, Ale.of_eq ?_⟩
  focus ((refine congrArg (fun b => AV.v (Value.bool b)) ?_; first | rfl | (have e9 := hear_zero (v := v) (a := a) (m := m) (by assumption); rw [e9.2]; rfl) | (have hg := goes (v := v) (a := a) (m := m) (by assumption); have hq9 := ask_ok hg.2.1; have hn9 := (msg_node hg.2.2.1).1; obtain ⟨⟨k1, k2, k3, k4, k5, k6⟩, _, _, k7, k8⟩ := hg; first | (exfalso; omega) | (exfalso; exact (by assumption : ¬ _ = _) k6) | (exfalso; exact absurd (by assumption) k3) | (have e9 := k7 (by omega); rw [e9]; rfl) | (have kk := k8 (by omega); obtain ⟨e1, e2, e3⟩ := kk; first | (exfalso; rw [e1] at *; simp_all; done) | (rcases Decidable.em (a.phase = 2) with hp2 | hp2 <;> first | (have ff := e2 hp2; obtain ⟨f1, f2⟩ := ff; first | (exfalso; omega) | (rw [f2]; simp [f1, strEq]; done) | (simp [f1, f2, strEq]; done) | (exfalso; simp only [f1] at *; simp_all; done) | (exfalso; simp only [f2] at *; simp_all [strEq]; done)) | (have ff := e3 hp2; obtain ⟨f1, f2, f3⟩ := ff; rcases (show a.kind = 1 ∨ a.kind = 2 by omega) with hk9 | hk9 <;> first | (have b5 := f2 hk9; first | (exfalso; omega) | (rw [f3, toAllM_len]; simp; done) | (exfalso; have hx9 := toAllM_get (n := v.weights.length) (m := ⟨3, a.op, 0, (hearA v a m).1.best⟩) (i := k) (by rw [← f3]; assumption); subst hx9; simp_all [strEq]; done) | (exfalso; rcases b5 with b5 | b5 <;> (simp only [b5] at *; simp_all [strEq]); done)) | (have ff := f1 hk9; obtain ⟨b1, b2, b3, b4⟩ := ff; first | (exfalso; exact absurd b1 (by assumption)) | (exfalso; exact absurd b2 (by assumption)) | (exfalso; exact absurd b3 (by assumption)) | (exfalso; omega) | (rw [f3, toAllM_len]; simp; done) | (exfalso; have hx9 := toAllM_get (n := v.weights.length) (m := ⟨3, a.op, 0, (hearA v a m).1.best⟩) (i := k) (by rw [← f3]; assumption); subst hx9; simp_all [strEq]; done)))))) | fail))
  rw [h18]
  have g18 : ¬ (m.copy.at_.lt ((((hearA v a m).1).best).at_)) := of_decide_eq_false h18
  refine OW.last 17 [3, 4, 5, 7, 8, 151] (x' := ⟨(151, .v (.bool true)) :: (agoeq12 v a m), (agoeq10 v a m)⟩) (by kernel_rfl) (by kernel_rfl) ?_
  refine EL.condT (by kernel_rfl) ?_
  refine EL.sreg ?_
  refine OW.last 1 [6] (x' := ⟨[(6, .v (.bool false))], (agoeq10 v a m)⟩) (by kernel_rfl) (by kernel_rfl) ?_
  refine EL.ret ?_
  refine thenL_ret ?_
  refine ⟨.inr rfl, .v (.bool false), by kernel_rfl, Ale.of_eq ?_⟩
  focus ((refine congrArg (fun b => AV.v (Value.bool b)) ?_; first | rfl | (have e9 := hear_zero (v := v) (a := a) (m := m) (by assumption); rw [e9.2]; rfl) | (have hg := goes (v := v) (a := a) (m := m) (by assumption); have hq9 := ask_ok hg.2.1; have hn9 := (msg_node hg.2.2.1).1; obtain ⟨⟨k1, k2, k3, k4, k5, k6⟩, _, _, k7, k8⟩ := hg; first | (exfalso; omega) | (exfalso; exact (by assumption : ¬ _ = _) k6) | (exfalso; exact absurd (by assumption) k3) | (have e9 := k7 (by omega); rw [e9]; rfl) | (have kk := k8 (by omega); obtain ⟨e1, e2, e3⟩ := kk; first | (exfalso; rw [e1] at *; simp_all; done) | (rcases Decidable.em (a.phase = 2) with hp2 | hp2 <;> first | (have ff := e2 hp2; obtain ⟨f1, f2⟩ := ff; first | (exfalso; omega) | (rw [f2]; simp [f1, strEq]; done) | (simp [f1, f2, strEq]; done) | (exfalso; simp only [f1] at *; simp_all; done) | (exfalso; simp only [f2] at *; simp_all [strEq]; done)) | (have ff := e3 hp2; obtain ⟨f1, f2, f3⟩ := ff; rcases (show a.kind = 1 ∨ a.kind = 2 by omega) with hk9 | hk9 <;> first | (have b5 := f2 hk9; first | (exfalso; omega) | (rw [f3, toAllM_len]; simp; done) | (exfalso; have hx9 := toAllM_get (n := v.weights.length) (m := ⟨3, a.op, 0, (hearA v a m).1.best⟩) (i := k) (by rw [← f3]; assumption); subst hx9; simp_all [strEq]; done) | (exfalso; rcases b5 with b5 | b5 <;> (simp only [b5] at *; simp_all [strEq]); done)) | (have ff := f1 hk9; obtain ⟨b1, b2, b3, b4⟩ := ff; first | (exfalso; exact absurd b1 (by assumption)) | (exfalso; exact absurd b2 (by assumption)) | (exfalso; exact absurd b3 (by assumption)) | (exfalso; omega) | (rw [f3, toAllM_len]; simp; done) | (exfalso; have hx9 := toAllM_get (n := v.weights.length) (m := ⟨3, a.op, 0, (hearA v a m).1.best⟩) (i := k) (by rw [← f3]; assumption); subst hx9; simp_all [strEq]; done)))))) | fail))
  rw [h17]
  have g17 : ¬ (a.best.at_.lt ((((hearA v a m).1).best).at_)) := of_decide_eq_false h17
  refine OW.last 27 [3, 4, 5, 7, 8, 151] (x' := ⟨(151, .v (.bool true)) :: (agoeq12 v a m), (agoeq10 v a m)⟩) (by kernel_rfl) (by kernel_rfl) ?_
  refine EL.condT (by kernel_rfl) ?_
  refine EL.sreg ?_
  refine OW.last 1 [6] (x' := ⟨[(6, .v (.bool false))], (agoeq10 v a m)⟩) (by kernel_rfl) (by kernel_rfl) ?_
  refine EL.ret ?_
  refine thenL_ret ?_
  refine ⟨.inr rfl, .v (.bool false), by kernel_rfl, Ale.of_eq ?_⟩
  focus ((refine congrArg (fun b => AV.v (Value.bool b)) ?_; first | rfl | (have e9 := hear_zero (v := v) (a := a) (m := m) (by assumption); rw [e9.2]; rfl) | (have hg := goes (v := v) (a := a) (m := m) (by assumption); have hq9 := ask_ok hg.2.1; have hn9 := (msg_node hg.2.2.1).1; obtain ⟨⟨k1, k2, k3, k4, k5, k6⟩, _, _, k7, k8⟩ := hg; first | (exfalso; omega) | (exfalso; exact (by assumption : ¬ _ = _) k6) | (exfalso; exact absurd (by assumption) k3) | (have e9 := k7 (by omega); rw [e9]; rfl) | (have kk := k8 (by omega); obtain ⟨e1, e2, e3⟩ := kk; first | (exfalso; rw [e1] at *; simp_all; done) | (rcases Decidable.em (a.phase = 2) with hp2 | hp2 <;> first | (have ff := e2 hp2; obtain ⟨f1, f2⟩ := ff; first | (exfalso; omega) | (rw [f2]; simp [f1, strEq]; done) | (simp [f1, f2, strEq]; done) | (exfalso; simp only [f1] at *; simp_all; done) | (exfalso; simp only [f2] at *; simp_all [strEq]; done)) | (have ff := e3 hp2; obtain ⟨f1, f2, f3⟩ := ff; rcases (show a.kind = 1 ∨ a.kind = 2 by omega) with hk9 | hk9 <;> first | (have b5 := f2 hk9; first | (exfalso; omega) | (rw [f3, toAllM_len]; simp; done) | (exfalso; have hx9 := toAllM_get (n := v.weights.length) (m := ⟨3, a.op, 0, (hearA v a m).1.best⟩) (i := k) (by rw [← f3]; assumption); subst hx9; simp_all [strEq]; done) | (exfalso; rcases b5 with b5 | b5 <;> (simp only [b5] at *; simp_all [strEq]); done)) | (have ff := f1 hk9; obtain ⟨b1, b2, b3, b4⟩ := ff; first | (exfalso; exact absurd b1 (by assumption)) | (exfalso; exact absurd b2 (by assumption)) | (exfalso; exact absurd b3 (by assumption)) | (exfalso; omega) | (rw [f3, toAllM_len]; simp; done) | (exfalso; have hx9 := toAllM_get (n := v.weights.length) (m := ⟨3, a.op, 0, (hearA v a m).1.best⟩) (i := k) (by rw [← f3]; assumption); subst hx9; simp_all [strEq]; done)))))) | fail))
  rw [h16]
  have g16 : ¬ (a.kind = 2) := by simpa using h16
  refine OW.last 36 [3, 4, 5, 7, 8, 151] (x' := ⟨(151, .v (.bool false)) :: (agoeq12 v a m), (agoeq10 v a m)⟩) (by kernel_rfl) (by kernel_rfl) ?_
  refine EL.condF (by kernel_rfl) ?_
  refine EL.skip ?_
  refine thenL_norm ?_
  refine EL.seq ?_
  refine EL.sreg ?_
  refine OW.run 4 (x' := ⟨(155, .v (.bool (a.kind == 1))) :: (154, .v (.bool (a.kind == 1))) :: (agoeq32 a v m), (agoeq10 v a m)⟩) (by kernel_rfl) ?_
  rcases Bool.eq_false_or_eq_true ((a.kind == 1)) with h42 | h42
  rw [h42]
  have g42 : (a.kind = 1) := by simpa using h42
  refine OW.run 7 (x' := ⟨(162, .v (.bool (!(((((((hearA v a m).1).best).at_).time) == a.best.at_.time) && (((((((hearA v a m).1).best).at_).who) == a.best.at_.who) && (strEq ((((hearA v a m).1).best).data) a.best.data && true)))))) :: (161, .v (.bool (!(((((((hearA v a m).1).best).at_).time) == a.best.at_.time) && (((((((hearA v a m).1).best).at_).who) == a.best.at_.who) && (strEq ((((hearA v a m).1).best).data) a.best.data && true)))))) :: (160, .v (.bool (!(((((((hearA v a m).1).best).at_).time) == a.best.at_.time) && (((((((hearA v a m).1).best).at_).who) == a.best.at_.who) && (strEq ((((hearA v a m).1).best).data) a.best.data && true)))))) :: (agoeq35 a v m), (agoeq10 v a m)⟩) (by kernel_rfl) ?_
  rcases Bool.eq_false_or_eq_true ((((((((hearA v a m).1).best).at_).time) == a.best.at_.time) && (((((((hearA v a m).1).best).at_).who) == a.best.at_.who) && (strEq ((((hearA v a m).1).best).data) a.best.data && true)))) with h43 | h43
  rw [h43]
  refine OW.last 6 [3, 4, 7, 8, 168] (x' := ⟨(agoeq36 v a m), (agoeq10 v a m)⟩) (by kernel_rfl) (by kernel_rfl) ?_
  refine EL.condF (by kernel_rfl) ?_
  refine EL.skip ?_
  refine thenL_norm ?_
  refine EL.seq ?_
  refine EL.sreg ?_
  refine OW.last 1 [3, 4, 7, 8, 12] (x' := ⟨(agoeq37 v a m), (agoeq10 v a m)⟩) (by kernel_rfl) (by kernel_rfl) ?_
  refine EL.block ?_
  refine EL.loopN (fun mM xX => ∃ (k : Nat), mM = (hearA v a m).2.1.length - k ∧ (k ≤ (hearA v a m).2.1.length) ∧ xX = ⟨(agoeq39 v a m k), (agoeq38 v a m)⟩) (y := (fun (k : Nat) => (⟨(agoeq39 v a m k), (agoeq38 v a m)⟩ : L3)) 0) [3, 4, 7, 8, 12] [.old 0 false, .old 1 false, .old 3 false] [] (by kernel_rfl) trivial ⟨0, rfl, by omega, rfl⟩ ?_
  rintro _ _ ⟨k, rfl, hI44, rfl⟩
  have hk := hI44
  have hla := hearA_len v a m
  refine EL.seq ?_
  refine EL.sreg ?_
  refine OW.run 2 (x' := ⟨(agoeq40 v a m k), (agoeq38 v a m)⟩) (by kernel_rfl) ?_
  refine OW.ope (v := VI (List.length ((hearA v a m).2.1) : Int)) (u := []) (acc := []) (x' := ⟨(agoeq41 v a m k), (agoeq38 v a m)⟩) (by kernel_rfl) (opE_len Msg.cs ((hearA v a m).2.1) (.s 170) 6 (by kernel_rfl) (by kernel_rfl) (.inl rfl)) (by kernel_rfl) ?_
  refine OW.last 1 [3, 4, 7, 8, 12, 172] (x' := ⟨(172, .v (.bool (decide ((k : Int) < (List.length ((hearA v a m).2.1) : Int))))) :: (agoeq39 v a m k), (agoeq38 v a m)⟩) (by kernel_rfl) (by kernel_rfl) ?_
  rcases Bool.eq_false_or_eq_true (decide ((k : Int) < (List.length ((hearA v a m).2.1) : Int))) with h45 | h45
  rw [h45]
  have g45 : ((k : Int) < (List.length ((hearA v a m).2.1) : Int)) := of_decide_eq_true h45
  have n45 : ((k) < (List.length ((hearA v a m).2.1))) := by omega
  refine EL.condT (by kernel_rfl) ?_
  refine EL.skip ?_
  refine thenL_norm ?_
  refine EL.seq ?_
  refine EL.block ?_
  refine EL.sdraw ?_
  refine DW.run 2 (x' := ⟨(agoeq42 k v a m), (agoeq38 v a m)⟩) (by kernel_rfl) ?_
  obtain ⟨a47, ha47⟩ : ∃ y, ((hearA v a m).2.1)[((k : Int) : Int).toNat]? = some y := idx_ex ⟨by omega, by omega⟩
  have iha47 : ((hearA v a m).2.1)[k]? = some a47 := by simpa using ha47
  have dha47 := drop_get iha47
  refine DW.ope (v := .pim [VI a47.kind, VI a47.op, VI a47.node, VI a47.copy.at_.time, VI a47.copy.at_.who, .v (.string a47.copy.data)] 0) (u := []) (acc := []) (x' := ⟨(agoeq52 a47 k v a m), (agoeq38 v a m)⟩) (by kernel_rfl) (opE_iad Msg.cs ((hearA v a m).2.1) (.s 175) (.s 176) 6 .i64 (k : Int) a47 (by kernel_rfl) (by kernel_rfl) (.inl rfl) rfl (by omega) ha47) (by kernel_rfl) ?_
  refine DW.last 8 [3, 4, 7, 8, 12, 185] (x' := ⟨(185, .v (.bool (!((a47.kind == 3) && ((a47.op == a.op) && ((a47.node == (k : Int)) && ((a47.copy.at_.time == ((((hearA v a m).1).best).at_).time) && ((a47.copy.at_.who == ((((hearA v a m).1).best).at_).who) && (strEq a47.copy.data ((((hearA v a m).1).best).data) && true))))))))) :: (agoeq39 v a m k), (agoeq38 v a m)⟩) (by kernel_rfl) (by kernel_rfl) ?_
  rcases Bool.eq_false_or_eq_true (((a47.kind == 3) && ((a47.op == a.op) && ((a47.node == (k : Int)) && ((a47.copy.at_.time == ((((hearA v a m).1).best).at_).time) && ((a47.copy.at_.who == ((((hearA v a m).1).best).at_).who) && (strEq a47.copy.data ((((hearA v a m).1).best).data) && true))))))) with h48 | h48
  rw [h48]
  refine EL.condF (by kernel_rfl) ?_
  refine EL.skip ?_
  refine inBlk_norm ?_
  refine thenL_norm ?_
  refine EL.reg0 ?_
  refine OW.run 3 (x' := ⟨(12, VI (IntKind.i64.wrap ((k : Int) + 1))) :: (174, VI (IntKind.i64.wrap ((k : Int) + 1))) :: (agoeq44 k v a m), (agoeq38 v a m)⟩) (by kernel_rfl) ?_
  have e49 : IntKind.i64.wrap ((k : Int) + 1) = (k : Int) + 1 := wr64 (by omega)
  rw [e49]
  refine OW.end 0 (x' := ⟨(agoeq45 k v a m), (agoeq38 v a m)⟩) (by kernel_rfl) (by kernel_rfl) ?_
  refine thenL_norm ?_
  refine round_end (live := [3, 4, 7, 8, 12]) (src := [.old 0 false, .old 1 false, .old 2 false]) (es := []) (y := (fun (k : Nat) => (⟨(agoeq39 v a m k), (agoeq38 v a m)⟩ : L3)) (k + 1)) ?_ trivial ?_ ⟨(k + 1), rfl, ?_, rfl⟩
  kernel_rfl
  omega
  focus (omega)
  rw [h48]
  refine EL.condT (by kernel_rfl) ?_
  refine EL.sreg ?_
  refine OW.last 1 [6] (x' := ⟨[(6, .v (.bool false))], (agoeq38 v a m)⟩) (by kernel_rfl) (by kernel_rfl) ?_
  refine EL.ret ?_
  refine inBlk_ret ?_
  refine thenL_ret ?_
  refine thenL_ret ?_
  refine inBlk_ret ?_
  refine thenL_ret ?_
  refine ⟨.inr rfl, .v (.bool false), by kernel_rfl, Ale.of_eq ?_⟩
  focus ((refine congrArg (fun b => AV.v (Value.bool b)) ?_; first | rfl | (have e9 := hear_zero (v := v) (a := a) (m := m) (by assumption); rw [e9.2]; rfl) | (have hg := goes (v := v) (a := a) (m := m) (by assumption); have hq9 := ask_ok hg.2.1; have hn9 := (msg_node hg.2.2.1).1; obtain ⟨⟨k1, k2, k3, k4, k5, k6⟩, _, _, k7, k8⟩ := hg; first | (exfalso; omega) | (exfalso; exact (by assumption : ¬ _ = _) k6) | (exfalso; exact absurd (by assumption) k3) | (have e9 := k7 (by omega); rw [e9]; rfl) | (have kk := k8 (by omega); obtain ⟨e1, e2, e3⟩ := kk; first | (exfalso; rw [e1] at *; simp_all; done) | (rcases Decidable.em (a.phase = 2) with hp2 | hp2 <;> first | (have ff := e2 hp2; obtain ⟨f1, f2⟩ := ff; first | (exfalso; omega) | (rw [f2]; simp [f1, strEq]; done) | (simp [f1, f2, strEq]; done) | (exfalso; simp only [f1] at *; simp_all; done) | (exfalso; simp only [f2] at *; simp_all [strEq]; done)) | (have ff := e3 hp2; obtain ⟨f1, f2, f3⟩ := ff; rcases (show a.kind = 1 ∨ a.kind = 2 by omega) with hk9 | hk9 <;> first | (have b5 := f2 hk9; first | (exfalso; omega) | (rw [f3, toAllM_len]; simp; done) | (exfalso; have hx9 := toAllM_get (n := v.weights.length) (m := ⟨3, a.op, 0, (hearA v a m).1.best⟩) (i := k) (by rw [← f3]; assumption); subst hx9; simp_all [strEq]; done) | (exfalso; rcases b5 with b5 | b5 <;> (simp only [b5] at *; simp_all [strEq]); done)) | (have ff := f1 hk9; obtain ⟨b1, b2, b3, b4⟩ := ff; first | (exfalso; exact absurd b1 (by assumption)) | (exfalso; exact absurd b2 (by assumption)) | (exfalso; exact absurd b3 (by assumption)) | (exfalso; omega) | (rw [f3, toAllM_len]; simp; done) | (exfalso; have hx9 := toAllM_get (n := v.weights.length) (m := ⟨3, a.op, 0, (hearA v a m).1.best⟩) (i := k) (by rw [← f3]; assumption); subst hx9; simp_all [strEq]; done)))))) | fail))
  rw [h45]
  have g45 : ¬ ((k : Int) < (List.length ((hearA v a m).2.1) : Int)) := of_decide_eq_false h45
  have n45 : ¬ ((k) < (List.length ((hearA v a m).2.1))) := by omega
  refine EL.condF (by kernel_rfl) ?_
  refine EL.exit ?_
  refine thenL_exit ?_
  refine thenL_exit ?_
  refine inBlk_hit ?_
  refine thenL_norm ?_
  refine EL.sreg ?_
  refine OW.run 1 (x' := ⟨(agoeq46 v a m k), (agoeq38 v a m)⟩) (by kernel_rfl) ?_
  refine OW.ope (v := VI (List.length ((hearA v a m).2.1) : Int)) (u := []) (acc := []) (x' := ⟨(agoeq47 v a m k), (agoeq38 v a m)⟩) (by kernel_rfl) (opE_len Msg.cs ((hearA v a m).2.1) (.s 186) 6 (by kernel_rfl) (by kernel_rfl) (.inl rfl)) (by kernel_rfl) ?_
  refine OW.run 2 (x' := ⟨(agoeq48 v a m k), (agoeq38 v a m)⟩) (by kernel_rfl) ?_
  refine OW.ope (v := VI (List.length v.weights : Int)) (u := []) (acc := []) (x' := ⟨(190, VI (List.length v.weights : Int)) :: (agoeq48 v a m k), (agoeq38 v a m)⟩) (by kernel_rfl) (opE_len cI v.weights (.s 189) 1 (by kernel_rfl) (by kernel_rfl) (.inl rfl)) (by kernel_rfl) ?_
  refine OW.last 2 [6] (x' := ⟨[(6, .v (.bool ((List.length ((hearA v a m).2.1) : Int) == (List.length v.weights : Int))))], (agoeq38 v a m)⟩) (by kernel_rfl) (by kernel_rfl) ?_
  refine EL.ret ?_
  refine ⟨.inr rfl, .v (.bool ((List.length ((hearA v a m).2.1) : Int) == (List.length v.weights : Int))), by kernel_rfl, Ale.of_eq ?_⟩
  focus ((refine congrArg (fun b => AV.v (Value.bool b)) ?_; first | rfl | (have e9 := hear_zero (v := v) (a := a) (m := m) (by assumption); rw [e9.2]; rfl) | (have hg := goes (v := v) (a := a) (m := m) (by assumption); have hq9 := ask_ok hg.2.1; have hn9 := (msg_node hg.2.2.1).1; obtain ⟨⟨k1, k2, k3, k4, k5, k6⟩, _, _, k7, k8⟩ := hg; first | (exfalso; omega) | (exfalso; exact (by assumption : ¬ _ = _) k6) | (exfalso; exact absurd (by assumption) k3) | (have e9 := k7 (by omega); rw [e9]; rfl) | (have kk := k8 (by omega); obtain ⟨e1, e2, e3⟩ := kk; first | (exfalso; rw [e1] at *; simp_all; done) | (rcases Decidable.em (a.phase = 2) with hp2 | hp2 <;> first | (have ff := e2 hp2; obtain ⟨f1, f2⟩ := ff; first | (exfalso; omega) | (rw [f2]; simp [f1, strEq]; done) | (simp [f1, f2, strEq]; done) | (exfalso; simp only [f1] at *; simp_all; done) | (exfalso; simp only [f2] at *; simp_all [strEq]; done)) | (have ff := e3 hp2; obtain ⟨f1, f2, f3⟩ := ff; rcases (show a.kind = 1 ∨ a.kind = 2 by omega) with hk9 | hk9 <;> first | (have b5 := f2 hk9; first | (exfalso; omega) | (rw [f3, toAllM_len]; simp; done) | (exfalso; have hx9 := toAllM_get (n := v.weights.length) (m := ⟨3, a.op, 0, (hearA v a m).1.best⟩) (i := k) (by rw [← f3]; assumption); subst hx9; simp_all [strEq]; done) | (exfalso; rcases b5 with b5 | b5 <;> (simp only [b5] at *; simp_all [strEq]); done)) | (have ff := f1 hk9; obtain ⟨b1, b2, b3, b4⟩ := ff; first | (exfalso; exact absurd b1 (by assumption)) | (exfalso; exact absurd b2 (by assumption)) | (exfalso; exact absurd b3 (by assumption)) | (exfalso; omega) | (rw [f3, toAllM_len]; simp; done) | (exfalso; have hx9 := toAllM_get (n := v.weights.length) (m := ⟨3, a.op, 0, (hearA v a m).1.best⟩) (i := k) (by rw [← f3]; assumption); subst hx9; simp_all [strEq]; done)))))) | fail))
  rw [h43]
  refine OW.last 6 [3, 4, 7, 8, 168] (x' := ⟨(168, .v (.bool (!(((((((hearA v a m).1).best).at_).time) == m.copy.at_.time) && (((((((hearA v a m).1).best).at_).who) == m.copy.at_.who) && (strEq ((((hearA v a m).1).best).data) m.copy.data && true)))))) :: (agoeq49 v a m), (agoeq10 v a m)⟩) (by kernel_rfl) (by kernel_rfl) ?_
  rcases Bool.eq_false_or_eq_true ((((((((hearA v a m).1).best).at_).time) == m.copy.at_.time) && (((((((hearA v a m).1).best).at_).who) == m.copy.at_.who) && (strEq ((((hearA v a m).1).best).data) m.copy.data && true)))) with h50 | h50
  rw [h50]
  refine EL.condF (by kernel_rfl) ?_
  refine EL.skip ?_
  refine thenL_norm ?_
  refine EL.seq ?_
  refine EL.sreg ?_
  refine OW.last 1 [3, 4, 7, 8, 12] (x' := ⟨(agoeq37 v a m), (agoeq10 v a m)⟩) (by kernel_rfl) (by kernel_rfl) ?_
  refine EL.block ?_
  refine EL.loopN (fun mM xX => ∃ (k : Nat), mM = (hearA v a m).2.1.length - k ∧ (k ≤ (hearA v a m).2.1.length) ∧ xX = ⟨(agoeq39 v a m k), (agoeq38 v a m)⟩) (y := (fun (k : Nat) => (⟨(agoeq39 v a m k), (agoeq38 v a m)⟩ : L3)) 0) [3, 4, 7, 8, 12] [.old 0 false, .old 1 false, .old 3 false] [] (by kernel_rfl) trivial ⟨0, rfl, by omega, rfl⟩ ?_
  rintro _ _ ⟨k, rfl, hI51, rfl⟩
  have hk := hI51
  have hla := hearA_len v a m
  refine EL.seq ?_
  refine EL.sreg ?_
  refine OW.run 2 (x' := ⟨(agoeq40 v a m k), (agoeq38 v a m)⟩) (by kernel_rfl) ?_
  refine OW.ope (v := VI (List.length ((hearA v a m).2.1) : Int)) (u := []) (acc := []) (x' := ⟨(agoeq41 v a m k), (agoeq38 v a m)⟩) (by kernel_rfl) (opE_len Msg.cs ((hearA v a m).2.1) (.s 170) 6 (by kernel_rfl) (by kernel_rfl) (.inl rfl)) (by kernel_rfl) ?_
  refine OW.last 1 [3, 4, 7, 8, 12, 172] (x' := ⟨(172, .v (.bool (decide ((k : Int) < (List.length ((hearA v a m).2.1) : Int))))) :: (agoeq39 v a m k), (agoeq38 v a m)⟩) (by kernel_rfl) (by kernel_rfl) ?_
  rcases Bool.eq_false_or_eq_true (decide ((k : Int) < (List.length ((hearA v a m).2.1) : Int))) with h52 | h52
  rw [h52]
  have g52 : ((k : Int) < (List.length ((hearA v a m).2.1) : Int)) := of_decide_eq_true h52
  have n52 : ((k) < (List.length ((hearA v a m).2.1))) := by omega
  refine EL.condT (by kernel_rfl) ?_
  refine EL.skip ?_
  refine thenL_norm ?_
  refine EL.seq ?_
  refine EL.block ?_
  refine EL.sdraw ?_
  refine DW.run 2 (x' := ⟨(agoeq42 k v a m), (agoeq38 v a m)⟩) (by kernel_rfl) ?_
  obtain ⟨a54, ha54⟩ : ∃ y, ((hearA v a m).2.1)[((k : Int) : Int).toNat]? = some y := idx_ex ⟨by omega, by omega⟩
  have iha54 : ((hearA v a m).2.1)[k]? = some a54 := by simpa using ha54
  have dha54 := drop_get iha54
  refine DW.ope (v := .pim [VI a54.kind, VI a54.op, VI a54.node, VI a54.copy.at_.time, VI a54.copy.at_.who, .v (.string a54.copy.data)] 0) (u := []) (acc := []) (x' := ⟨(agoeq53 a54 k v a m), (agoeq38 v a m)⟩) (by kernel_rfl) (opE_iad Msg.cs ((hearA v a m).2.1) (.s 175) (.s 176) 6 .i64 (k : Int) a54 (by kernel_rfl) (by kernel_rfl) (.inl rfl) rfl (by omega) ha54) (by kernel_rfl) ?_
  refine DW.last 8 [3, 4, 7, 8, 12, 185] (x' := ⟨(185, .v (.bool (!((a54.kind == 3) && ((a54.op == a.op) && ((a54.node == (k : Int)) && ((a54.copy.at_.time == ((((hearA v a m).1).best).at_).time) && ((a54.copy.at_.who == ((((hearA v a m).1).best).at_).who) && (strEq a54.copy.data ((((hearA v a m).1).best).data) && true))))))))) :: (agoeq39 v a m k), (agoeq38 v a m)⟩) (by kernel_rfl) (by kernel_rfl) ?_
  rcases Bool.eq_false_or_eq_true (((a54.kind == 3) && ((a54.op == a.op) && ((a54.node == (k : Int)) && ((a54.copy.at_.time == ((((hearA v a m).1).best).at_).time) && ((a54.copy.at_.who == ((((hearA v a m).1).best).at_).who) && (strEq a54.copy.data ((((hearA v a m).1).best).data) && true))))))) with h55 | h55
  rw [h55]
  refine EL.condF (by kernel_rfl) ?_
  refine EL.skip ?_
  refine inBlk_norm ?_
  refine thenL_norm ?_
  refine EL.reg0 ?_
  refine OW.run 3 (x' := ⟨(12, VI (IntKind.i64.wrap ((k : Int) + 1))) :: (174, VI (IntKind.i64.wrap ((k : Int) + 1))) :: (agoeq44 k v a m), (agoeq38 v a m)⟩) (by kernel_rfl) ?_
  have e56 : IntKind.i64.wrap ((k : Int) + 1) = (k : Int) + 1 := wr64 (by omega)
  rw [e56]
  refine OW.end 0 (x' := ⟨(agoeq45 k v a m), (agoeq38 v a m)⟩) (by kernel_rfl) (by kernel_rfl) ?_
  refine thenL_norm ?_
  refine round_end (live := [3, 4, 7, 8, 12]) (src := [.old 0 false, .old 1 false, .old 2 false]) (es := []) (y := (fun (k : Nat) => (⟨(agoeq39 v a m k), (agoeq38 v a m)⟩ : L3)) (k + 1)) ?_ trivial ?_ ⟨(k + 1), rfl, ?_, rfl⟩
  kernel_rfl
  omega
  focus (omega)
  rw [h55]
  refine EL.condT (by kernel_rfl) ?_
  refine EL.sreg ?_
  refine OW.last 1 [6] (x' := ⟨[(6, .v (.bool false))], (agoeq38 v a m)⟩) (by kernel_rfl) (by kernel_rfl) ?_
  refine EL.ret ?_
  refine inBlk_ret ?_
  refine thenL_ret ?_
  refine thenL_ret ?_
  refine inBlk_ret ?_
  refine thenL_ret ?_
  refine ⟨.inr rfl, .v (.bool false), by kernel_rfl, Ale.of_eq ?_⟩
  focus ((refine congrArg (fun b => AV.v (Value.bool b)) ?_; first | rfl | (have e9 := hear_zero (v := v) (a := a) (m := m) (by assumption); rw [e9.2]; rfl) | (have hg := goes (v := v) (a := a) (m := m) (by assumption); have hq9 := ask_ok hg.2.1; have hn9 := (msg_node hg.2.2.1).1; obtain ⟨⟨k1, k2, k3, k4, k5, k6⟩, _, _, k7, k8⟩ := hg; first | (exfalso; omega) | (exfalso; exact (by assumption : ¬ _ = _) k6) | (exfalso; exact absurd (by assumption) k3) | (have e9 := k7 (by omega); rw [e9]; rfl) | (have kk := k8 (by omega); obtain ⟨e1, e2, e3⟩ := kk; first | (exfalso; rw [e1] at *; simp_all; done) | (rcases Decidable.em (a.phase = 2) with hp2 | hp2 <;> first | (have ff := e2 hp2; obtain ⟨f1, f2⟩ := ff; first | (exfalso; omega) | (rw [f2]; simp [f1, strEq]; done) | (simp [f1, f2, strEq]; done) | (exfalso; simp only [f1] at *; simp_all; done) | (exfalso; simp only [f2] at *; simp_all [strEq]; done)) | (have ff := e3 hp2; obtain ⟨f1, f2, f3⟩ := ff; rcases (show a.kind = 1 ∨ a.kind = 2 by omega) with hk9 | hk9 <;> first | (have b5 := f2 hk9; first | (exfalso; omega) | (rw [f3, toAllM_len]; simp; done) | (exfalso; have hx9 := toAllM_get (n := v.weights.length) (m := ⟨3, a.op, 0, (hearA v a m).1.best⟩) (i := k) (by rw [← f3]; assumption); subst hx9; simp_all [strEq]; done) | (exfalso; rcases b5 with b5 | b5 <;> (simp only [b5] at *; simp_all [strEq]); done)) | (have ff := f1 hk9; obtain ⟨b1, b2, b3, b4⟩ := ff; first | (exfalso; exact absurd b1 (by assumption)) | (exfalso; exact absurd b2 (by assumption)) | (exfalso; exact absurd b3 (by assumption)) | (exfalso; omega) | (rw [f3, toAllM_len]; simp; done) | (exfalso; have hx9 := toAllM_get (n := v.weights.length) (m := ⟨3, a.op, 0, (hearA v a m).1.best⟩) (i := k) (by rw [← f3]; assumption); subst hx9; simp_all [strEq]; done)))))) | fail))
  rw [h52]
  have g52 : ¬ ((k : Int) < (List.length ((hearA v a m).2.1) : Int)) := of_decide_eq_false h52
  have n52 : ¬ ((k) < (List.length ((hearA v a m).2.1))) := by omega
  refine EL.condF (by kernel_rfl) ?_
  refine EL.exit ?_
  refine thenL_exit ?_
  refine thenL_exit ?_
  refine inBlk_hit ?_
  refine thenL_norm ?_
  refine EL.sreg ?_
  refine OW.run 1 (x' := ⟨(agoeq46 v a m k), (agoeq38 v a m)⟩) (by kernel_rfl) ?_
  refine OW.ope (v := VI (List.length ((hearA v a m).2.1) : Int)) (u := []) (acc := []) (x' := ⟨(agoeq47 v a m k), (agoeq38 v a m)⟩) (by kernel_rfl) (opE_len Msg.cs ((hearA v a m).2.1) (.s 186) 6 (by kernel_rfl) (by kernel_rfl) (.inl rfl)) (by kernel_rfl) ?_
  refine OW.run 2 (x' := ⟨(agoeq48 v a m k), (agoeq38 v a m)⟩) (by kernel_rfl) ?_
  refine OW.ope (v := VI (List.length v.weights : Int)) (u := []) (acc := []) (x' := ⟨(190, VI (List.length v.weights : Int)) :: (agoeq48 v a m k), (agoeq38 v a m)⟩) (by kernel_rfl) (opE_len cI v.weights (.s 189) 1 (by kernel_rfl) (by kernel_rfl) (.inl rfl)) (by kernel_rfl) ?_
  refine OW.last 2 [6] (x' := ⟨[(6, .v (.bool ((List.length ((hearA v a m).2.1) : Int) == (List.length v.weights : Int))))], (agoeq38 v a m)⟩) (by kernel_rfl) (by kernel_rfl) ?_
  refine EL.ret ?_
  refine ⟨.inr rfl, .v (.bool ((List.length ((hearA v a m).2.1) : Int) == (List.length v.weights : Int))), by kernel_rfl, Ale.of_eq ?_⟩
  focus ((refine congrArg (fun b => AV.v (Value.bool b)) ?_; first | rfl | (have e9 := hear_zero (v := v) (a := a) (m := m) (by assumption); rw [e9.2]; rfl) | (have hg := goes (v := v) (a := a) (m := m) (by assumption); have hq9 := ask_ok hg.2.1; have hn9 := (msg_node hg.2.2.1).1; obtain ⟨⟨k1, k2, k3, k4, k5, k6⟩, _, _, k7, k8⟩ := hg; first | (exfalso; omega) | (exfalso; exact (by assumption : ¬ _ = _) k6) | (exfalso; exact absurd (by assumption) k3) | (have e9 := k7 (by omega); rw [e9]; rfl) | (have kk := k8 (by omega); obtain ⟨e1, e2, e3⟩ := kk; first | (exfalso; rw [e1] at *; simp_all; done) | (rcases Decidable.em (a.phase = 2) with hp2 | hp2 <;> first | (have ff := e2 hp2; obtain ⟨f1, f2⟩ := ff; first | (exfalso; omega) | (rw [f2]; simp [f1, strEq]; done) | (simp [f1, f2, strEq]; done) | (exfalso; simp only [f1] at *; simp_all; done) | (exfalso; simp only [f2] at *; simp_all [strEq]; done)) | (have ff := e3 hp2; obtain ⟨f1, f2, f3⟩ := ff; rcases (show a.kind = 1 ∨ a.kind = 2 by omega) with hk9 | hk9 <;> first | (have b5 := f2 hk9; first | (exfalso; omega) | (rw [f3, toAllM_len]; simp; done) | (exfalso; have hx9 := toAllM_get (n := v.weights.length) (m := ⟨3, a.op, 0, (hearA v a m).1.best⟩) (i := k) (by rw [← f3]; assumption); subst hx9; simp_all [strEq]; done) | (exfalso; rcases b5 with b5 | b5 <;> (simp only [b5] at *; simp_all [strEq]); done)) | (have ff := f1 hk9; obtain ⟨b1, b2, b3, b4⟩ := ff; first | (exfalso; exact absurd b1 (by assumption)) | (exfalso; exact absurd b2 (by assumption)) | (exfalso; exact absurd b3 (by assumption)) | (exfalso; omega) | (rw [f3, toAllM_len]; simp; done) | (exfalso; have hx9 := toAllM_get (n := v.weights.length) (m := ⟨3, a.op, 0, (hearA v a m).1.best⟩) (i := k) (by rw [← f3]; assumption); subst hx9; simp_all [strEq]; done)))))) | fail))
  rw [h50]
  refine EL.condT (by kernel_rfl) ?_
  refine EL.sreg ?_
  refine OW.last 1 [6] (x' := ⟨[(6, .v (.bool false))], (agoeq10 v a m)⟩) (by kernel_rfl) (by kernel_rfl) ?_
  refine EL.ret ?_
  refine thenL_ret ?_
  refine ⟨.inr rfl, .v (.bool false), by kernel_rfl, Ale.of_eq ?_⟩
  focus ((refine congrArg (fun b => AV.v (Value.bool b)) ?_; first | rfl | (have e9 := hear_zero (v := v) (a := a) (m := m) (by assumption); rw [e9.2]; rfl) | (have hg := goes (v := v) (a := a) (m := m) (by assumption); have hq9 := ask_ok hg.2.1; have hn9 := (msg_node hg.2.2.1).1; obtain ⟨⟨k1, k2, k3, k4, k5, k6⟩, _, _, k7, k8⟩ := hg; first | (exfalso; omega) | (exfalso; exact (by assumption : ¬ _ = _) k6) | (exfalso; exact absurd (by assumption) k3) | (have e9 := k7 (by omega); rw [e9]; rfl) | (have kk := k8 (by omega); obtain ⟨e1, e2, e3⟩ := kk; first | (exfalso; rw [e1] at *; simp_all; done) | (rcases Decidable.em (a.phase = 2) with hp2 | hp2 <;> first | (have ff := e2 hp2; obtain ⟨f1, f2⟩ := ff; first | (exfalso; omega) | (rw [f2]; simp [f1, strEq]; done) | (simp [f1, f2, strEq]; done) | (exfalso; simp only [f1] at *; simp_all; done) | (exfalso; simp only [f2] at *; simp_all [strEq]; done)) | (have ff := e3 hp2; obtain ⟨f1, f2, f3⟩ := ff; rcases (show a.kind = 1 ∨ a.kind = 2 by omega) with hk9 | hk9 <;> first | (have b5 := f2 hk9; first | (exfalso; omega) | (rw [f3, toAllM_len]; simp; done) | (exfalso; have hx9 := toAllM_get (n := v.weights.length) (m := ⟨3, a.op, 0, (hearA v a m).1.best⟩) (i := k) (by rw [← f3]; assumption); subst hx9; simp_all [strEq]; done) | (exfalso; rcases b5 with b5 | b5 <;> (simp only [b5] at *; simp_all [strEq]); done)) | (have ff := f1 hk9; obtain ⟨b1, b2, b3, b4⟩ := ff; first | (exfalso; exact absurd b1 (by assumption)) | (exfalso; exact absurd b2 (by assumption)) | (exfalso; exact absurd b3 (by assumption)) | (exfalso; omega) | (rw [f3, toAllM_len]; simp; done) | (exfalso; have hx9 := toAllM_get (n := v.weights.length) (m := ⟨3, a.op, 0, (hearA v a m).1.best⟩) (i := k) (by rw [← f3]; assumption); subst hx9; simp_all [strEq]; done)))))) | fail))
  rw [h42]
  have g42 : ¬ (a.kind = 1) := by simpa using h42
  refine OW.last 13 [3, 4, 7, 8, 168] (x' := ⟨(agoeq36 v a m), (agoeq10 v a m)⟩) (by kernel_rfl) (by kernel_rfl) ?_
  refine EL.condF (by kernel_rfl) ?_
  refine EL.skip ?_
  refine thenL_norm ?_
  refine EL.seq ?_
  refine EL.sreg ?_
  refine OW.last 1 [3, 4, 7, 8, 12] (x' := ⟨(agoeq37 v a m), (agoeq10 v a m)⟩) (by kernel_rfl) (by kernel_rfl) ?_
  refine EL.block ?_
  refine EL.loopN (fun mM xX => ∃ (k : Nat), mM = (hearA v a m).2.1.length - k ∧ (k ≤ (hearA v a m).2.1.length) ∧ xX = ⟨(agoeq39 v a m k), (agoeq38 v a m)⟩) (y := (fun (k : Nat) => (⟨(agoeq39 v a m k), (agoeq38 v a m)⟩ : L3)) 0) [3, 4, 7, 8, 12] [.old 0 false, .old 1 false, .old 3 false] [] (by kernel_rfl) trivial ⟨0, rfl, by omega, rfl⟩ ?_
  rintro _ _ ⟨k, rfl, hI57, rfl⟩
  have hk := hI57
  have hla := hearA_len v a m
  refine EL.seq ?_
  refine EL.sreg ?_
  refine OW.run 2 (x' := ⟨(agoeq40 v a m k), (agoeq38 v a m)⟩) (by kernel_rfl) ?_
  refine OW.ope (v := VI (List.length ((hearA v a m).2.1) : Int)) (u := []) (acc := []) (x' := ⟨(agoeq41 v a m k), (agoeq38 v a m)⟩) (by kernel_rfl) (opE_len Msg.cs ((hearA v a m).2.1) (.s 170) 6 (by kernel_rfl) (by kernel_rfl) (.inl rfl)) (by kernel_rfl) ?_
  refine OW.last 1 [3, 4, 7, 8, 12, 172] (x' := ⟨(172, .v (.bool (decide ((k : Int) < (List.length ((hearA v a m).2.1) : Int))))) :: (agoeq39 v a m k), (agoeq38 v a m)⟩) (by kernel_rfl) (by kernel_rfl) ?_
  rcases Bool.eq_false_or_eq_true (decide ((k : Int) < (List.length ((hearA v a m).2.1) : Int))) with h58 | h58
  rw [h58]
  have g58 : ((k : Int) < (List.length ((hearA v a m).2.1) : Int)) := of_decide_eq_true h58
  have n58 : ((k) < (List.length ((hearA v a m).2.1))) := by omega
  refine EL.condT (by kernel_rfl) ?_
  refine EL.skip ?_
  refine thenL_norm ?_
  refine EL.seq ?_
  refine EL.block ?_
  refine EL.sdraw ?_
  refine DW.run 2 (x' := ⟨(agoeq42 k v a m), (agoeq38 v a m)⟩) (by kernel_rfl) ?_
  obtain ⟨a60, ha60⟩ : ∃ y, ((hearA v a m).2.1)[((k : Int) : Int).toNat]? = some y := idx_ex ⟨by omega, by omega⟩
  have iha60 : ((hearA v a m).2.1)[k]? = some a60 := by simpa using ha60
  have dha60 := drop_get iha60
  refine DW.ope (v := .pim [VI a60.kind, VI a60.op, VI a60.node, VI a60.copy.at_.time, VI a60.copy.at_.who, .v (.string a60.copy.data)] 0) (u := []) (acc := []) (x' := ⟨(agoeq54 a60 k v a m), (agoeq38 v a m)⟩) (by kernel_rfl) (opE_iad Msg.cs ((hearA v a m).2.1) (.s 175) (.s 176) 6 .i64 (k : Int) a60 (by kernel_rfl) (by kernel_rfl) (.inl rfl) rfl (by omega) ha60) (by kernel_rfl) ?_
  refine DW.last 8 [3, 4, 7, 8, 12, 185] (x' := ⟨(185, .v (.bool (!((a60.kind == 3) && ((a60.op == a.op) && ((a60.node == (k : Int)) && ((a60.copy.at_.time == ((((hearA v a m).1).best).at_).time) && ((a60.copy.at_.who == ((((hearA v a m).1).best).at_).who) && (strEq a60.copy.data ((((hearA v a m).1).best).data) && true))))))))) :: (agoeq39 v a m k), (agoeq38 v a m)⟩) (by kernel_rfl) (by kernel_rfl) ?_
  rcases Bool.eq_false_or_eq_true (((a60.kind == 3) && ((a60.op == a.op) && ((a60.node == (k : Int)) && ((a60.copy.at_.time == ((((hearA v a m).1).best).at_).time) && ((a60.copy.at_.who == ((((hearA v a m).1).best).at_).who) && (strEq a60.copy.data ((((hearA v a m).1).best).data) && true))))))) with h61 | h61
  rw [h61]
  refine EL.condF (by kernel_rfl) ?_
  refine EL.skip ?_
  refine inBlk_norm ?_
  refine thenL_norm ?_
  refine EL.reg0 ?_
  refine OW.run 3 (x' := ⟨(12, VI (IntKind.i64.wrap ((k : Int) + 1))) :: (174, VI (IntKind.i64.wrap ((k : Int) + 1))) :: (agoeq44 k v a m), (agoeq38 v a m)⟩) (by kernel_rfl) ?_
  have e62 : IntKind.i64.wrap ((k : Int) + 1) = (k : Int) + 1 := wr64 (by omega)
  rw [e62]
  refine OW.end 0 (x' := ⟨(agoeq45 k v a m), (agoeq38 v a m)⟩) (by kernel_rfl) (by kernel_rfl) ?_
  refine thenL_norm ?_
  refine round_end (live := [3, 4, 7, 8, 12]) (src := [.old 0 false, .old 1 false, .old 2 false]) (es := []) (y := (fun (k : Nat) => (⟨(agoeq39 v a m k), (agoeq38 v a m)⟩ : L3)) (k + 1)) ?_ trivial ?_ ⟨(k + 1), rfl, ?_, rfl⟩
  kernel_rfl
  omega
  focus (omega)
  rw [h61]
  refine EL.condT (by kernel_rfl) ?_
  refine EL.sreg ?_
  refine OW.last 1 [6] (x' := ⟨[(6, .v (.bool false))], (agoeq38 v a m)⟩) (by kernel_rfl) (by kernel_rfl) ?_
  refine EL.ret ?_
  refine inBlk_ret ?_
  refine thenL_ret ?_
  refine thenL_ret ?_
  refine inBlk_ret ?_
  refine thenL_ret ?_
  refine ⟨.inr rfl, .v (.bool false), by kernel_rfl, Ale.of_eq ?_⟩
  focus ((refine congrArg (fun b => AV.v (Value.bool b)) ?_; first | rfl | (have e9 := hear_zero (v := v) (a := a) (m := m) (by assumption); rw [e9.2]; rfl) | (have hg := goes (v := v) (a := a) (m := m) (by assumption); have hq9 := ask_ok hg.2.1; have hn9 := (msg_node hg.2.2.1).1; obtain ⟨⟨k1, k2, k3, k4, k5, k6⟩, _, _, k7, k8⟩ := hg; first | (exfalso; omega) | (exfalso; exact (by assumption : ¬ _ = _) k6) | (exfalso; exact absurd (by assumption) k3) | (have e9 := k7 (by omega); rw [e9]; rfl) | (have kk := k8 (by omega); obtain ⟨e1, e2, e3⟩ := kk; first | (exfalso; rw [e1] at *; simp_all; done) | (rcases Decidable.em (a.phase = 2) with hp2 | hp2 <;> first | (have ff := e2 hp2; obtain ⟨f1, f2⟩ := ff; first | (exfalso; omega) | (rw [f2]; simp [f1, strEq]; done) | (simp [f1, f2, strEq]; done) | (exfalso; simp only [f1] at *; simp_all; done) | (exfalso; simp only [f2] at *; simp_all [strEq]; done)) | (have ff := e3 hp2; obtain ⟨f1, f2, f3⟩ := ff; rcases (show a.kind = 1 ∨ a.kind = 2 by omega) with hk9 | hk9 <;> first | (have b5 := f2 hk9; first | (exfalso; omega) | (rw [f3, toAllM_len]; simp; done) | (exfalso; have hx9 := toAllM_get (n := v.weights.length) (m := ⟨3, a.op, 0, (hearA v a m).1.best⟩) (i := k) (by rw [← f3]; assumption); subst hx9; simp_all [strEq]; done) | (exfalso; rcases b5 with b5 | b5 <;> (simp only [b5] at *; simp_all [strEq]); done)) | (have ff := f1 hk9; obtain ⟨b1, b2, b3, b4⟩ := ff; first | (exfalso; exact absurd b1 (by assumption)) | (exfalso; exact absurd b2 (by assumption)) | (exfalso; exact absurd b3 (by assumption)) | (exfalso; omega) | (rw [f3, toAllM_len]; simp; done) | (exfalso; have hx9 := toAllM_get (n := v.weights.length) (m := ⟨3, a.op, 0, (hearA v a m).1.best⟩) (i := k) (by rw [← f3]; assumption); subst hx9; simp_all [strEq]; done)))))) | fail))
  rw [h58]
  have g58 : ¬ ((k : Int) < (List.length ((hearA v a m).2.1) : Int)) := of_decide_eq_false h58
  have n58 : ¬ ((k) < (List.length ((hearA v a m).2.1))) := by omega
  refine EL.condF (by kernel_rfl) ?_
  refine EL.exit ?_
  refine thenL_exit ?_
  refine thenL_exit ?_
  refine inBlk_hit ?_
  refine thenL_norm ?_
  refine EL.sreg ?_
  refine OW.run 1 (x' := ⟨(agoeq46 v a m k), (agoeq38 v a m)⟩) (by kernel_rfl) ?_
  refine OW.ope (v := VI (List.length ((hearA v a m).2.1) : Int)) (u := []) (acc := []) (x' := ⟨(agoeq47 v a m k), (agoeq38 v a m)⟩) (by kernel_rfl) (opE_len Msg.cs ((hearA v a m).2.1) (.s 186) 6 (by kernel_rfl) (by kernel_rfl) (.inl rfl)) (by kernel_rfl) ?_
  refine OW.run 2 (x' := ⟨(agoeq48 v a m k), (agoeq38 v a m)⟩) (by kernel_rfl) ?_
  refine OW.ope (v := VI (List.length v.weights : Int)) (u := []) (acc := []) (x' := ⟨(190, VI (List.length v.weights : Int)) :: (agoeq48 v a m k), (agoeq38 v a m)⟩) (by kernel_rfl) (opE_len cI v.weights (.s 189) 1 (by kernel_rfl) (by kernel_rfl) (.inl rfl)) (by kernel_rfl) ?_
  refine OW.last 2 [6] (x' := ⟨[(6, .v (.bool ((List.length ((hearA v a m).2.1) : Int) == (List.length v.weights : Int))))], (agoeq38 v a m)⟩) (by kernel_rfl) (by kernel_rfl) ?_
  refine EL.ret ?_
  refine ⟨.inr rfl, .v (.bool ((List.length ((hearA v a m).2.1) : Int) == (List.length v.weights : Int))), by kernel_rfl, Ale.of_eq ?_⟩
  focus ((refine congrArg (fun b => AV.v (Value.bool b)) ?_; first | rfl | (have e9 := hear_zero (v := v) (a := a) (m := m) (by assumption); rw [e9.2]; rfl) | (have hg := goes (v := v) (a := a) (m := m) (by assumption); have hq9 := ask_ok hg.2.1; have hn9 := (msg_node hg.2.2.1).1; obtain ⟨⟨k1, k2, k3, k4, k5, k6⟩, _, _, k7, k8⟩ := hg; first | (exfalso; omega) | (exfalso; exact (by assumption : ¬ _ = _) k6) | (exfalso; exact absurd (by assumption) k3) | (have e9 := k7 (by omega); rw [e9]; rfl) | (have kk := k8 (by omega); obtain ⟨e1, e2, e3⟩ := kk; first | (exfalso; rw [e1] at *; simp_all; done) | (rcases Decidable.em (a.phase = 2) with hp2 | hp2 <;> first | (have ff := e2 hp2; obtain ⟨f1, f2⟩ := ff; first | (exfalso; omega) | (rw [f2]; simp [f1, strEq]; done) | (simp [f1, f2, strEq]; done) | (exfalso; simp only [f1] at *; simp_all; done) | (exfalso; simp only [f2] at *; simp_all [strEq]; done)) | (have ff := e3 hp2; obtain ⟨f1, f2, f3⟩ := ff; rcases (show a.kind = 1 ∨ a.kind = 2 by omega) with hk9 | hk9 <;> first | (have b5 := f2 hk9; first | (exfalso; omega) | (rw [f3, toAllM_len]; simp; done) | (exfalso; have hx9 := toAllM_get (n := v.weights.length) (m := ⟨3, a.op, 0, (hearA v a m).1.best⟩) (i := k) (by rw [← f3]; assumption); subst hx9; simp_all [strEq]; done) | (exfalso; rcases b5 with b5 | b5 <;> (simp only [b5] at *; simp_all [strEq]); done)) | (have ff := f1 hk9; obtain ⟨b1, b2, b3, b4⟩ := ff; first | (exfalso; exact absurd b1 (by assumption)) | (exfalso; exact absurd b2 (by assumption)) | (exfalso; exact absurd b3 (by assumption)) | (exfalso; omega) | (rw [f3, toAllM_len]; simp; done) | (exfalso; have hx9 := toAllM_get (n := v.weights.length) (m := ⟨3, a.op, 0, (hearA v a m).1.best⟩) (i := k) (by rw [← f3]; assumption); subst hx9; simp_all [strEq]; done)))))) | fail))
  rw [h13]
  refine EL.condT (by kernel_rfl) ?_
  refine EL.sreg ?_
  refine OW.last 1 [6] (x' := ⟨[(6, .v (.bool false))], (agoeq10 v a m)⟩) (by kernel_rfl) (by kernel_rfl) ?_
  refine EL.ret ?_
  refine thenL_ret ?_
  refine ⟨.inr rfl, .v (.bool false), by kernel_rfl, Ale.of_eq ?_⟩
  focus ((refine congrArg (fun b => AV.v (Value.bool b)) ?_; first | rfl | (have e9 := hear_zero (v := v) (a := a) (m := m) (by assumption); rw [e9.2]; rfl) | (have hg := goes (v := v) (a := a) (m := m) (by assumption); have hq9 := ask_ok hg.2.1; have hn9 := (msg_node hg.2.2.1).1; obtain ⟨⟨k1, k2, k3, k4, k5, k6⟩, _, _, k7, k8⟩ := hg; first | (exfalso; omega) | (exfalso; exact (by assumption : ¬ _ = _) k6) | (exfalso; exact absurd (by assumption) k3) | (have e9 := k7 (by omega); rw [e9]; rfl) | (have kk := k8 (by omega); obtain ⟨e1, e2, e3⟩ := kk; first | (exfalso; rw [e1] at *; simp_all; done) | (rcases Decidable.em (a.phase = 2) with hp2 | hp2 <;> first | (have ff := e2 hp2; obtain ⟨f1, f2⟩ := ff; first | (exfalso; omega) | (rw [f2]; simp [f1, strEq]; done) | (simp [f1, f2, strEq]; done) | (exfalso; simp only [f1] at *; simp_all; done) | (exfalso; simp only [f2] at *; simp_all [strEq]; done)) | (have ff := e3 hp2; obtain ⟨f1, f2, f3⟩ := ff; rcases (show a.kind = 1 ∨ a.kind = 2 by omega) with hk9 | hk9 <;> first | (have b5 := f2 hk9; first | (exfalso; omega) | (rw [f3, toAllM_len]; simp; done) | (exfalso; have hx9 := toAllM_get (n := v.weights.length) (m := ⟨3, a.op, 0, (hearA v a m).1.best⟩) (i := k) (by rw [← f3]; assumption); subst hx9; simp_all [strEq]; done) | (exfalso; rcases b5 with b5 | b5 <;> (simp only [b5] at *; simp_all [strEq]); done)) | (have ff := f1 hk9; obtain ⟨b1, b2, b3, b4⟩ := ff; first | (exfalso; exact absurd b1 (by assumption)) | (exfalso; exact absurd b2 (by assumption)) | (exfalso; exact absurd b3 (by assumption)) | (exfalso; omega) | (rw [f3, toAllM_len]; simp; done) | (exfalso; have hx9 := toAllM_get (n := v.weights.length) (m := ⟨3, a.op, 0, (hearA v a m).1.best⟩) (i := k) (by rw [← f3]; assumption); subst hx9; simp_all [strEq]; done)))))) | fail))
  rw [h8]
  have g8 : ¬ ((((hearA v a m).1).data) = a.data) := fun hh => Bool.noConfusion ((strEq_iff.2 hh).symm.trans h8)
  refine EL.condT (by kernel_rfl) ?_
  refine EL.sreg ?_
  refine OW.last 1 [6] (x' := ⟨[(6, .v (.bool false))], (agoeq10 v a m)⟩) (by kernel_rfl) (by kernel_rfl) ?_
  refine EL.ret ?_
  refine thenL_ret ?_
  refine ⟨.inr rfl, .v (.bool false), by kernel_rfl, Ale.of_eq ?_⟩
  focus ((refine congrArg (fun b => AV.v (Value.bool b)) ?_; first | rfl | (have e9 := hear_zero (v := v) (a := a) (m := m) (by assumption); rw [e9.2]; rfl) | (have hg := goes (v := v) (a := a) (m := m) (by assumption); have hq9 := ask_ok hg.2.1; have hn9 := (msg_node hg.2.2.1).1; obtain ⟨⟨k1, k2, k3, k4, k5, k6⟩, _, _, k7, k8⟩ := hg; first | (exfalso; omega) | (exfalso; exact (by assumption : ¬ _ = _) k6) | (exfalso; exact absurd (by assumption) k3) | (have e9 := k7 (by omega); rw [e9]; rfl) | (have kk := k8 (by omega); obtain ⟨e1, e2, e3⟩ := kk; first | (exfalso; rw [e1] at *; simp_all; done) | (rcases Decidable.em (a.phase = 2) with hp2 | hp2 <;> first | (have ff := e2 hp2; obtain ⟨f1, f2⟩ := ff; first | (exfalso; omega) | (rw [f2]; simp [f1, strEq]; done) | (simp [f1, f2, strEq]; done) | (exfalso; simp only [f1] at *; simp_all; done) | (exfalso; simp only [f2] at *; simp_all [strEq]; done)) | (have ff := e3 hp2; obtain ⟨f1, f2, f3⟩ := ff; rcases (show a.kind = 1 ∨ a.kind = 2 by omega) with hk9 | hk9 <;> first | (have b5 := f2 hk9; first | (exfalso; omega) | (rw [f3, toAllM_len]; simp; done) | (exfalso; have hx9 := toAllM_get (n := v.weights.length) (m := ⟨3, a.op, 0, (hearA v a m).1.best⟩) (i := k) (by rw [← f3]; assumption); subst hx9; simp_all [strEq]; done) | (exfalso; rcases b5 with b5 | b5 <;> (simp only [b5] at *; simp_all [strEq]); done)) | (have ff := f1 hk9; obtain ⟨b1, b2, b3, b4⟩ := ff; first | (exfalso; exact absurd b1 (by assumption)) | (exfalso; exact absurd b2 (by assumption)) | (exfalso; exact absurd b3 (by assumption)) | (exfalso; omega) | (rw [f3, toAllM_len]; simp; done) | (exfalso; have hx9 := toAllM_get (n := v.weights.length) (m := ⟨3, a.op, 0, (hearA v a m).1.best⟩) (i := k) (by rw [← f3]; assumption); subst hx9; simp_all [strEq]; done)))))) | fail))
theorem AskGoes_walk {w : World} (hG : GlE (E0 w fun b => b < w.heap.size)) (v : Voters) (csv : List Value) (rv : GoT.rep w w.heap.size csv v) (a : Ask) (_oka : a.ok) (m : Msg) (_okm : m.ok) : Calls Tryd.prog 6 #[.agg csv.toArray, a.v, m.v] w fun e w' => e = .returned (.bool true) ∧ Below w.heap.size w w' := by
  have lv := (Voters.av rv).2
  exact fn_law (vs := [.agg csv.toArray, a.v, m.v]) (askGoes_fn v a m (by first | assumption | omega)) hG (.cons ((Voters.av rv).1) (.cons ((R2.agg (.cons (.v rfl) (.cons (.v rfl) (.cons (.v rfl) (.cons (.v rfl) (.cons (.v rfl) (.cons (.v rfl) (.cons (.v rfl) (.cons (.v rfl) (.nil))))))))) : Rep _ a.v _)) (.cons ((R2.agg (.cons (.v rfl) (.cons (.v rfl) (.cons (.v rfl) (.cons (.v rfl) (.cons (.v rfl) (.cons (.v rfl) (.nil))))))) : Rep _ m.v _)) (.nil))))
theorem AskGoes_own : ownKnob Tryd.prog.godebug = none := by kernel_rfl
theorem AskGoes_laidOut : laidOutB Tryd.prog = true := by kernel_rfl
set_option maxRecDepth 100000 in
set_option linter.unusedVariables false in
theorem AskGoes_lifted (os : Os) (started : os.Started) (H : Type) (enc : TypeId × Value → H) :
    ReturnsInHanded {} Tryd.checked os 6 .any (fun w args => (Rows.askGoesSpec.pre enc Tryd.prog Tryd.f6 [] false w args ∧ laidMetH Tryd.prog Rows.askGoesRow.laid w) ∧ sizedMet enc Tryd.prog Tryd.f6 (OpenSpec.ofChange Rows.askGoesSpec) false w args)
      (Rows.askGoesSpec.post enc Tryd.prog Tryd.f6 false true false false) := by
  refine returnsInHanded_of_change_and (C := Tryd.checked) (X := fun w _ => laidMetH Tryd.prog Rows.askGoesRow.laid w) (fun _ _ _ hh h => h.of_heap hh) AskGoes_own started (by kernel_rfl) Tryd.func6
    (ChangeSpec.witness_shaped (enc := enc) (C := Tryd.checked) (os := os) (X := fun w _ => laidMetH Tryd.prog Rows.askGoesRow.laid w) false (World.doorLaid Tryd.prog 14 os) #[.agg #[.slice none 0 0, .int .i64 0], .agg #[.int .i64 0, .int .i64 0, .int .i64 0, .string ByteArray.empty, .int .i64 0, .int .i64 0, .string ByteArray.empty, .int .u64 0], .agg #[.int .i64 0, .int .i64 0, .int .i64 0, .int .i64 0, .int .i64 0, .string ByteArray.empty]] 8 rfl (World.shaped_of_RefB (by kernel_rfl) (by kernel_rfl)) (by kernel_rfl) (by kernel_rfl) (by kernel_rfl) (laidMetH_of_parts3 (fuel := 8) (laidMet_of_run' 8 (by kernel_rfl) (by kernel_rfl)) (by kernel_rfl) (by kernel_rfl))) ?_
  intro W base args ds gs before hval0 hW _ _ hL _
  have hval : ∀ (j : Nat) t v, Tryd.f6.params[j]? = some t → args[j]? = some v → Value.okWide Tryd.prog W .any base t v := hval0
  have hW' := hW
  obtain ⟨p, q, hA0, hV, rfl, hfz, hnd⟩ := hW
  have hA : DataW.TrodAll enc Tryd.prog W 0 (fun _ => true) true Tryd.f6.params.toList args.toList ds p := hA0
  rw [Tryd.params6] at hA hval
  obtain ⟨v0, vs0, d0, ds0, p0, q0, hargs, rfl, rfl, h0, r0⟩ := trodAll_cons hA
  obtain ⟨v1, vs1, d1, ds1, p1, q1, rfl, rfl, rfl, h1, r1⟩ := trodAll_cons r0
  obtain ⟨v2, vs2, d2, ds2, p2, q2, rfl, rfl, rfl, h2, r2⟩ := trodAll_cons r1
  obtain ⟨rfl, rfl, rfl⟩ := trodAll_nil r2
  obtain rfl : args = #[v0, v1, v2] := by cases args; simp_all
  obtain ⟨rfl, rfl⟩ := trodVars_none hV
  have k0 := h0
  have lt0 : ∀ x ∈ p0, x.block < W.heap.size := by obtain ⟨m, hm⟩ := k0; exact DataW.trod_lt m _ _ _ hm
  obtain ⟨x0, cs0, rfl, w0⟩ := open_agg opens_Voters Tryd.underlying24 (hval 0 24 v0 rfl rfl) h0
  have k1 := h1
  have lt1 : ∀ x ∈ p1, x.block < W.heap.size := by obtain ⟨m, hm⟩ := k1; exact DataW.trod_lt m _ _ _ hm
  obtain ⟨x1, cs1, rfl, w1⟩ := open_agg opens_Ask Tryd.underlying31 (hval 1 31 v1 rfl rfl) h1
  obtain ⟨rfl, ok1⟩ := Ask.flat w1
  have k2 := h2
  have lt2 : ∀ x ∈ p2, x.block < W.heap.size := by obtain ⟨m, hm⟩ := k2; exact DataW.trod_lt m _ _ _ hm
  obtain ⟨x2, cs2, rfl, w2⟩ := open_agg opens_Msg Tryd.underlying33 (hval 2 33 v2 rfl rfl) h2
  obtain ⟨rfl, ok2⟩ := Msg.flat w2
  clear hA0 hval0
  refine (AskGoes_walk (w := W) (glE_of hL) x0 cs0 w0 x1 ok1 x2 ok2).mono fun e W' ⟨he, bel⟩ => ?_
  subst he
  exact ⟨_, rfl, _, _, _, [], _, [], hW', trodAll_mk1 (shut_bool Tryd.underlying4 _), (trodAll_cons_mk (Below.trod AskGoes_laidOut (by kernel_rfl) (of_decide_eq_true (by kernel_rfl)) k0 bel lt0) (trodAll_cons_mk (Below.trod AskGoes_laidOut (by kernel_rfl) (of_decide_eq_true (by kernel_rfl)) k1 bel lt1) (trodAll_cons_mk (Below.trod AskGoes_laidOut (by kernel_rfl) (of_decide_eq_true (by kernel_rfl)) k2 bel lt2) trodAll_mk0))), rfl, bel.frame _, fun h => by cases h⟩
set_option maxRecDepth 100000 in
set_option maxHeartbeats 4000000 in
theorem AskGoes_row : Rows.AskGoesSaid :=
  OpenClaim.holds_of_wide 6 Tryd.f6 rfl rfl rfl rfl rfl rfl rfl ⟨rfl, rfl, rfl, rfl, rfl⟩ rfl rfl rfl rfl rfl (by kernel_rfl) Tryd.func6 (by kernel_rfl)
    (of_decide_eq_true (by kernel_rfl)) (by unfold Func.isWrapper; first | (rw [if_pos (by decide +kernel)]; kernel_rfl) | (rw [if_neg (by decide +kernel)]; exact ⟨rfl, rfl⟩))
    (fun os started H enc _ => AskGoes_lifted os started H enc)
set_option maxRecDepth 100000 in
set_option maxHeartbeats 4000000 in
theorem AskGoes_holds : Rows.AskGoesCardSaid :=
  Claim7.holds_tied_plain_at .later [] [.data] true (true, "5bc4e28d4169921c484dbcdca1986270267f967a52b7c27f070fd8606f0cf834") false
    AskGoes_row (fun _ h => by cases h) (by kernel_rfl) (fun _ h => by cases h) askGoes_row_tie rfl ⟨rfl, rfl⟩ (by kernel_rfl) rfl
    (fun f fn hf hfn => by
      obtain rfl : f = 6 := Option.some.inj ((show Tryd.prog.funcNamed "supercargo/supercargolaw.AskGoes" = some 6 by kernel_rfl).symm.trans hf) |>.symm
      obtain rfl : fn = Tryd.f6 := (Option.some.inj (Tryd.func6.symm.trans hfn)).symm
      exact ⟨by kernel_rfl, fun j t ht => by
        rw [Tryd.params6] at ht
        have hm : t ∈ [24, 31, 33] := by simpa using Array.mem_of_getElem? ht
        have hall : ([24, 31, 33].all fun u => !Tryd.prog.wantsStandIn u) = true := by kernel_rfl
        exact (show Tryd.prog.wantsStandIn t = false by simpa using List.all_eq_true.1 hall t hm)⟩)
    (by kernel_rfl)
end Go.Proofs.YtgepadjkegfokaaDoor
