/- Nothing is known to be applied that is not; what is known and applied never falls, but by a turn: the law ShipKnows returns true. No condition. -/
import Derived.Test.YthdcanpbgaaneaaPShipP
import Derived.Test.YthdcanpbgaaneaaPShipL
import Derived.WalkKit
import Derived.Handy
import Derived.ProofKit
import Derived.OpenShut
import Derived.ShutString
import Derived.ChangeOld
import Derived.Below
import Derived.Lib.Hide
import Derived.WalkLawsBesides
import Derived.WalkSpells
import Derived.Deep.QuietTactic
import Derived.BigQuiet
import Derived.Outline
namespace Go.Proofs.Ythdcanpbgaaneaa
set_option linter.unusedSimpArgs false
set_option linter.unusedVariables false
open Go.ChangeShapes Go.WideShapes Go.ChangeAt Go.RowKit
open Go.ChangeMaps (open_string shut_string)
set_option maxRecDepth 100000
set_option maxHeartbeats 4000000
abbrev skq0 (s : Ship) : OB := some ⟨8, [[.lst 1 (s.first.map cZ), .lst 1 (s.second.map cZ), .lst 2 (s.log.map Record.cs), VI s.sent, VI s.applied, VI s.known, .lst 1 (s.there.map cI), .lst 1 (s.back.map cI)]]⟩
abbrev skq1 (s : Ship) (a : Act) : LB := [(skq0 s), some ⟨3, [[VI a.kind, VI a.n, .v (.string a.data)]]⟩]
abbrev skq2 (s : Ship) : AV := .agg [.lst 1 (s.first.map cZ), .lst 1 (s.second.map cZ), .lst 2 (s.log.map Record.cs), VI s.sent, VI s.applied, VI s.known, .lst 1 (s.there.map cI), .lst 1 (s.back.map cI)]
abbrev skq3 (a : Act) (s : Ship) : LS := [(9, .agg [VI a.kind, VI a.n, .v (.string a.data)]), (8, (skq2 s)), (3, .ref 1 3 0 0), (2, .ref 0 8 0 0)]
abbrev skq4 (s : Ship) (a : Act) : AV := .agg [.lst 1 ((((s.doP a).1).first).map cZ), .lst 1 ((((s.doP a).1).second).map cZ), .lst 2 ((((s.doP a).1).log).map Record.cs), VI (((s.doP a).1).sent), VI (((s.doP a).1).applied), VI (((s.doP a).1).known), .lst 1 ((((s.doP a).1).there).map cI), .lst 1 ((((s.doP a).1).back).map cI)]
abbrev skq5 (s : Ship) (a : Act) : LS := (10, .tup [(skq4 s a), VI ((s.doP a).2)]) :: (skq3 a s)
abbrev skq6 (s : Ship) (a : Act) : OB := some ⟨8, [[.lst 1 ((((s.doP a).1).first).map cZ), .lst 1 ((((s.doP a).1).second).map cZ), .lst 2 ((((s.doP a).1).log).map Record.cs), VI (((s.doP a).1).sent), VI (((s.doP a).1).applied), VI (((s.doP a).1).known), .lst 1 ((((s.doP a).1).there).map cI), .lst 1 ((((s.doP a).1).back).map cI)]]⟩
abbrev skq7 (s : Ship) (a : Act) : LB := [(skq0 s), some ⟨3, [[VI a.kind, VI a.n, .v (.string a.data)]]⟩, (skq6 s a)]
abbrev skq8 (s : Ship) (a : Act) : LS := [(6, VI ((s.doP a).2)), (5, .ref 2 8 0 0), (3, .ref 1 3 0 0), (2, .ref 0 8 0 0)]
abbrev skq9 : LS := [(5, .ref 2 8 0 0), (3, .ref 1 3 0 0), (2, .ref 0 8 0 0)]
abbrev skq10 (s : Ship) (a : Act) : LS := (18, .agg [.emp, .emp, .emp, VI 0, VI 0, VI 0, .emp, .emp]) :: (17, (skq4 s a)) :: (16, .v (.bool true)) :: skq9
abbrev skq11 (s : Ship) (a : Act) : LS := [(24, VI (((s.doP a).1).known)), (23, .ref 2 8 0 5), (22, .v (.bool true)), (5, .ref 2 8 0 0), (2, .ref 0 8 0 0)]
abbrev skq12 (s : Ship) (a : Act) : LS := (28, VI (((s.doP a).1).applied)) :: (27, .ref 2 8 0 4) :: (26, .v (.bool true)) :: (25, .v (.bool true)) :: (skq11 s a)
abbrev skq13 (s : Ship) (a : Act) : LS := (35, .lst 1 (s.second.map cZ)) :: (34, .ref 0 8 0 1) :: (33, .lst 1 ((((s.doP a).1).first).map cZ)) :: (32, .ref 2 8 0 0) :: (31, .v (.bool true)) :: (30, .v (.bool true)) :: (29, .v (.bool true)) :: (skq12 s a)
abbrev skq14 (s : Ship) (a : Act) : LS := (42, .lst 1 (s.second.map cZ)) :: (41, .ref 0 8 0 1) :: (40, .lst 1 ((((s.doP a).1).second).map cZ)) :: (39, .ref 2 8 0 1) :: (38, .v (.bool true)) :: (37, .v (.bool true)) :: (36, .v (.bool true)) :: (skq13 s a)
abbrev skq15 (s : Ship) (a : Act) : LS := [(48, VI s.known), (47, .ref 0 8 0 5), (46, VI (((s.doP a).1).known)), (45, .ref 2 8 0 5), (22, .v (.bool false)), (5, .ref 2 8 0 0), (2, .ref 0 8 0 0)]
abbrev skq16 (s : Ship) (a : Act) : LS := (54, VI s.applied) :: (53, .ref 0 8 0 4) :: (52, VI (((s.doP a).1).applied)) :: (51, .ref 2 8 0 4) :: (50, .v (.bool true)) :: (49, .v (.bool true)) :: (skq15 s a)
abbrev skq17 (s : Ship) (a : Act) : LS := (61, VI s.applied) :: (60, .ref 0 8 0 4) :: (59, VI (((s.doP a).1).applied)) :: (58, .ref 2 8 0 4) :: (57, .v (.bool true)) :: (56, .v (.bool true)) :: (55, .v (.bool true)) :: (skq16 s a)
abbrev skq18 (s : Ship) (a : Act) : LS := (69, VI (((s.doP a).1).applied)) :: (68, .ref 2 8 0 4) :: (67, VI (((s.doP a).1).known)) :: (66, .ref 2 8 0 5) :: (65, .v (.bool true)) :: (64, .v (.bool true)) :: (63, .v (.bool true)) :: (62, VI (s.applied + 1)) :: (skq17 s a)
abbrev skq19 (s : Ship) (a : Act) : LS := (73, (skq4 s a)) :: (72, .v (.bool true)) :: (71, .v (.bool true)) :: (70, .v (.bool true)) :: (skq18 s a)
theorem shipKnows_fn (s : Ship) (a : Act) (hx : s.first.length ≤ 9223372036854775807 ∧ s.second.length ≤ 9223372036854775807 ∧ s.log.length ≤ 9223372036854775807 ∧ s.there.length ≤ 9223372036854775807 ∧ s.back.length ≤ 9223372036854775807) : Fn Try.prog 6 [.agg [.lst 1 (s.first.map cZ), .lst 1 (s.second.map cZ), .lst 2 (s.log.map Record.cs), VI s.sent, VI s.applied, VI s.known, .lst 1 (s.there.map cI), .lst 1 (s.back.map cI)], .agg [VI a.kind, VI a.n, .v (.string a.data)]] (.v (.bool true)) := by
  refine fn_walkW F6_ok (of_decide_eq_true (by kernel_rfl)) ?_
  refine EL.sreg ?_
  refine OW.last 3 [2, 3] (x' := ⟨[(3, .ref 1 3 0 0), (2, .ref 0 8 0 0)], (skq1 s a)⟩) (by kernel_rfl) (by kernel_rfl) ?_
  refine EL.sreg ?_
  refine OW.run 2 (x' := ⟨(skq3 a s), (skq1 s a)⟩) (by kernel_rfl) ?_
  refine OW.fn (ar := [(skq2 s), .agg [VI a.kind, VI a.n, .v (.string a.data)]]) (x' := ⟨(skq5 s a), (skq1 s a)⟩) (by kernel_rfl) (by kernel_rfl) F12_call (do_fn s a (by first | exact hx | exact Ship.new_big _ | exact Ship.run_big _ _ | exact Ship.do_big _ _ | exact Ship.sail_big _ _ | exact Ship.zero_big | exact Ship.Ok.big (by assumption) | omega)) (by kernel_rfl) (by kernel_rfl) ?_
  refine OW.last 6 [2, 3, 5, 6] (x' := ⟨(skq8 s a), (skq7 s a)⟩) (by kernel_rfl) (by kernel_rfl) ?_
  refine EL.seq ?_
  refine EL.sreg ?_
  refine OW.fn (ar := []) (x' := ⟨(13, .v (.bool true)) :: (skq8 s a), (skq7 s a)⟩) (by kernel_rfl) (by kernel_rfl) F15_call (begun_fn) (by kernel_rfl) (by kernel_rfl) ?_
  refine OW.last 1 [2, 3, 5, 6, 14] (x' := ⟨(14, .v (.bool false)) :: (skq8 s a), (skq7 s a)⟩) (by kernel_rfl) (by kernel_rfl) ?_
  refine EL.condF (by kernel_rfl) ?_
  refine EL.skip ?_
  refine thenL_norm ?_
  refine EL.seq ?_
  refine EL.sreg ?_
  refine OW.last 2 [2, 3, 5, 16] (x' := ⟨(16, .v (.bool (((s.doP a).2) != 0))) :: skq9, (skq7 s a)⟩) (by kernel_rfl) (by kernel_rfl) ?_
  rcases Bool.eq_false_or_eq_true ((((s.doP a).2) != 0)) with h1 | h1
  rw [h1]
  have g1 : ¬ (((s.doP a).2) = 0) := by simpa using h1
  refine EL.condT (by kernel_rfl) ?_
  refine EL.sreg ?_
  refine OW.run 2 (x' := ⟨(skq10 s a), (skq7 s a)⟩) (by kernel_rfl) ?_
  refine OW.fn (ar := [(skq4 s a), .agg [.emp, .emp, .emp, VI 0, VI 0, VI 0, .emp, .emp]]) (x' := ⟨(19, .v (.bool (Ship.same ((s.doP a).1) (⟨[], [], [], 0, 0, 0, [], []⟩ : Ship)))) :: (skq10 s a), (skq7 s a)⟩) (by kernel_rfl) (by kernel_rfl) F16_call (Fn.args (sameShip_fn ((s.doP a).1) (⟨[], [], [], 0, 0, 0, [], []⟩ : Ship) (by first | exact hx | exact Ship.new_big _ | exact Ship.run_big _ _ | exact Ship.do_big _ _ | exact Ship.sail_big _ _ | exact Ship.zero_big | exact Ship.Ok.big (by assumption) | omega)) (.cons (Ale.refl) (.cons (Ale.agg (.cons (Ale.emp) (.cons (Ale.emp) (.cons (Ale.emp) (.cons (Ale.refl) (.cons (Ale.refl) (.cons (Ale.refl) (.cons (Ale.emp) (.cons (Ale.emp) (.nil)))))))))) (.nil)))) (by kernel_rfl) (by kernel_rfl) ?_
  refine OW.last 1 [4] (x' := ⟨[(4, .v (.bool (Ship.same ((s.doP a).1) (⟨[], [], [], 0, 0, 0, [], []⟩ : Ship))))], (skq7 s a)⟩) (by kernel_rfl) (by kernel_rfl) ?_
  refine EL.ret ?_
  refine thenL_ret ?_
  refine ⟨.inr rfl, .v (.bool (Ship.same ((s.doP a).1) (⟨[], [], [], 0, 0, 0, [], []⟩ : Ship))), by kernel_rfl, Ale.of_eq ?_⟩
  focus (first | rfl | (rw [Ship.do_bad (by assumption)]; rfl) | (rw [Ship.do_turn (by assumption) (by assumption)]; simp; done) | (have hd := Ship.do_turn (s := s) (a := a) (by assumption) (by assumption); simp_all; done) | (have hd := Ship.do_knows (s := s) (a := a) (by assumption) (by assumption); obtain ⟨_, _, _, _, _, _⟩ := hd; first | (exfalso; omega) | (simp_all; done) | trace_state))
  rw [h1]
  have g1 : (((s.doP a).2) = 0) := by simpa using h1
  refine EL.condF (by kernel_rfl) ?_
  refine EL.skip ?_
  refine thenL_norm ?_
  refine EL.seq ?_
  refine EL.sreg ?_
  refine OW.last 3 [2, 5, 22] (x' := ⟨[(22, .v (.bool (a.kind == 8))), (5, .ref 2 8 0 0), (2, .ref 0 8 0 0)], (skq7 s a)⟩) (by kernel_rfl) (by kernel_rfl) ?_
  rcases Bool.eq_false_or_eq_true ((a.kind == 8)) with h2 | h2
  rw [h2]
  have g2 : (a.kind = 8) := by simpa using h2
  refine EL.condT (by kernel_rfl) ?_
  refine EL.sreg ?_
  refine OW.run 4 (x' := ⟨(26, .v (.bool ((((s.doP a).1).known) == 0))) :: (25, .v (.bool ((((s.doP a).1).known) == 0))) :: (skq11 s a), (skq7 s a)⟩) (by kernel_rfl) ?_
  rcases Bool.eq_false_or_eq_true (((((s.doP a).1).known) == 0)) with h3 | h3
  rw [h3]
  have g3 : ((((s.doP a).1).known) = 0) := by simpa using h3
  refine OW.run 5 (x' := ⟨(31, .v (.bool ((((s.doP a).1).applied) == 0))) :: (30, .v (.bool ((((s.doP a).1).applied) == 0))) :: (29, .v (.bool ((((s.doP a).1).applied) == 0))) :: (skq12 s a), (skq7 s a)⟩) (by kernel_rfl) ?_
  rcases Bool.eq_false_or_eq_true (((((s.doP a).1).applied) == 0)) with h4 | h4
  rw [h4]
  have g4 : ((((s.doP a).1).applied) = 0) := by simpa using h4
  refine OW.run 4 (x' := ⟨(skq13 s a), (skq7 s a)⟩) (by kernel_rfl) ?_
  refine OW.fn (ar := [.lst 1 ((((s.doP a).1).first).map cZ), .lst 1 (s.second.map cZ)]) (x' := ⟨(36, .v (.bool (decide ((((s.doP a).1).first) = s.second)))) :: (skq13 s a), (skq7 s a)⟩) (by kernel_rfl) (by kernel_rfl) F22_call (sameTexts_fn (((s.doP a).1).first) s.second (by first | omega | decide | exact (Ship.new_big _).2.1 | exact (Ship.new_big _).1 | exact (Ship.run_big _ _).2.1 | exact (Ship.run_big _ _).1 | exact (Ship.do_big _ _).2.1 | exact (Ship.do_big _ _).1 | exact (Ship.sail_big _ _).2.1 | exact (Ship.sail_big _ _).1 | (simp; omega))) (by kernel_rfl) (by kernel_rfl) ?_
  refine OW.run 2 (x' := ⟨(38, .v (.bool (decide ((((s.doP a).1).first) = s.second)))) :: (37, .v (.bool (decide ((((s.doP a).1).first) = s.second)))) :: (36, .v (.bool (decide ((((s.doP a).1).first) = s.second)))) :: (skq13 s a), (skq7 s a)⟩) (by kernel_rfl) ?_
  rcases Bool.eq_false_or_eq_true (decide ((((s.doP a).1).first) = s.second)) with h5 | h5
  rw [h5]
  have g5 : ((((s.doP a).1).first) = s.second) := of_decide_eq_true h5
  refine OW.run 4 (x' := ⟨(skq14 s a), (skq7 s a)⟩) (by kernel_rfl) ?_
  refine OW.fn (ar := [.lst 1 ((((s.doP a).1).second).map cZ), .lst 1 (s.second.map cZ)]) (x' := ⟨(43, .v (.bool (decide ((((s.doP a).1).second) = s.second)))) :: (skq14 s a), (skq7 s a)⟩) (by kernel_rfl) (by kernel_rfl) F22_call (sameTexts_fn (((s.doP a).1).second) s.second (by first | omega | decide | exact (Ship.new_big _).2.1 | exact (Ship.new_big _).1 | exact (Ship.run_big _ _).2.1 | exact (Ship.run_big _ _).1 | exact (Ship.do_big _ _).2.1 | exact (Ship.do_big _ _).1 | exact (Ship.sail_big _ _).2.1 | exact (Ship.sail_big _ _).1 | (simp; omega))) (by kernel_rfl) (by kernel_rfl) ?_
  refine OW.last 2 [4] (x' := ⟨[(4, .v (.bool (decide ((((s.doP a).1).second) = s.second))))], (skq7 s a)⟩) (by kernel_rfl) (by kernel_rfl) ?_
  refine EL.ret ?_
  refine thenL_ret ?_
  refine ⟨.inr rfl, .v (.bool (decide ((((s.doP a).1).second) = s.second))), by kernel_rfl, Ale.of_eq ?_⟩
  focus (first | rfl | (rw [Ship.do_bad (by assumption)]; rfl) | (rw [Ship.do_turn (by assumption) (by assumption)]; simp; done) | (have hd := Ship.do_turn (s := s) (a := a) (by assumption) (by assumption); simp_all; done) | (have hd := Ship.do_knows (s := s) (a := a) (by assumption) (by assumption); obtain ⟨_, _, _, _, _, _⟩ := hd; first | (exfalso; omega) | (simp_all; done) | trace_state))
  rw [h5]
  have g5 : ¬ ((((s.doP a).1).first) = s.second) := of_decide_eq_false h5
  refine OW.last 7 [4] (x' := ⟨[(4, .v (.bool false))], (skq7 s a)⟩) (by kernel_rfl) (by kernel_rfl) ?_
  refine EL.ret ?_
  refine thenL_ret ?_
  refine ⟨.inr rfl, .v (.bool false), by kernel_rfl, Ale.of_eq ?_⟩
  focus (first | rfl | (rw [Ship.do_bad (by assumption)]; rfl) | (rw [Ship.do_turn (by assumption) (by assumption)]; simp; done) | (have hd := Ship.do_turn (s := s) (a := a) (by assumption) (by assumption); simp_all; done) | (have hd := Ship.do_knows (s := s) (a := a) (by assumption) (by assumption); obtain ⟨_, _, _, _, _, _⟩ := hd; first | (exfalso; omega) | (simp_all; done) | trace_state))
  rw [h4]
  have g4 : ¬ ((((s.doP a).1).applied) = 0) := by simpa using h4
  refine OW.last 14 [4] (x' := ⟨[(4, .v (.bool false))], (skq7 s a)⟩) (by kernel_rfl) (by kernel_rfl) ?_
  refine EL.ret ?_
  refine thenL_ret ?_
  refine ⟨.inr rfl, .v (.bool false), by kernel_rfl, Ale.of_eq ?_⟩
  focus (first | rfl | (rw [Ship.do_bad (by assumption)]; rfl) | (rw [Ship.do_turn (by assumption) (by assumption)]; simp; done) | (have hd := Ship.do_turn (s := s) (a := a) (by assumption) (by assumption); simp_all; done) | (have hd := Ship.do_knows (s := s) (a := a) (by assumption) (by assumption); obtain ⟨_, _, _, _, _, _⟩ := hd; first | (exfalso; omega) | (simp_all; done) | trace_state))
  rw [h3]
  have g3 : ¬ ((((s.doP a).1).known) = 0) := by simpa using h3
  refine OW.last 19 [4] (x' := ⟨[(4, .v (.bool false))], (skq7 s a)⟩) (by kernel_rfl) (by kernel_rfl) ?_
  refine EL.ret ?_
  refine thenL_ret ?_
  refine ⟨.inr rfl, .v (.bool false), by kernel_rfl, Ale.of_eq ?_⟩
  focus (first | rfl | (rw [Ship.do_bad (by assumption)]; rfl) | (rw [Ship.do_turn (by assumption) (by assumption)]; simp; done) | (have hd := Ship.do_turn (s := s) (a := a) (by assumption) (by assumption); simp_all; done) | (have hd := Ship.do_knows (s := s) (a := a) (by assumption) (by assumption); obtain ⟨_, _, _, _, _, _⟩ := hd; first | (exfalso; omega) | (simp_all; done) | trace_state))
  rw [h2]
  have g2 : ¬ (a.kind = 8) := by simpa using h2
  refine EL.condF (by kernel_rfl) ?_
  refine EL.skip ?_
  refine thenL_norm ?_
  refine EL.sreg ?_
  refine OW.run 6 (x' := ⟨(50, .v (.bool (decide ((((s.doP a).1).known) ≥ s.known)))) :: (49, .v (.bool (decide ((((s.doP a).1).known) ≥ s.known)))) :: (skq15 s a), (skq7 s a)⟩) (by kernel_rfl) ?_
  rcases Bool.eq_false_or_eq_true (decide ((((s.doP a).1).known) ≥ s.known)) with h6 | h6
  rw [h6]
  have g6 : ((((s.doP a).1).known) ≥ s.known) := of_decide_eq_true h6
  refine OW.run 7 (x' := ⟨(57, .v (.bool (decide ((((s.doP a).1).applied) ≥ s.applied)))) :: (56, .v (.bool (decide ((((s.doP a).1).applied) ≥ s.applied)))) :: (55, .v (.bool (decide ((((s.doP a).1).applied) ≥ s.applied)))) :: (skq16 s a), (skq7 s a)⟩) (by kernel_rfl) ?_
  rcases Bool.eq_false_or_eq_true (decide ((((s.doP a).1).applied) ≥ s.applied)) with h7 | h7
  rw [h7]
  have g7 : ((((s.doP a).1).applied) ≥ s.applied) := of_decide_eq_true h7
  refine OW.run 8 (x' := ⟨(65, .v (.bool (decide ((((s.doP a).1).applied) ≤ IntKind.i64.wrap (s.applied + 1))))) :: (64, .v (.bool (decide ((((s.doP a).1).applied) ≤ IntKind.i64.wrap (s.applied + 1))))) :: (63, .v (.bool (decide ((((s.doP a).1).applied) ≤ IntKind.i64.wrap (s.applied + 1))))) :: (62, VI (IntKind.i64.wrap (s.applied + 1))) :: (skq17 s a), (skq7 s a)⟩) (by kernel_rfl) ?_
  have e8 : IntKind.i64.wrap (s.applied + 1) = s.applied + 1 := wr64 (by have hd := Ship.do_knows (s := s) (a := a) (by assumption) (by assumption); have := hd.1.k; have := hd.1.l1; omega)
  rw [e8]
  rcases Bool.eq_false_or_eq_true (decide ((((s.doP a).1).applied) ≤ (s.applied + 1))) with h9 | h9
  rw [h9]
  have g9 : ((((s.doP a).1).applied) ≤ (s.applied + 1)) := of_decide_eq_true h9
  refine OW.run 7 (x' := ⟨(72, .v (.bool (decide ((((s.doP a).1).known) ≤ ((s.doP a).1).applied)))) :: (71, .v (.bool (decide ((((s.doP a).1).known) ≤ ((s.doP a).1).applied)))) :: (70, .v (.bool (decide ((((s.doP a).1).known) ≤ ((s.doP a).1).applied)))) :: (skq18 s a), (skq7 s a)⟩) (by kernel_rfl) ?_
  rcases Bool.eq_false_or_eq_true (decide ((((s.doP a).1).known) ≤ ((s.doP a).1).applied)) with h10 | h10
  rw [h10]
  have g10 : ((((s.doP a).1).known) ≤ ((s.doP a).1).applied) := of_decide_eq_true h10
  refine OW.run 1 (x' := ⟨(skq19 s a), (skq7 s a)⟩) (by kernel_rfl) ?_
  refine OW.fn (ar := [(skq4 s a)]) (x' := ⟨(74, VI (((s.doP a).1).checkE)) :: (skq19 s a), (skq7 s a)⟩) (by kernel_rfl) (by kernel_rfl) F17_call (check_fn ((s.doP a).1) (by first | exact hx | exact Ship.new_big _ | exact Ship.run_big _ _ | exact Ship.do_big _ _ | exact Ship.sail_big _ _ | exact Ship.zero_big | exact Ship.Ok.big (by assumption) | omega)) (by kernel_rfl) (by kernel_rfl) ?_
  refine OW.last 3 [4] (x' := ⟨[(4, .v (.bool ((((s.doP a).1).checkE) == 0)))], (skq7 s a)⟩) (by kernel_rfl) (by kernel_rfl) ?_
  refine EL.ret ?_
  refine ⟨.inr rfl, .v (.bool ((((s.doP a).1).checkE) == 0)), by kernel_rfl, Ale.of_eq ?_⟩
  focus (first | rfl | (rw [Ship.do_bad (by assumption)]; rfl) | (rw [Ship.do_turn (by assumption) (by assumption)]; simp; done) | (have hd := Ship.do_turn (s := s) (a := a) (by assumption) (by assumption); simp_all; done) | (have hd := Ship.do_knows (s := s) (a := a) (by assumption) (by assumption); obtain ⟨_, _, _, _, _, _⟩ := hd; first | (exfalso; omega) | (simp_all; done) | trace_state))
  rw [h10]
  have g10 : ¬ ((((s.doP a).1).known) ≤ ((s.doP a).1).applied) := of_decide_eq_false h10
  refine OW.last 5 [4] (x' := ⟨[(4, .v (.bool false))], (skq7 s a)⟩) (by kernel_rfl) (by kernel_rfl) ?_
  refine EL.ret ?_
  refine ⟨.inr rfl, .v (.bool false), by kernel_rfl, Ale.of_eq ?_⟩
  focus (first | rfl | (rw [Ship.do_bad (by assumption)]; rfl) | (rw [Ship.do_turn (by assumption) (by assumption)]; simp; done) | (have hd := Ship.do_turn (s := s) (a := a) (by assumption) (by assumption); simp_all; done) | (have hd := Ship.do_knows (s := s) (a := a) (by assumption) (by assumption); obtain ⟨_, _, _, _, _, _⟩ := hd; first | (exfalso; omega) | (simp_all; done) | trace_state))
  rw [h9]
  have g9 : ¬ ((((s.doP a).1).applied) ≤ (s.applied + 1)) := of_decide_eq_false h9
  refine OW.last 12 [4] (x' := ⟨[(4, .v (.bool false))], (skq7 s a)⟩) (by kernel_rfl) (by kernel_rfl) ?_
  refine EL.ret ?_
  refine ⟨.inr rfl, .v (.bool false), by kernel_rfl, Ale.of_eq ?_⟩
  focus (first | rfl | (rw [Ship.do_bad (by assumption)]; rfl) | (rw [Ship.do_turn (by assumption) (by assumption)]; simp; done) | (have hd := Ship.do_turn (s := s) (a := a) (by assumption) (by assumption); simp_all; done) | (have hd := Ship.do_knows (s := s) (a := a) (by assumption) (by assumption); obtain ⟨_, _, _, _, _, _⟩ := hd; first | (exfalso; omega) | (simp_all; done) | trace_state))
  rw [h7]
  have g7 : ¬ ((((s.doP a).1).applied) ≥ s.applied) := of_decide_eq_false h7
  refine OW.last 20 [4] (x' := ⟨[(4, .v (.bool false))], (skq7 s a)⟩) (by kernel_rfl) (by kernel_rfl) ?_
  refine EL.ret ?_
  refine ⟨.inr rfl, .v (.bool false), by kernel_rfl, Ale.of_eq ?_⟩
  focus (first | rfl | (rw [Ship.do_bad (by assumption)]; rfl) | (rw [Ship.do_turn (by assumption) (by assumption)]; simp; done) | (have hd := Ship.do_turn (s := s) (a := a) (by assumption) (by assumption); simp_all; done) | (have hd := Ship.do_knows (s := s) (a := a) (by assumption) (by assumption); obtain ⟨_, _, _, _, _, _⟩ := hd; first | (exfalso; omega) | (simp_all; done) | trace_state))
  rw [h6]
  have g6 : ¬ ((((s.doP a).1).known) ≥ s.known) := of_decide_eq_false h6
  refine OW.last 27 [4] (x' := ⟨[(4, .v (.bool false))], (skq7 s a)⟩) (by kernel_rfl) (by kernel_rfl) ?_
  refine EL.ret ?_
  refine ⟨.inr rfl, .v (.bool false), by kernel_rfl, Ale.of_eq ?_⟩
  focus (first | rfl | (rw [Ship.do_bad (by assumption)]; rfl) | (rw [Ship.do_turn (by assumption) (by assumption)]; simp; done) | (have hd := Ship.do_turn (s := s) (a := a) (by assumption) (by assumption); simp_all; done) | (have hd := Ship.do_knows (s := s) (a := a) (by assumption) (by assumption); obtain ⟨_, _, _, _, _, _⟩ := hd; first | (exfalso; omega) | (simp_all; done) | trace_state))
theorem ShipKnows_walk {w : World} (s : Ship) (css : List Value) (rs : GoT.rep w w.heap.size css s) (a : Act) (_oka : a.ok) : Calls Try.prog 6 #[.agg css.toArray, a.v] w fun e w' => e = .returned (.bool true) ∧ Below w.heap.size w w' := by
  have ls := (Ship.av rs).2
  exact fn_law (vs := [.agg css.toArray, a.v]) (shipKnows_fn s a (by first | assumption | omega)) (.cons ((Ship.av rs).1) (.cons ((R2.agg (.cons (.v rfl) (.cons (.v rfl) (.cons (.v rfl) (.nil)))) : Rep _ a.v _)) (.nil)))
theorem ShipKnows_own : ownKnob Try.prog.godebug = none := by kernel_rfl
theorem ShipKnows_laidOut : laidOutB Try.prog = true := by kernel_rfl
set_option maxRecDepth 100000 in
set_option linter.unusedVariables false in
theorem ShipKnows_lifted (os : Os) (started : os.Started) (H : Type) (enc : TypeId × Value → H) :
    ReturnsInHanded {} Try.checked os 6 .any (Rows.shipKnowsSpec.pre6 enc Try.prog Try.f6 Rows.shipKnowsRow.domain false) (Rows.shipKnowsSpec.post enc Try.prog Try.f6 false true false false) := by
  refine returnsInHanded_of_change (C := Try.checked) ShipKnows_own started (by kernel_rfl) Try.func6
    (ChangeSpec.witness6 (enc := enc) (C := Try.checked) false ⟨#[], #[.agg #[.slice none 0 0, .slice none 0 0, .slice none 0 0, .int .i64 0, .int .i64 0, .int .i64 0, .slice none 0 0, .slice none 0 0], .agg #[.int .i64 0, .int .i64 0, .string ByteArray.empty]], []⟩ 8 (by kernel_rfl) (by kernel_rfl) (by kernel_rfl) (by kernel_rfl)) ?_
  intro W base args ds gs before hval0 hW hcnd _
  have hval : ∀ (j : Nat) t v, Try.f6.params[j]? = some t → args[j]? = some v → Value.okWide Try.prog W .any base t v := hval0
  have hW' := hW
  obtain ⟨p, q, hA0, hV, rfl, hfz, hnd⟩ := hW
  have hA : DataW.TrodAll enc Try.prog W 0 (fun _ => true) true Try.f6.params.toList args.toList ds p := hA0
  rw [Try.params6] at hA hval
  obtain ⟨v0, vs0, d0, ds0, p0, q0, hargs, rfl, rfl, h0, r0⟩ := trodAll_cons hA
  obtain ⟨v1, vs1, d1, ds1, p1, q1, rfl, rfl, rfl, h1, r1⟩ := trodAll_cons r0
  obtain ⟨rfl, rfl, rfl⟩ := trodAll_nil r1
  obtain rfl : args = #[v0, v1] := by cases args; simp_all
  obtain ⟨rfl, rfl⟩ := trodVars_none hV
  have k0 := h0
  have lt0 : ∀ x ∈ p0, x.block < W.heap.size := by obtain ⟨m, hm⟩ := k0; exact DataW.trod_lt m _ _ _ hm
  obtain ⟨x0, cs0, rfl, w0⟩ := open_agg opens_Ship Try.underlying26 (hval 0 26 v0 rfl rfl) h0
  have k1 := h1
  have lt1 : ∀ x ∈ p1, x.block < W.heap.size := by obtain ⟨m, hm⟩ := k1; exact DataW.trod_lt m _ _ _ hm
  obtain ⟨x1, cs1, rfl, w1⟩ := open_agg opens_Act Try.underlying28 (hval 1 28 v1 rfl rfl) h1
  obtain ⟨rfl, ok1⟩ := Act.flat w1
  clear hA0 hval0
  refine (ShipKnows_walk (w := W) x0 cs0 w0 x1 ok1).mono fun e W' ⟨he, bel⟩ => ?_
  subst he
  exact ⟨_, rfl, _, _, _, [], _, [], hW', trodAll_mk1 (shut_bool Try.underlying4 _), (trodAll_cons_mk (Below.trod ShipKnows_laidOut (by kernel_rfl) (of_decide_eq_true (by kernel_rfl)) k0 bel lt0) (trodAll_cons_mk (Below.trod ShipKnows_laidOut (by kernel_rfl) (of_decide_eq_true (by kernel_rfl)) k1 bel lt1) trodAll_mk0)), rfl, bel.frame _, fun h => by cases h⟩
set_option maxRecDepth 100000 in
set_option maxHeartbeats 4000000 in
theorem ShipKnows_closed : joinedFacts Try.prog 6 Try.f6 Rows.shipKnowsSpec Rows.shipKnowsRow = true := by
  unfold joinedFacts
  repeat' (with_reducible refine and_tt ?_ ?_)
  all_goals as_aux_lemma => kernel_rfl
theorem ShipKnows_over : Rows.shipKnowsRow.holds Try.pinned (OpenSpec.ofChange Rows.shipKnowsSpec) :=
  OpenClaim.holds_of_wide 6 Try.f6 rfl rfl rfl rfl rfl rfl rfl ⟨rfl, rfl, rfl, rfl, rfl⟩ rfl rfl rfl rfl rfl (by as_aux_lemma => kernel_rfl) Try.func6 ShipKnows_closed
    (of_decide_eq_true (by as_aux_lemma => kernel_rfl)) (by unfold Func.isWrapper; rw [if_neg (of_decide_eq_false (by as_aux_lemma => kernel_rfl))]; exact ⟨rfl, rfl⟩)
    (fun os started H enc _ => ShipKnows_lifted os started H enc)
theorem ShipKnows_holds : Rows.ShipKnowsSaid := ShipKnows_over
end Go.Proofs.Ythdcanpbgaaneaa
