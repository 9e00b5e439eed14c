/- Run returns what the document says, errors included; in two parts it is the same: the law ShipRuns returns true. No condition. -/
import Derived.Test.YthdcanpbgaaneaaPShipP
import Derived.Test.YthdcanpbgaaneaaPShipL
import Derived.WalkKit
import Derived.Handy
import Derived.ProofKit
import Derived.OpenShut
import Derived.ShutString
import Derived.ChangeOld
import Derived.Below
import Derived.Lib.Hide
import Derived.WalkLawsBesides
import Derived.WalkSpells
import Derived.Deep.QuietTactic
import Derived.BigQuiet
import Derived.Outline
namespace Go.Proofs.Ythdcanpbgaaneaa
set_option linter.unusedSimpArgs false
set_option linter.unusedVariables false
open Go.ChangeShapes Go.WideShapes Go.ChangeAt Go.RowKit
open Go.ChangeMaps (open_string shut_string)
set_option maxRecDepth 100000
set_option maxHeartbeats 4000000
abbrev srq0 (s : Ship) : OB := some ⟨8, [[.lst 1 (s.first.map cZ), .lst 1 (s.second.map cZ), .lst 2 (s.log.map Record.cs), VI s.sent, VI s.applied, VI s.known, .lst 1 (s.there.map cI), .lst 1 (s.back.map cI)]]⟩
abbrev srq1 (l : List Act) (k : Int) : LS := [(3, .ref 0 8 0 0), (1, .lst 3 (l.map Act.cs)), (2, VI k)]
abbrev srq2 (s : Ship) : AV := .agg [.lst 1 (s.first.map cZ), .lst 1 (s.second.map cZ), .lst 2 (s.log.map Record.cs), VI s.sent, VI s.applied, VI s.known, .lst 1 (s.there.map cI), .lst 1 (s.back.map cI)]
abbrev srq3 (l : List Act) (s : Ship) (k : Int) : LS := (21, .lst 3 (l.map Act.cs)) :: (20, (srq2 s)) :: (srq1 l k)
abbrev srq4 (s : Ship) (l : List Act) : AV := .agg [.lst 1 ((((s.runP l).1).first).map cZ), .lst 1 ((((s.runP l).1).second).map cZ), .lst 2 ((((s.runP l).1).log).map Record.cs), VI (((s.runP l).1).sent), VI (((s.runP l).1).applied), VI (((s.runP l).1).known), .lst 1 ((((s.runP l).1).there).map cI), .lst 1 ((((s.runP l).1).back).map cI)]
abbrev srq5 (s : Ship) (l : List Act) (k : Int) : LS := (22, .tup [(srq4 s l), VI ((s.runP l).2.1), VI ((s.runP l).2.2)]) :: (srq3 l s k)
abbrev srq6 (s : Ship) (l : List Act) : OB := some ⟨8, [[.lst 1 ((((s.runP l).1).first).map cZ), .lst 1 ((((s.runP l).1).second).map cZ), .lst 2 ((((s.runP l).1).log).map Record.cs), VI (((s.runP l).1).sent), VI (((s.runP l).1).applied), VI (((s.runP l).1).known), .lst 1 ((((s.runP l).1).there).map cI), .lst 1 ((((s.runP l).1).back).map cI)]]⟩
abbrev srq7 (s : Ship) (l : List Act) (k : Int) : LS := (9, VI ((s.runP l).2.2)) :: (8, VI ((s.runP l).2.1)) :: (7, .ref 1 8 0 0) :: (srq1 l k)
abbrev srq8 (l : List Act) (s : Ship) (k : Int) : LS := (28, .lst 3 (l.map Act.cs)) :: (27, (srq2 s)) :: (srq7 s l k)
abbrev srq9 (s : Ship) (l : List Act) (k : Int) : LS := (29, .tup [(srq4 s l), VI ((s.runP l).2.1), VI ((s.runP l).2.2)]) :: (srq8 l s k)
abbrev srq10 (s : Ship) (l : List Act) (k : Int) : LS := (12, VI ((s.runP l).2.2)) :: (11, VI ((s.runP l).2.1)) :: (10, .ref 2 8 0 0) :: (srq7 s l k)
abbrev srq11 (s : Ship) (l : List Act) (k : Int) : LS := (37, (srq4 s l)) :: (36, (srq4 s l)) :: (35, .v (.bool false)) :: (34, .v (.bool false)) :: (33, .v (.bool true)) :: (srq10 s l k)
abbrev srq12 (s : Ship) (l : List Act) (k : Int) : LS := (43, VI ((s.runP l).2.1)) :: (42, VI ((s.runP l).2.1)) :: (41, .v (.bool false)) :: (40, .v (.bool false)) :: (39, .v (.bool false)) :: (38, .v (.bool true)) :: (srq11 s l k)
abbrev srq13 (s : Ship) (l : List Act) (k : Int) : LS := (51, VI ((s.runP l).2.2)) :: (50, .v (.bool false)) :: (srq7 s l k)
abbrev srq14 (s : Ship) (l : List Act) (k : Int) : LS := (62, .v (.bool true)) :: (8, VI ((s.runP l).2.1)) :: (7, .ref 1 8 0 0) :: (srq1 l k)
abbrev srq15 (k : Int) (s : Ship) (l : List Act) : LS := (54, VI k) :: (53, .v (.bool false)) :: (52, .v (.bool false)) :: (srq13 s l k)
abbrev srq16 (l : List Act) (k : Int) (s : Ship) : LS := (59, .lst 3 (l.map Act.cs)) :: (58, VI k) :: (57, .v (.bool false)) :: (56, .v (.bool false)) :: (55, .v (.bool false)) :: (srq15 k s l)
abbrev srq17 (s : Ship) (l : List Act) (k : Int) : LS := (8, VI ((s.runP l).2.1)) :: (7, .ref 1 8 0 0) :: (srq1 l k)
abbrev srq18 (k : Int) (l : List Act) (s : Ship) : LS := (66, VI k) :: (65, .lst 3 (l.map Act.cs)) :: (64, (srq2 s)) :: (62, .v (.bool false)) :: (srq17 s l k)
abbrev srq19 (k : Int) (l : List Act) (s : Ship) : LS := (67, .lst 3 (((List.take (k : Int).toNat l)).map Act.cs)) :: (srq18 k l s)
abbrev srq20 (s : Ship) (k : Int) (l : List Act) : AV := .agg [.lst 1 ((((s.runP (List.take (k : Int).toNat l)).1).first).map cZ), .lst 1 ((((s.runP (List.take (k : Int).toNat l)).1).second).map cZ), .lst 2 ((((s.runP (List.take (k : Int).toNat l)).1).log).map Record.cs), VI (((s.runP (List.take (k : Int).toNat l)).1).sent), VI (((s.runP (List.take (k : Int).toNat l)).1).applied), VI (((s.runP (List.take (k : Int).toNat l)).1).known), .lst 1 ((((s.runP (List.take (k : Int).toNat l)).1).there).map cI), .lst 1 ((((s.runP (List.take (k : Int).toNat l)).1).back).map cI)]
abbrev srq21 (s : Ship) (k : Int) (l : List Act) : LS := (68, .tup [(srq20 s k l), VI ((s.runP (List.take (k : Int).toNat l)).2.1), VI ((s.runP (List.take (k : Int).toNat l)).2.2)]) :: (srq19 k l s)
abbrev srq22 (s : Ship) (k : Int) (l : List Act) : OB := some ⟨8, [[.lst 1 ((((s.runP (List.take (k : Int).toNat l)).1).first).map cZ), .lst 1 ((((s.runP (List.take (k : Int).toNat l)).1).second).map cZ), .lst 2 ((((s.runP (List.take (k : Int).toNat l)).1).log).map Record.cs), VI (((s.runP (List.take (k : Int).toNat l)).1).sent), VI (((s.runP (List.take (k : Int).toNat l)).1).applied), VI (((s.runP (List.take (k : Int).toNat l)).1).known), .lst 1 ((((s.runP (List.take (k : Int).toNat l)).1).there).map cI), .lst 1 ((((s.runP (List.take (k : Int).toNat l)).1).back).map cI)]]⟩
abbrev srq23 (s : Ship) (k : Int) (l : List Act) : LS := [(15, VI ((s.runP (List.take (k : Int).toNat l)).2.2)), (14, VI ((s.runP (List.take (k : Int).toNat l)).2.1)), (13, .ref 3 8 0 0), (8, VI ((s.runP l).2.1)), (7, .ref 1 8 0 0), (1, .lst 3 (l.map Act.cs)), (2, VI k)]
abbrev srq24 (k : Int) (l : List Act) (s : Ship) : LS := (75, VI k) :: (74, .lst 3 (l.map Act.cs)) :: (73, (srq20 s k l)) :: (srq23 s k l)
abbrev srq25 (l : List Act) (k : Int) (s : Ship) : LS := (76, .lst 3 (((List.take ((List.length l) - (k : Int).toNat) (List.drop (k : Int).toNat l))).map Act.cs)) :: (srq24 k l s)
abbrev srq26 (s : Ship) (k : Int) (l : List Act) : AV := .agg [.lst 1 ((((((s.runP (List.take (k : Int).toNat l)).1).runP (List.take ((List.length l) - (k : Int).toNat) (List.drop (k : Int).toNat l))).1).first).map cZ), .lst 1 ((((((s.runP (List.take (k : Int).toNat l)).1).runP (List.take ((List.length l) - (k : Int).toNat) (List.drop (k : Int).toNat l))).1).second).map cZ), .lst 2 ((((((s.runP (List.take (k : Int).toNat l)).1).runP (List.take ((List.length l) - (k : Int).toNat) (List.drop (k : Int).toNat l))).1).log).map Record.cs), VI (((((s.runP (List.take (k : Int).toNat l)).1).runP (List.take ((List.length l) - (k : Int).toNat) (List.drop (k : Int).toNat l))).1).sent), VI (((((s.runP (List.take (k : Int).toNat l)).1).runP (List.take ((List.length l) - (k : Int).toNat) (List.drop (k : Int).toNat l))).1).applied), VI (((((s.runP (List.take (k : Int).toNat l)).1).runP (List.take ((List.length l) - (k : Int).toNat) (List.drop (k : Int).toNat l))).1).known), .lst 1 ((((((s.runP (List.take (k : Int).toNat l)).1).runP (List.take ((List.length l) - (k : Int).toNat) (List.drop (k : Int).toNat l))).1).there).map cI), .lst 1 ((((((s.runP (List.take (k : Int).toNat l)).1).runP (List.take ((List.length l) - (k : Int).toNat) (List.drop (k : Int).toNat l))).1).back).map cI)]
abbrev srq27 (s : Ship) (k : Int) (l : List Act) : LS := (77, .tup [(srq26 s k l), VI ((((s.runP (List.take (k : Int).toNat l)).1).runP (List.take ((List.length l) - (k : Int).toNat) (List.drop (k : Int).toNat l))).2.1), VI ((((s.runP (List.take (k : Int).toNat l)).1).runP (List.take ((List.length l) - (k : Int).toNat) (List.drop (k : Int).toNat l))).2.2)]) :: (srq25 l k s)
abbrev srq28 (s : Ship) (k : Int) (l : List Act) : OB := some ⟨8, [[.lst 1 ((((((s.runP (List.take (k : Int).toNat l)).1).runP (List.take ((List.length l) - (k : Int).toNat) (List.drop (k : Int).toNat l))).1).first).map cZ), .lst 1 ((((((s.runP (List.take (k : Int).toNat l)).1).runP (List.take ((List.length l) - (k : Int).toNat) (List.drop (k : Int).toNat l))).1).second).map cZ), .lst 2 ((((((s.runP (List.take (k : Int).toNat l)).1).runP (List.take ((List.length l) - (k : Int).toNat) (List.drop (k : Int).toNat l))).1).log).map Record.cs), VI (((((s.runP (List.take (k : Int).toNat l)).1).runP (List.take ((List.length l) - (k : Int).toNat) (List.drop (k : Int).toNat l))).1).sent), VI (((((s.runP (List.take (k : Int).toNat l)).1).runP (List.take ((List.length l) - (k : Int).toNat) (List.drop (k : Int).toNat l))).1).applied), VI (((((s.runP (List.take (k : Int).toNat l)).1).runP (List.take ((List.length l) - (k : Int).toNat) (List.drop (k : Int).toNat l))).1).known), .lst 1 ((((((s.runP (List.take (k : Int).toNat l)).1).runP (List.take ((List.length l) - (k : Int).toNat) (List.drop (k : Int).toNat l))).1).there).map cI), .lst 1 ((((((s.runP (List.take (k : Int).toNat l)).1).runP (List.take ((List.length l) - (k : Int).toNat) (List.drop (k : Int).toNat l))).1).back).map cI)]]⟩
abbrev srq29 (s : Ship) (l : List Act) (k : Int) : LB := [(srq0 s), (srq6 s l), (srq6 s l), (srq22 s k l), (srq28 s k l)]
abbrev srq30 (s : Ship) (k : Int) (l : List Act) : LS := [(18, VI ((((s.runP (List.take (k : Int).toNat l)).1).runP (List.take ((List.length l) - (k : Int).toNat) (List.drop (k : Int).toNat l))).2.2)), (17, VI ((((s.runP (List.take (k : Int).toNat l)).1).runP (List.take ((List.length l) - (k : Int).toNat) (List.drop (k : Int).toNat l))).2.1)), (16, .ref 4 8 0 0), (15, VI ((s.runP (List.take (k : Int).toNat l)).2.2)), (14, VI ((s.runP (List.take (k : Int).toNat l)).2.1)), (8, VI ((s.runP l).2.1)), (7, .ref 1 8 0 0)]
abbrev srq31 (s : Ship) (k : Int) (l : List Act) : LS := (81, VI ((s.runP (List.take (k : Int).toNat l)).2.2)) :: (srq30 s k l)
abbrev srq32 (s : Ship) (k : Int) (l : List Act) : LS := (84, VI ((((s.runP (List.take (k : Int).toNat l)).1).runP (List.take ((List.length l) - (k : Int).toNat) (List.drop (k : Int).toNat l))).2.2)) :: (83, .v (.bool true)) :: (82, .v (.bool true)) :: (srq31 s k l)
abbrev srq33 (s : Ship) (l : List Act) (k : Int) : LS := (89, (srq4 s l)) :: (88, (srq26 s k l)) :: (87, .v (.bool true)) :: (86, .v (.bool true)) :: (85, .v (.bool true)) :: (srq32 s k l)
abbrev srq34 (s : Ship) (k : Int) (l : List Act) : LS := (94, VI ((((s.runP (List.take (k : Int).toNat l)).1).runP (List.take ((List.length l) - (k : Int).toNat) (List.drop (k : Int).toNat l))).2.1)) :: (93, VI ((s.runP (List.take (k : Int).toNat l)).2.1)) :: (92, .v (.bool true)) :: (91, .v (.bool true)) :: (90, .v (.bool true)) :: (srq33 s l k)
abbrev srq35 (s : Ship) (l : List Act) (k : Int) : LS := (100, (srq4 s l)) :: (99, .v (.bool true)) :: (98, .v (.bool true)) :: (97, .v (.bool true)) :: (96, VI ((s.runP l).2.1)) :: (95, VI (((s.runP (List.take (k : Int).toNat l)).2.1) + ((((s.runP (List.take (k : Int).toNat l)).1).runP (List.take ((List.length l) - (k : Int).toNat) (List.drop (k : Int).toNat l))).2.1))) :: (srq34 s k l)
theorem shipRuns_fn (s : Ship) (l : List Act) (k : Int) (hx : s.first.length ≤ 9223372036854775807 ∧ s.second.length ≤ 9223372036854775807 ∧ s.log.length ≤ 9223372036854775807 ∧ s.there.length ≤ 9223372036854775807 ∧ s.back.length ≤ 9223372036854775807) (hl : l.length ≤ 9223372036854775807) : Fn Try.prog 4 [.agg [.lst 1 (s.first.map cZ), .lst 1 (s.second.map cZ), .lst 2 (s.log.map Record.cs), VI s.sent, VI s.applied, VI s.known, .lst 1 (s.there.map cI), .lst 1 (s.back.map cI)], .lst 3 (l.map Act.cs), VI k] (.v (.bool true)) := by
  refine fn_walkW F4_ok (of_decide_eq_true (by kernel_rfl)) ?_
  refine EL.sreg ?_
  refine OW.last 2 [1, 2, 3] (x' := ⟨(srq1 l k), [(srq0 s)]⟩) (by kernel_rfl) (by kernel_rfl) ?_
  refine EL.sreg ?_
  refine OW.run 2 (x' := ⟨(srq3 l s k), [(srq0 s)]⟩) (by kernel_rfl) ?_
  refine OW.fn (ar := [(srq2 s), .lst 3 (l.map Act.cs)]) (x' := ⟨(srq5 s l k), [(srq0 s)]⟩) (by kernel_rfl) (by kernel_rfl) F19_call (run_fn s l (by first | exact hx | exact Ship.new_big _ | exact Ship.run_big _ _ | exact Ship.do_big _ _ | exact Ship.sail_big _ _ | exact Ship.zero_big | exact Ship.Ok.big (by assumption) | omega) (by first | omega | decide | (simp; omega))) (by kernel_rfl) (by kernel_rfl) ?_
  refine OW.last 8 [1, 2, 3, 7, 8, 9] (x' := ⟨(srq7 s l k), [(srq0 s), (srq6 s l)]⟩) (by kernel_rfl) (by kernel_rfl) ?_
  refine EL.sreg ?_
  refine OW.run 2 (x' := ⟨(srq8 l s k), [(srq0 s), (srq6 s l)]⟩) (by kernel_rfl) ?_
  refine OW.fn (ar := [(srq2 s), .lst 3 (l.map Act.cs)]) (x' := ⟨(srq9 s l k), [(srq0 s), (srq6 s l)]⟩) (by kernel_rfl) (by kernel_rfl) F20_call (rran_fn s l (by first | exact hx | exact Ship.new_big _ | exact Ship.run_big _ _ | exact Ship.do_big _ _ | exact Ship.sail_big _ _ | exact Ship.zero_big | exact Ship.Ok.big (by assumption) | omega) (by first | omega | decide | (simp; omega))) (by kernel_rfl) (by kernel_rfl) ?_
  refine OW.last 8 [1, 2, 3, 7, 8, 9, 10, 11, 12] (x' := ⟨(srq10 s l k), [(srq0 s), (srq6 s l), (srq6 s l)]⟩) (by kernel_rfl) (by kernel_rfl) ?_
  refine EL.seq ?_
  refine EL.sreg ?_
  refine OW.fn (ar := []) (x' := ⟨(33, .v (.bool true)) :: (srq10 s l k), [(srq0 s), (srq6 s l), (srq6 s l)]⟩) (by kernel_rfl) (by kernel_rfl) F15_call (begun_fn) (by kernel_rfl) (by kernel_rfl) ?_
  refine OW.run 4 (x' := ⟨(srq11 s l k), [(srq0 s), (srq6 s l), (srq6 s l)]⟩) (by kernel_rfl) ?_
  refine OW.fn (ar := [(srq4 s l), (srq4 s l)]) (x' := ⟨(38, .v (.bool (Ship.same ((s.runP l).1) ((s.runP l).1)))) :: (srq11 s l k), [(srq0 s), (srq6 s l), (srq6 s l)]⟩) (by kernel_rfl) (by kernel_rfl) F16_call (sameShip_fn ((s.runP l).1) ((s.runP l).1) (by first | exact hx | exact Ship.new_big _ | exact Ship.run_big _ _ | exact Ship.do_big _ _ | exact Ship.sail_big _ _ | exact Ship.zero_big | exact Ship.Ok.big (by assumption) | omega)) (by kernel_rfl) (by kernel_rfl) ?_
  refine OW.run 3 (x' := ⟨(41, .v (.bool (!(Ship.same ((s.runP l).1) ((s.runP l).1))))) :: (40, .v (.bool (!(Ship.same ((s.runP l).1) ((s.runP l).1))))) :: (39, .v (.bool (!(Ship.same ((s.runP l).1) ((s.runP l).1))))) :: (38, .v (.bool (Ship.same ((s.runP l).1) ((s.runP l).1)))) :: (srq11 s l k), [(srq0 s), (srq6 s l), (srq6 s l)]⟩) (by kernel_rfl) ?_
  rcases Bool.eq_false_or_eq_true (Ship.same ((s.runP l).1) ((s.runP l).1)) with h1 | h1
  rw [h1]
  refine OW.run 5 (x' := ⟨(46, .v (.bool (((s.runP l).2.1) != (s.runP l).2.1))) :: (45, .v (.bool (((s.runP l).2.1) != (s.runP l).2.1))) :: (44, .v (.bool (((s.runP l).2.1) != (s.runP l).2.1))) :: (srq12 s l k), [(srq0 s), (srq6 s l), (srq6 s l)]⟩) (by kernel_rfl) ?_
  have h2 : (((s.runP l).2.1) != (s.runP l).2.1) = false := by simp
  rw [h2]
  refine OW.last 4 [1, 2, 3, 7, 8, 9, 50] (x' := ⟨(50, .v (.bool (((s.runP l).2.2) != (s.runP l).2.2))) :: (srq7 s l k), [(srq0 s), (srq6 s l), (srq6 s l)]⟩) (by kernel_rfl) (by kernel_rfl) ?_
  have h3 : (((s.runP l).2.2) != (s.runP l).2.2) = false := by simp
  rw [h3]
  refine EL.condF (by kernel_rfl) ?_
  refine EL.skip ?_
  refine thenL_norm ?_
  refine EL.seq ?_
  refine EL.sreg ?_
  refine OW.run 3 (x' := ⟨(53, .v (.bool (((s.runP l).2.2) != 0))) :: (52, .v (.bool (((s.runP l).2.2) != 0))) :: (srq13 s l k), [(srq0 s), (srq6 s l), (srq6 s l)]⟩) (by kernel_rfl) ?_
  rcases Bool.eq_false_or_eq_true ((((s.runP l).2.2) != 0)) with h4 | h4
  rw [h4]
  have g4 : ¬ (((s.runP l).2.2) = 0) := by simpa using h4
  refine OW.last 9 [1, 2, 3, 7, 8, 62] (x' := ⟨(srq14 s l k), [(srq0 s), (srq6 s l), (srq6 s l)]⟩) (by kernel_rfl) (by kernel_rfl) ?_
  refine EL.condT (by kernel_rfl) ?_
  refine EL.sreg ?_
  refine OW.last 1 [6] (x' := ⟨[(6, .v (.bool true))], [(srq0 s), (srq6 s l), (srq6 s l)]⟩) (by kernel_rfl) (by kernel_rfl) ?_
  refine EL.ret ?_
  refine thenL_ret ?_
  refine ⟨.inr rfl, .v (.bool true), by kernel_rfl, Ale.of_eq ?_⟩
  focus (first | rfl | (simp [Ship.same_self, *]; done) | (exfalso; simp_all [Ship.same_self]; done) | (have hp := Ship.run_parts (s := s) (l := l) (by assumption) k.toNat; rw [← List.take_of_length_le (l := List.drop k.toNat l) (i := l.length - k.toNat) (by simp)] at hp; obtain ⟨p1, p2, p3, p4, p5, _⟩ := hp; first | (simp_all [Ship.same_self]; done) | trace_state))
  rw [h4]
  have g4 : (((s.runP l).2.2) = 0) := by simpa using h4
  refine OW.run 4 (x' := ⟨(57, .v (.bool (decide (k < 0)))) :: (56, .v (.bool (decide (k < 0)))) :: (55, .v (.bool (decide (k < 0)))) :: (srq15 k s l), [(srq0 s), (srq6 s l), (srq6 s l)]⟩) (by kernel_rfl) ?_
  rcases Bool.eq_false_or_eq_true (decide (k < 0)) with h5 | h5
  rw [h5]
  have g5 : (k < 0) := of_decide_eq_true h5
  refine OW.last 5 [1, 2, 3, 7, 8, 62] (x' := ⟨(srq14 s l k), [(srq0 s), (srq6 s l), (srq6 s l)]⟩) (by kernel_rfl) (by kernel_rfl) ?_
  refine EL.condT (by kernel_rfl) ?_
  refine EL.sreg ?_
  refine OW.last 1 [6] (x' := ⟨[(6, .v (.bool true))], [(srq0 s), (srq6 s l), (srq6 s l)]⟩) (by kernel_rfl) (by kernel_rfl) ?_
  refine EL.ret ?_
  refine thenL_ret ?_
  refine ⟨.inr rfl, .v (.bool true), by kernel_rfl, Ale.of_eq ?_⟩
  focus (first | rfl | (simp [Ship.same_self, *]; done) | (exfalso; simp_all [Ship.same_self]; done) | (have hp := Ship.run_parts (s := s) (l := l) (by assumption) k.toNat; rw [← List.take_of_length_le (l := List.drop k.toNat l) (i := l.length - k.toNat) (by simp)] at hp; obtain ⟨p1, p2, p3, p4, p5, _⟩ := hp; first | (simp_all [Ship.same_self]; done) | trace_state))
  rw [h5]
  have g5 : ¬ (k < 0) := of_decide_eq_false h5
  refine OW.run 2 (x' := ⟨(srq16 l k s), [(srq0 s), (srq6 s l), (srq6 s l)]⟩) (by kernel_rfl) ?_
  refine OW.ope (v := VI (List.length l : Int)) (u := []) (acc := []) (x' := ⟨(60, VI (List.length l : Int)) :: (srq16 l k s), [(srq0 s), (srq6 s l), (srq6 s l)]⟩) (by kernel_rfl) (opE_len Act.cs l (.s 59) 3 (by kernel_rfl) (by kernel_rfl) (.inl rfl)) (by kernel_rfl) ?_
  refine OW.last 2 [1, 2, 3, 7, 8, 62] (x' := ⟨(62, .v (.bool (decide (k > (List.length l : Int))))) :: (srq17 s l k), [(srq0 s), (srq6 s l), (srq6 s l)]⟩) (by kernel_rfl) (by kernel_rfl) ?_
  rcases Bool.eq_false_or_eq_true (decide (k > (List.length l : Int))) with h6 | h6
  rw [h6]
  have g6 : (k > (List.length l : Int)) := of_decide_eq_true h6
  refine EL.condT (by kernel_rfl) ?_
  refine EL.sreg ?_
  refine OW.last 1 [6] (x' := ⟨[(6, .v (.bool true))], [(srq0 s), (srq6 s l), (srq6 s l)]⟩) (by kernel_rfl) (by kernel_rfl) ?_
  refine EL.ret ?_
  refine thenL_ret ?_
  refine ⟨.inr rfl, .v (.bool true), by kernel_rfl, Ale.of_eq ?_⟩
  focus (first | rfl | (simp [Ship.same_self, *]; done) | (exfalso; simp_all [Ship.same_self]; done) | (have hp := Ship.run_parts (s := s) (l := l) (by assumption) k.toNat; rw [← List.take_of_length_le (l := List.drop k.toNat l) (i := l.length - k.toNat) (by simp)] at hp; obtain ⟨p1, p2, p3, p4, p5, _⟩ := hp; first | (simp_all [Ship.same_self]; done) | trace_state))
  rw [h6]
  have g6 : ¬ (k > (List.length l : Int)) := of_decide_eq_false h6
  refine EL.condF (by kernel_rfl) ?_
  refine EL.skip ?_
  refine thenL_norm ?_
  refine EL.sdraw ?_
  refine DW.run 3 (x' := ⟨(srq18 k l s), [(srq0 s), (srq6 s l), (srq6 s l)]⟩) (by kernel_rfl) ?_
  refine DW.ope (v := .lst 3 (((List.take (k : Int).toNat l)).map Act.cs)) (u := []) (acc := []) (x' := ⟨(srq19 k l s), [(srq0 s), (srq6 s l), (srq6 s l)]⟩) (by kernel_rfl) (opE_slc Act.cs l (.s 65) none (some (.s 66)) 3 0 (k : Int).toNat (by kernel_rfl) (by kernel_rfl) (.inl rfl) (by simp [optNat, natOf, argσ, slot] <;> omega) (by simp [optNat, natOf, argσ, slot] <;> omega) (by omega)) (by kernel_rfl) ?_
  refine DW.fn (ar := [(srq2 s), .lst 3 (((List.take (k : Int).toNat l)).map Act.cs)]) (x' := ⟨(srq21 s k l), [(srq0 s), (srq6 s l), (srq6 s l)]⟩) (by kernel_rfl) (by kernel_rfl) F19_call (run_fn s (List.take (k : Int).toNat l) (by first | exact hx | exact Ship.new_big _ | exact Ship.run_big _ _ | exact Ship.do_big _ _ | exact Ship.sail_big _ _ | exact Ship.zero_big | exact Ship.Ok.big (by assumption) | omega) (by first | omega | decide | (simp; omega))) (by kernel_rfl) (by kernel_rfl) ?_
  refine DW.last 8 [1, 2, 7, 8, 13, 14, 15] (x' := ⟨(srq23 s k l), [(srq0 s), (srq6 s l), (srq6 s l), (srq22 s k l)]⟩) (by kernel_rfl) (by kernel_rfl) ?_
  refine EL.sdraw ?_
  refine DW.run 3 (x' := ⟨(srq24 k l s), [(srq0 s), (srq6 s l), (srq6 s l), (srq22 s k l)]⟩) (by kernel_rfl) ?_
  refine DW.ope (v := .lst 3 (((List.take ((List.length l) - (k : Int).toNat) (List.drop (k : Int).toNat l))).map Act.cs)) (u := []) (acc := []) (x' := ⟨(srq25 l k s), [(srq0 s), (srq6 s l), (srq6 s l), (srq22 s k l)]⟩) (by kernel_rfl) (opE_slc Act.cs l (.s 74) (some (.s 75)) none 3 (k : Int).toNat (List.length l) (by kernel_rfl) (by kernel_rfl) (.inl rfl) (by simp [optNat, natOf, argσ, slot] <;> omega) (by simp [optNat, natOf, argσ, slot] <;> omega) (by omega)) (by kernel_rfl) ?_
  refine DW.fn (ar := [(srq20 s k l), .lst 3 (((List.take ((List.length l) - (k : Int).toNat) (List.drop (k : Int).toNat l))).map Act.cs)]) (x' := ⟨(srq27 s k l), [(srq0 s), (srq6 s l), (srq6 s l), (srq22 s k l)]⟩) (by kernel_rfl) (by kernel_rfl) F19_call (run_fn ((s.runP (List.take (k : Int).toNat l)).1) (List.take ((List.length l) - (k : Int).toNat) (List.drop (k : Int).toNat l)) (by first | exact hx | exact Ship.new_big _ | exact Ship.run_big _ _ | exact Ship.do_big _ _ | exact Ship.sail_big _ _ | exact Ship.zero_big | exact Ship.Ok.big (by assumption) | omega) (by first | omega | decide | (simp; omega))) (by kernel_rfl) (by kernel_rfl) ?_
  refine DW.last 8 [7, 8, 14, 15, 16, 17, 18] (x' := ⟨(srq30 s k l), (srq29 s l k)⟩) (by kernel_rfl) (by kernel_rfl) ?_
  refine EL.sreg ?_
  refine OW.run 3 (x' := ⟨(83, .v (.bool (((s.runP (List.take (k : Int).toNat l)).2.2) == 0))) :: (82, .v (.bool (((s.runP (List.take (k : Int).toNat l)).2.2) == 0))) :: (srq31 s k l), (srq29 s l k)⟩) (by kernel_rfl) ?_
  rcases Bool.eq_false_or_eq_true ((((s.runP (List.take (k : Int).toNat l)).2.2) == 0)) with h7 | h7
  rw [h7]
  have g7 : (((s.runP (List.take (k : Int).toNat l)).2.2) = 0) := by simpa using h7
  refine OW.run 4 (x' := ⟨(87, .v (.bool (((((s.runP (List.take (k : Int).toNat l)).1).runP (List.take ((List.length l) - (k : Int).toNat) (List.drop (k : Int).toNat l))).2.2) == 0))) :: (86, .v (.bool (((((s.runP (List.take (k : Int).toNat l)).1).runP (List.take ((List.length l) - (k : Int).toNat) (List.drop (k : Int).toNat l))).2.2) == 0))) :: (85, .v (.bool (((((s.runP (List.take (k : Int).toNat l)).1).runP (List.take ((List.length l) - (k : Int).toNat) (List.drop (k : Int).toNat l))).2.2) == 0))) :: (srq32 s k l), (srq29 s l k)⟩) (by kernel_rfl) ?_
  rcases Bool.eq_false_or_eq_true ((((((s.runP (List.take (k : Int).toNat l)).1).runP (List.take ((List.length l) - (k : Int).toNat) (List.drop (k : Int).toNat l))).2.2) == 0)) with h8 | h8
  rw [h8]
  have g8 : (((((s.runP (List.take (k : Int).toNat l)).1).runP (List.take ((List.length l) - (k : Int).toNat) (List.drop (k : Int).toNat l))).2.2) = 0) := by simpa using h8
  refine OW.run 2 (x' := ⟨(srq33 s l k), (srq29 s l k)⟩) (by kernel_rfl) ?_
  refine OW.fn (ar := [(srq26 s k l), (srq4 s l)]) (x' := ⟨(90, .v (.bool (Ship.same ((((s.runP (List.take (k : Int).toNat l)).1).runP (List.take ((List.length l) - (k : Int).toNat) (List.drop (k : Int).toNat l))).1) ((s.runP l).1)))) :: (srq33 s l k), (srq29 s l k)⟩) (by kernel_rfl) (by kernel_rfl) F16_call (sameShip_fn ((((s.runP (List.take (k : Int).toNat l)).1).runP (List.take ((List.length l) - (k : Int).toNat) (List.drop (k : Int).toNat l))).1) ((s.runP l).1) (by first | exact hx | exact Ship.new_big _ | exact Ship.run_big _ _ | exact Ship.do_big _ _ | exact Ship.sail_big _ _ | exact Ship.zero_big | exact Ship.Ok.big (by assumption) | omega)) (by kernel_rfl) (by kernel_rfl) ?_
  refine OW.run 2 (x' := ⟨(92, .v (.bool (Ship.same ((((s.runP (List.take (k : Int).toNat l)).1).runP (List.take ((List.length l) - (k : Int).toNat) (List.drop (k : Int).toNat l))).1) ((s.runP l).1)))) :: (91, .v (.bool (Ship.same ((((s.runP (List.take (k : Int).toNat l)).1).runP (List.take ((List.length l) - (k : Int).toNat) (List.drop (k : Int).toNat l))).1) ((s.runP l).1)))) :: (90, .v (.bool (Ship.same ((((s.runP (List.take (k : Int).toNat l)).1).runP (List.take ((List.length l) - (k : Int).toNat) (List.drop (k : Int).toNat l))).1) ((s.runP l).1)))) :: (srq33 s l k), (srq29 s l k)⟩) (by kernel_rfl) ?_
  rcases Bool.eq_false_or_eq_true (Ship.same ((((s.runP (List.take (k : Int).toNat l)).1).runP (List.take ((List.length l) - (k : Int).toNat) (List.drop (k : Int).toNat l))).1) ((s.runP l).1)) with h9 | h9
  rw [h9]
  refine OW.run 7 (x' := ⟨(99, .v (.bool ((IntKind.i64.wrap (((s.runP (List.take (k : Int).toNat l)).2.1) + ((((s.runP (List.take (k : Int).toNat l)).1).runP (List.take ((List.length l) - (k : Int).toNat) (List.drop (k : Int).toNat l))).2.1))) == (s.runP l).2.1))) :: (98, .v (.bool ((IntKind.i64.wrap (((s.runP (List.take (k : Int).toNat l)).2.1) + ((((s.runP (List.take (k : Int).toNat l)).1).runP (List.take ((List.length l) - (k : Int).toNat) (List.drop (k : Int).toNat l))).2.1))) == (s.runP l).2.1))) :: (97, .v (.bool ((IntKind.i64.wrap (((s.runP (List.take (k : Int).toNat l)).2.1) + ((((s.runP (List.take (k : Int).toNat l)).1).runP (List.take ((List.length l) - (k : Int).toNat) (List.drop (k : Int).toNat l))).2.1))) == (s.runP l).2.1))) :: (96, VI ((s.runP l).2.1)) :: (95, VI (IntKind.i64.wrap (((s.runP (List.take (k : Int).toNat l)).2.1) + ((((s.runP (List.take (k : Int).toNat l)).1).runP (List.take ((List.length l) - (k : Int).toNat) (List.drop (k : Int).toNat l))).2.1)))) :: (srq34 s k l), (srq29 s l k)⟩) (by kernel_rfl) ?_
  have e10 : IntKind.i64.wrap (((s.runP (List.take (k : Int).toNat l)).2.1) + ((((s.runP (List.take (k : Int).toNat l)).1).runP (List.take ((List.length l) - (k : Int).toNat) (List.drop (k : Int).toNat l))).2.1)) = ((s.runP (List.take (k : Int).toNat l)).2.1) + ((((s.runP (List.take (k : Int).toNat l)).1).runP (List.take ((List.length l) - (k : Int).toNat) (List.drop (k : Int).toNat l))).2.1) := wr64 (by have hp := Ship.run_parts (s := s) (l := l) (by assumption) k.toNat; rw [← List.take_of_length_le (l := List.drop k.toNat l) (i := l.length - k.toNat) (by simp)] at hp; omega)
  rw [e10]
  rcases Bool.eq_false_or_eq_true (((((s.runP (List.take (k : Int).toNat l)).2.1) + ((((s.runP (List.take (k : Int).toNat l)).1).runP (List.take ((List.length l) - (k : Int).toNat) (List.drop (k : Int).toNat l))).2.1)) == (s.runP l).2.1)) with h11 | h11
  rw [h11]
  have g11 : ((((s.runP (List.take (k : Int).toNat l)).2.1) + ((((s.runP (List.take (k : Int).toNat l)).1).runP (List.take ((List.length l) - (k : Int).toNat) (List.drop (k : Int).toNat l))).2.1)) = (s.runP l).2.1) := by simpa using h11
  refine OW.run 1 (x' := ⟨(srq35 s l k), (srq29 s l k)⟩) (by kernel_rfl) ?_
  refine OW.fn (ar := [(srq4 s l)]) (x' := ⟨(101, VI (((s.runP l).1).checkE)) :: (srq35 s l k), (srq29 s l k)⟩) (by kernel_rfl) (by kernel_rfl) F17_call (check_fn ((s.runP l).1) (by first | exact hx | exact Ship.new_big _ | exact Ship.run_big _ _ | exact Ship.do_big _ _ | exact Ship.sail_big _ _ | exact Ship.zero_big | exact Ship.Ok.big (by assumption) | omega)) (by kernel_rfl) (by kernel_rfl) ?_
  refine OW.last 3 [6] (x' := ⟨[(6, .v (.bool ((((s.runP l).1).checkE) == 0)))], (srq29 s l k)⟩) (by kernel_rfl) (by kernel_rfl) ?_
  refine EL.ret ?_
  refine ⟨.inr rfl, .v (.bool ((((s.runP l).1).checkE) == 0)), by kernel_rfl, Ale.of_eq ?_⟩
  focus (first | rfl | (simp [Ship.same_self, *]; done) | (exfalso; simp_all [Ship.same_self]; done) | (have hp := Ship.run_parts (s := s) (l := l) (by assumption) k.toNat; rw [← List.take_of_length_le (l := List.drop k.toNat l) (i := l.length - k.toNat) (by simp)] at hp; obtain ⟨p1, p2, p3, p4, p5, _⟩ := hp; first | (simp_all [Ship.same_self]; done) | trace_state))
  rw [h11]
  have g11 : ¬ ((((s.runP (List.take (k : Int).toNat l)).2.1) + ((((s.runP (List.take (k : Int).toNat l)).1).runP (List.take ((List.length l) - (k : Int).toNat) (List.drop (k : Int).toNat l))).2.1)) = (s.runP l).2.1) := by simpa using h11
  refine OW.last 5 [6] (x' := ⟨[(6, .v (.bool false))], (srq29 s l k)⟩) (by kernel_rfl) (by kernel_rfl) ?_
  refine EL.ret ?_
  refine ⟨.inr rfl, .v (.bool false), by kernel_rfl, Ale.of_eq ?_⟩
  focus (first | rfl | (simp [Ship.same_self, *]; done) | (exfalso; simp_all [Ship.same_self]; done) | (have hp := Ship.run_parts (s := s) (l := l) (by assumption) k.toNat; rw [← List.take_of_length_le (l := List.drop k.toNat l) (i := l.length - k.toNat) (by simp)] at hp; obtain ⟨p1, p2, p3, p4, p5, _⟩ := hp; first | (simp_all [Ship.same_self]; done) | trace_state))
  rw [h9]
  refine OW.last 12 [6] (x' := ⟨[(6, .v (.bool false))], (srq29 s l k)⟩) (by kernel_rfl) (by kernel_rfl) ?_
  refine EL.ret ?_
  refine ⟨.inr rfl, .v (.bool false), by kernel_rfl, Ale.of_eq ?_⟩
  focus (first | rfl | (simp [Ship.same_self, *]; done) | (exfalso; simp_all [Ship.same_self]; done) | (have hp := Ship.run_parts (s := s) (l := l) (by assumption) k.toNat; rw [← List.take_of_length_le (l := List.drop k.toNat l) (i := l.length - k.toNat) (by simp)] at hp; obtain ⟨p1, p2, p3, p4, p5, _⟩ := hp; first | (simp_all [Ship.same_self]; done) | trace_state))
  rw [h8]
  have g8 : ¬ (((((s.runP (List.take (k : Int).toNat l)).1).runP (List.take ((List.length l) - (k : Int).toNat) (List.drop (k : Int).toNat l))).2.2) = 0) := by simpa using h8
  refine OW.last 17 [6] (x' := ⟨[(6, .v (.bool false))], (srq29 s l k)⟩) (by kernel_rfl) (by kernel_rfl) ?_
  refine EL.ret ?_
  refine ⟨.inr rfl, .v (.bool false), by kernel_rfl, Ale.of_eq ?_⟩
  focus (first | rfl | (simp [Ship.same_self, *]; done) | (exfalso; simp_all [Ship.same_self]; done) | (have hp := Ship.run_parts (s := s) (l := l) (by assumption) k.toNat; rw [← List.take_of_length_le (l := List.drop k.toNat l) (i := l.length - k.toNat) (by simp)] at hp; obtain ⟨p1, p2, p3, p4, p5, _⟩ := hp; first | (simp_all [Ship.same_self]; done) | trace_state))
  rw [h7]
  have g7 : ¬ (((s.runP (List.take (k : Int).toNat l)).2.2) = 0) := by simpa using h7
  refine OW.last 21 [6] (x' := ⟨[(6, .v (.bool false))], (srq29 s l k)⟩) (by kernel_rfl) (by kernel_rfl) ?_
  refine EL.ret ?_
  refine ⟨.inr rfl, .v (.bool false), by kernel_rfl, Ale.of_eq ?_⟩
  focus (first | rfl | (simp [Ship.same_self, *]; done) | (exfalso; simp_all [Ship.same_self]; done) | (have hp := Ship.run_parts (s := s) (l := l) (by assumption) k.toNat; rw [← List.take_of_length_le (l := List.drop k.toNat l) (i := l.length - k.toNat) (by simp)] at hp; obtain ⟨p1, p2, p3, p4, p5, _⟩ := hp; first | (simp_all [Ship.same_self]; done) | trace_state))
  rw [h1]
  refine OW.last 9 [1, 2, 3, 7, 8, 9, 50] (x' := ⟨(50, .v (.bool true)) :: (srq7 s l k), [(srq0 s), (srq6 s l), (srq6 s l)]⟩) (by kernel_rfl) (by kernel_rfl) ?_
  refine EL.condT (by kernel_rfl) ?_
  refine EL.sreg ?_
  refine OW.last 1 [6] (x' := ⟨[(6, .v (.bool false))], [(srq0 s), (srq6 s l), (srq6 s l)]⟩) (by kernel_rfl) (by kernel_rfl) ?_
  refine EL.ret ?_
  refine thenL_ret ?_
  refine ⟨.inr rfl, .v (.bool false), by kernel_rfl, Ale.of_eq ?_⟩
  focus (first | rfl | (simp [Ship.same_self, *]; done) | (exfalso; simp_all [Ship.same_self]; done) | (have hp := Ship.run_parts (s := s) (l := l) (by assumption) k.toNat; rw [← List.take_of_length_le (l := List.drop k.toNat l) (i := l.length - k.toNat) (by simp)] at hp; obtain ⟨p1, p2, p3, p4, p5, _⟩ := hp; first | (simp_all [Ship.same_self]; done) | trace_state))
theorem ShipRuns_walk {w : World} (s : Ship) (css : List Value) (rs : GoT.rep w w.heap.size css s) (l : List Act) (Al : Option Addr) (nl cl : Nat) (rl : GoT.rep w w.heap.size [.slice Al nl cl] l) (k : Int) (_wk : (Lit.int .i64 k).wf = true) : Calls Try.prog 4 #[.agg css.toArray, .slice Al nl cl, I k] w fun e w' => e = .returned (.bool true) ∧ Below w.heap.size w w' := by
  have ls := (Ship.av rs).2
  have ll := rep_len rl
  exact fn_law (vs := [.agg css.toArray, .slice Al nl cl, I k]) (shipRuns_fn s l k (by first | assumption | omega) (by first | assumption | omega)) (.cons ((Ship.av rs).1) (.cons (rep_list (fun x : Act => [I x.kind, I x.n, .string x.data]) _ Act.flat (fun _ => rfl) (by intro x v hv; simp at hv; rcases hv with rfl | rfl | rfl <;> exact ⟨rfl, rfl⟩) rl) (.cons (.v rfl) (.nil))))
theorem ShipRuns_own : ownKnob Try.prog.godebug = none := by kernel_rfl
theorem ShipRuns_laidOut : laidOutB Try.prog = true := by kernel_rfl
set_option maxRecDepth 100000 in
set_option linter.unusedVariables false in
theorem ShipRuns_lifted (os : Os) (started : os.Started) (H : Type) (enc : TypeId × Value → H) :
    ReturnsInHanded {} Try.checked os 4 .any (Rows.shipRunsSpec.pre6 enc Try.prog Try.f4 Rows.shipRunsRow.domain false) (Rows.shipRunsSpec.post enc Try.prog Try.f4 false true false false) := by
  refine returnsInHanded_of_change (C := Try.checked) ShipRuns_own started (by kernel_rfl) Try.func4
    (ChangeSpec.witness6 (enc := enc) (C := Try.checked) false ⟨#[], #[.agg #[.slice none 0 0, .slice none 0 0, .slice none 0 0, .int .i64 0, .int .i64 0, .int .i64 0, .slice none 0 0, .slice none 0 0], .slice none 0 0, .int .i64 0], []⟩ 8 (by kernel_rfl) (by kernel_rfl) (by kernel_rfl) (by kernel_rfl)) ?_
  intro W base args ds gs before hval0 hW hcnd _
  have hval : ∀ (j : Nat) t v, Try.f4.params[j]? = some t → args[j]? = some v → Value.okWide Try.prog W .any base t v := hval0
  have hW' := hW
  obtain ⟨p, q, hA0, hV, rfl, hfz, hnd⟩ := hW
  have hA : DataW.TrodAll enc Try.prog W 0 (fun _ => true) true Try.f4.params.toList args.toList ds p := hA0
  rw [Try.params4] at hA hval
  obtain ⟨v0, vs0, d0, ds0, p0, q0, hargs, rfl, rfl, h0, r0⟩ := trodAll_cons hA
  obtain ⟨v1, vs1, d1, ds1, p1, q1, rfl, rfl, rfl, h1, r1⟩ := trodAll_cons r0
  obtain ⟨v2, vs2, d2, ds2, p2, q2, rfl, rfl, rfl, h2, r2⟩ := trodAll_cons r1
  obtain ⟨rfl, rfl, rfl⟩ := trodAll_nil r2
  obtain rfl : args = #[v0, v1, v2] := by cases args; simp_all
  obtain ⟨rfl, rfl⟩ := trodVars_none hV
  have k0 := h0
  have lt0 : ∀ x ∈ p0, x.block < W.heap.size := by obtain ⟨m, hm⟩ := k0; exact DataW.trod_lt m _ _ _ hm
  obtain ⟨x0, cs0, rfl, w0⟩ := open_agg opens_Ship Try.underlying26 (hval 0 26 v0 rfl rfl) h0
  have k1 := h1
  have lt1 : ∀ x ∈ p1, x.block < W.heap.size := by obtain ⟨m, hm⟩ := k1; exact DataW.trod_lt m _ _ _ hm
  obtain ⟨x1, A1, n1, c1, rfl, w1⟩ := open_list opens_LAct Try.underlying37 (hval 1 37 v1 rfl rfl) h1
  have k2 := h2
  have lt2 : ∀ x ∈ p2, x.block < W.heap.size := by obtain ⟨m, hm⟩ := k2; exact DataW.trod_lt m _ _ _ hm
  obtain ⟨a2, rfl, e2, e2', w2⟩ := open_int Try.underlying3 (hval 2 3 v2 rfl rfl) h2
  clear hA0 hval0
  refine (ShipRuns_walk (w := W) x0 cs0 w0 x1 A1 n1 c1 w1 a2 w2).mono fun e W' ⟨he, bel⟩ => ?_
  subst he
  exact ⟨_, rfl, _, _, _, [], _, [], hW', trodAll_mk1 (shut_bool Try.underlying4 _), (trodAll_cons_mk (Below.trod ShipRuns_laidOut (by kernel_rfl) (of_decide_eq_true (by kernel_rfl)) k0 bel lt0) (trodAll_cons_mk (Below.trod ShipRuns_laidOut (by kernel_rfl) (of_decide_eq_true (by kernel_rfl)) k1 bel lt1) (trodAll_cons_mk (Below.trod ShipRuns_laidOut (by kernel_rfl) (of_decide_eq_true (by kernel_rfl)) k2 bel lt2) trodAll_mk0))), rfl, bel.frame _, fun h => by cases h⟩
set_option maxRecDepth 100000 in
set_option maxHeartbeats 4000000 in
theorem ShipRuns_closed : joinedFacts Try.prog 4 Try.f4 Rows.shipRunsSpec Rows.shipRunsRow = true := by
  unfold joinedFacts
  repeat' (with_reducible refine and_tt ?_ ?_)
  all_goals as_aux_lemma => kernel_rfl
theorem ShipRuns_over : Rows.shipRunsRow.holds Try.pinned (OpenSpec.ofChange Rows.shipRunsSpec) :=
  OpenClaim.holds_of_wide 4 Try.f4 rfl rfl rfl rfl rfl rfl rfl ⟨rfl, rfl, rfl, rfl, rfl⟩ rfl rfl rfl rfl rfl (by as_aux_lemma => kernel_rfl) Try.func4 ShipRuns_closed
    (of_decide_eq_true (by as_aux_lemma => kernel_rfl)) (by unfold Func.isWrapper; rw [if_neg (of_decide_eq_false (by as_aux_lemma => kernel_rfl))]; exact ⟨rfl, rfl⟩)
    (fun os started H enc _ => ShipRuns_lifted os started H enc)
theorem ShipRuns_holds : Rows.ShipRunsSaid := ShipRuns_over
end Go.Proofs.Ythdcanpbgaaneaa
