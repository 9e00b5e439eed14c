/- What must be in any case for ships: shipBegun answers true. No condition. -/
import Derived.Test.YthdcanpbgaaneaaPShipE
set_option maxRecDepth 100000
set_option maxHeartbeats 4000000
set_option linter.unusedVariables false
set_option linter.unusedSimpArgs false
namespace Go.Proofs.Ythdcanpbgaaneaa
abbrev Ship.Big (s : Ship) : Prop := s.first.length ≤ 9223372036854775807 ∧ s.second.length ≤ 9223372036854775807 ∧ s.log.length ≤ 9223372036854775807 ∧ s.there.length ≤ 9223372036854775807 ∧ s.back.length ≤ 9223372036854775807
theorem Ship.Ok.big {s : Ship} (ok : s.Ok) : s.Big := by have hh := ok.small; unfold Ship.Big; omega
theorem Ship.new_big (n : Int) : (Ship.newP n).1.Big := by have hh := Ship.new_len n; unfold Ship.Big; omega
theorem Ship.do_big (s : Ship) (a : Act) : (s.doP a).1.Big := by have hh := Ship.do_len s a; unfold Ship.Big; omega
theorem Ship.zero_big : Ship.zero.Big := by have hh := Ship.zero_small; unfold Ship.Big; omega
theorem Ship.run_cases (s : Ship) (l : List Act) : (s.runP l).2.2 = 0 ∧ s.Ok ∧ l.length ≤ 200 ∧ s.runP l = ((s.runGo l 0).1, (s.runGo l 0).2, 0) ∧ (s.runP l).1.Ok ∨ (s.runP l).2.2 ≠ 0 ∧ (s.runP l).1 = Ship.zero ∧ (s.runP l).2.1 = 0 := by
  by_cases h : s.checkE = 0
  · by_cases h2 : 200 < l.length
    · rw [Ship.runP_2 h h2]; right; simp
    · rw [Ship.runP_0 h h2]; left; exact ⟨rfl, Ship.checkE_0.1 h, by omega, rfl, Ship.run_ok l 0 (Ship.checkE_0.1 h)⟩
  · rw [Ship.runP_n h]; right; exact ⟨h, rfl, rfl⟩
theorem Ship.run_big (s : Ship) (l : List Act) : (s.runP l).1.Big := by
  rcases Ship.run_cases s l with ⟨_, _, _, _, h⟩ | ⟨_, h, _⟩
  · exact h.big
  · rw [h]; exact Ship.zero_big
theorem Ship.sail_big (n : Int) (l : List Act) : (Ship.sailP n l).1.Big := by
  unfold Ship.sailP
  split
  · exact Ship.run_big _ _
  · exact Ship.new_big n
abbrev sfq0 : AV := .agg [.lst 1 ((((Ship.newP 2).1).first).map cZ), .lst 1 ((((Ship.newP 2).1).second).map cZ), .lst 2 ((((Ship.newP 2).1).log).map Record.cs), VI (((Ship.newP 2).1).sent), VI (((Ship.newP 2).1).applied), VI (((Ship.newP 2).1).known), .lst 1 ((((Ship.newP 2).1).there).map cI), .lst 1 ((((Ship.newP 2).1).back).map cI)]
abbrev sfq1 : OB := some ⟨8, [[.lst 1 ((((Ship.newP 2).1).first).map cZ), .lst 1 ((((Ship.newP 2).1).second).map cZ), .lst 2 ((((Ship.newP 2).1).log).map Record.cs), VI (((Ship.newP 2).1).sent), VI (((Ship.newP 2).1).applied), VI (((Ship.newP 2).1).known), .lst 1 ((((Ship.newP 2).1).there).map cI), .lst 1 ((((Ship.newP 2).1).back).map cI)]]⟩
abbrev sfq2 : LS := [(16, sfq0), (2, VI ((Ship.newP 2).2)), (1, .ref 0 8 0 0)]
abbrev sfq3 : Act := (⟨1, 1, (⟨#[97]⟩)⟩ : Act)
abbrev sfq4 : LS := (17, .agg [VI sfq3.kind, VI sfq3.n, .v (.string sfq3.data)]) :: sfq2
abbrev sfq5 : Act := (⟨1, 0, (⟨#[98]⟩)⟩ : Act)
abbrev sfq6 : LS := (18, .agg [VI sfq5.kind, VI sfq5.n, .v (.string sfq5.data)]) :: sfq4
abbrev sfq7 : AV := .agg [VI ((⟨2, 0, (⟨#[]⟩)⟩ : Act).kind), VI ((⟨2, 0, (⟨#[]⟩)⟩ : Act).n), .v (.string ((⟨2, 0, (⟨#[]⟩)⟩ : Act).data))]
abbrev sfq8 : AV := .agg [VI ((⟨4, 0, (⟨#[]⟩)⟩ : Act).kind), VI ((⟨4, 0, (⟨#[]⟩)⟩ : Act).n), .v (.string ((⟨4, 0, (⟨#[]⟩)⟩ : Act).data))]
abbrev sfq9 : AV := .agg [VI ((⟨3, 0, (⟨#[]⟩)⟩ : Act).kind), VI ((⟨3, 0, (⟨#[]⟩)⟩ : Act).n), .v (.string ((⟨3, 0, (⟨#[]⟩)⟩ : Act).data))]
abbrev sfq10 : LS := (22, sfq9) :: (21, sfq8) :: (20, sfq7) :: (19, sfq7) :: sfq6
abbrev sfq11 : OB := some ⟨3, [[VI sfq3.kind, VI sfq3.n, .v (.string sfq3.data)], [VI sfq5.kind, VI sfq5.n, .v (.string sfq5.data)], [VI ((⟨2, 0, (⟨#[]⟩)⟩ : Act).kind), VI ((⟨2, 0, (⟨#[]⟩)⟩ : Act).n), .v (.string ((⟨2, 0, (⟨#[]⟩)⟩ : Act).data))], [VI ((⟨2, 0, (⟨#[]⟩)⟩ : Act).kind), VI ((⟨2, 0, (⟨#[]⟩)⟩ : Act).n), .v (.string ((⟨2, 0, (⟨#[]⟩)⟩ : Act).data))], [VI ((⟨4, 0, (⟨#[]⟩)⟩ : Act).kind), VI ((⟨4, 0, (⟨#[]⟩)⟩ : Act).n), .v (.string ((⟨4, 0, (⟨#[]⟩)⟩ : Act).data))], [VI ((⟨3, 0, (⟨#[]⟩)⟩ : Act).kind), VI ((⟨3, 0, (⟨#[]⟩)⟩ : Act).n), .v (.string ((⟨3, 0, (⟨#[]⟩)⟩ : Act).data))]]⟩
abbrev sfq12 : Ship := (((Ship.newP 2).1).runP ([sfq3, sfq5, (⟨2, 0, (⟨#[]⟩)⟩ : Act), (⟨2, 0, (⟨#[]⟩)⟩ : Act), (⟨4, 0, (⟨#[]⟩)⟩ : Act), (⟨3, 0, (⟨#[]⟩)⟩ : Act)])).1
abbrev sfq13 : AV := .agg [.lst 1 (sfq12.first.map cZ), .lst 1 (sfq12.second.map cZ), .lst 2 (sfq12.log.map Record.cs), VI sfq12.sent, VI sfq12.applied, VI sfq12.known, .lst 1 (sfq12.there.map cI), .lst 1 (sfq12.back.map cI)]
abbrev sfq14 : LS := (24, .tup [sfq13, VI ((((Ship.newP 2).1).runP ([sfq3, sfq5, (⟨2, 0, (⟨#[]⟩)⟩ : Act), (⟨2, 0, (⟨#[]⟩)⟩ : Act), (⟨4, 0, (⟨#[]⟩)⟩ : Act), (⟨3, 0, (⟨#[]⟩)⟩ : Act)])).2.1), VI ((((Ship.newP 2).1).runP ([sfq3, sfq5, (⟨2, 0, (⟨#[]⟩)⟩ : Act), (⟨2, 0, (⟨#[]⟩)⟩ : Act), (⟨4, 0, (⟨#[]⟩)⟩ : Act), (⟨3, 0, (⟨#[]⟩)⟩ : Act)])).2.2)]) :: (23, .own 1 3 0 6) :: sfq10
abbrev sfq15 : OB := some ⟨8, [[.lst 1 (sfq12.first.map cZ), .lst 1 (sfq12.second.map cZ), .lst 2 (sfq12.log.map Record.cs), VI sfq12.sent, VI sfq12.applied, VI sfq12.known, .lst 1 (sfq12.there.map cI), .lst 1 (sfq12.back.map cI)]]⟩
abbrev sfq16 : LS := [(5, VI ((((Ship.newP 2).1).runP ([sfq3, sfq5, (⟨2, 0, (⟨#[]⟩)⟩ : Act), (⟨2, 0, (⟨#[]⟩)⟩ : Act), (⟨4, 0, (⟨#[]⟩)⟩ : Act), (⟨3, 0, (⟨#[]⟩)⟩ : Act)])).2.2)), (4, VI ((((Ship.newP 2).1).runP ([sfq3, sfq5, (⟨2, 0, (⟨#[]⟩)⟩ : Act), (⟨2, 0, (⟨#[]⟩)⟩ : Act), (⟨4, 0, (⟨#[]⟩)⟩ : Act), (⟨3, 0, (⟨#[]⟩)⟩ : Act)])).2.1)), (3, .ref 2 8 0 0), (2, VI ((Ship.newP 2).2)), (1, .ref 0 8 0 0)]
abbrev sfq17 : AV := .agg [VI ((⟨7, 0, (⟨#[]⟩)⟩ : Act).kind), VI ((⟨7, 0, (⟨#[]⟩)⟩ : Act).n), .v (.string ((⟨7, 0, (⟨#[]⟩)⟩ : Act).data))]
abbrev sfq18 : LS := (32, sfq9) :: (31, sfq7) :: (30, sfq17) :: (29, sfq13) :: sfq16
abbrev sfq19 : AV := .agg [VI ((⟨5, 1, (⟨#[]⟩)⟩ : Act).kind), VI ((⟨5, 1, (⟨#[]⟩)⟩ : Act).n), .v (.string ((⟨5, 1, (⟨#[]⟩)⟩ : Act).data))]
abbrev sfq20 : AV := .agg [VI ((⟨8, 0, (⟨#[]⟩)⟩ : Act).kind), VI ((⟨8, 0, (⟨#[]⟩)⟩ : Act).n), .v (.string ((⟨8, 0, (⟨#[]⟩)⟩ : Act).data))]
abbrev sfq21 : OB := some ⟨3, [[VI ((⟨7, 0, (⟨#[]⟩)⟩ : Act).kind), VI ((⟨7, 0, (⟨#[]⟩)⟩ : Act).n), .v (.string ((⟨7, 0, (⟨#[]⟩)⟩ : Act).data))], [VI ((⟨2, 0, (⟨#[]⟩)⟩ : Act).kind), VI ((⟨2, 0, (⟨#[]⟩)⟩ : Act).n), .v (.string ((⟨2, 0, (⟨#[]⟩)⟩ : Act).data))], [VI ((⟨3, 0, (⟨#[]⟩)⟩ : Act).kind), VI ((⟨3, 0, (⟨#[]⟩)⟩ : Act).n), .v (.string ((⟨3, 0, (⟨#[]⟩)⟩ : Act).data))], [VI ((⟨5, 1, (⟨#[]⟩)⟩ : Act).kind), VI ((⟨5, 1, (⟨#[]⟩)⟩ : Act).n), .v (.string ((⟨5, 1, (⟨#[]⟩)⟩ : Act).data))], [VI ((⟨8, 0, (⟨#[]⟩)⟩ : Act).kind), VI ((⟨8, 0, (⟨#[]⟩)⟩ : Act).n), .v (.string ((⟨8, 0, (⟨#[]⟩)⟩ : Act).data))]]⟩
abbrev sfq22 : LS := (35, .own 3 3 0 5) :: (34, sfq20) :: (33, sfq19) :: sfq18
abbrev sfq23 : Ship := (sfq12.runP ([(⟨7, 0, (⟨#[]⟩)⟩ : Act), (⟨2, 0, (⟨#[]⟩)⟩ : Act), (⟨3, 0, (⟨#[]⟩)⟩ : Act), (⟨5, 1, (⟨#[]⟩)⟩ : Act), (⟨8, 0, (⟨#[]⟩)⟩ : Act)])).1
abbrev sfq24 : AV := .agg [.lst 1 (sfq23.first.map cZ), .lst 1 (sfq23.second.map cZ), .lst 2 (sfq23.log.map Record.cs), VI sfq23.sent, VI sfq23.applied, VI sfq23.known, .lst 1 (sfq23.there.map cI), .lst 1 (sfq23.back.map cI)]
abbrev sfq25 : LS := (36, .tup [sfq24, VI ((sfq12.runP ([(⟨7, 0, (⟨#[]⟩)⟩ : Act), (⟨2, 0, (⟨#[]⟩)⟩ : Act), (⟨3, 0, (⟨#[]⟩)⟩ : Act), (⟨5, 1, (⟨#[]⟩)⟩ : Act), (⟨8, 0, (⟨#[]⟩)⟩ : Act)])).2.1), VI ((sfq12.runP ([(⟨7, 0, (⟨#[]⟩)⟩ : Act), (⟨2, 0, (⟨#[]⟩)⟩ : Act), (⟨3, 0, (⟨#[]⟩)⟩ : Act), (⟨5, 1, (⟨#[]⟩)⟩ : Act), (⟨8, 0, (⟨#[]⟩)⟩ : Act)])).2.2)]) :: sfq22
abbrev sfq26 : OB := some ⟨8, [[.lst 1 (sfq23.first.map cZ), .lst 1 (sfq23.second.map cZ), .lst 2 (sfq23.log.map Record.cs), VI sfq23.sent, VI sfq23.applied, VI sfq23.known, .lst 1 (sfq23.there.map cI), .lst 1 (sfq23.back.map cI)]]⟩
abbrev sfq27 : LS := (8, VI ((sfq12.runP ([(⟨7, 0, (⟨#[]⟩)⟩ : Act), (⟨2, 0, (⟨#[]⟩)⟩ : Act), (⟨3, 0, (⟨#[]⟩)⟩ : Act), (⟨5, 1, (⟨#[]⟩)⟩ : Act), (⟨8, 0, (⟨#[]⟩)⟩ : Act)])).2.2)) :: (7, VI ((sfq12.runP ([(⟨7, 0, (⟨#[]⟩)⟩ : Act), (⟨2, 0, (⟨#[]⟩)⟩ : Act), (⟨3, 0, (⟨#[]⟩)⟩ : Act), (⟨5, 1, (⟨#[]⟩)⟩ : Act), (⟨8, 0, (⟨#[]⟩)⟩ : Act)])).2.1)) :: (6, .ref 4 8 0 0) :: sfq16
abbrev sfq28 : Ship := (((Ship.newP 2).1).doP (⟨2, 0, (⟨#[]⟩)⟩ : Act)).1
abbrev sfq29 : AV := .agg [.lst 1 (sfq28.first.map cZ), .lst 1 (sfq28.second.map cZ), .lst 2 (sfq28.log.map Record.cs), VI sfq28.sent, VI sfq28.applied, VI sfq28.known, .lst 1 (sfq28.there.map cI), .lst 1 (sfq28.back.map cI)]
abbrev sfq30 : LS := (43, .tup [sfq29, VI ((((Ship.newP 2).1).doP (⟨2, 0, (⟨#[]⟩)⟩ : Act)).2)]) :: (42, sfq7) :: (41, sfq0) :: sfq27
abbrev sfq31 : OB := some ⟨8, [[.lst 1 (sfq28.first.map cZ), .lst 1 (sfq28.second.map cZ), .lst 2 (sfq28.log.map Record.cs), VI sfq28.sent, VI sfq28.applied, VI sfq28.known, .lst 1 (sfq28.there.map cI), .lst 1 (sfq28.back.map cI)]]⟩
abbrev sfq32 : LS := [(10, VI ((((Ship.newP 2).1).doP (⟨2, 0, (⟨#[]⟩)⟩ : Act)).2)), (8, VI ((sfq12.runP ([(⟨7, 0, (⟨#[]⟩)⟩ : Act), (⟨2, 0, (⟨#[]⟩)⟩ : Act), (⟨3, 0, (⟨#[]⟩)⟩ : Act), (⟨5, 1, (⟨#[]⟩)⟩ : Act), (⟨8, 0, (⟨#[]⟩)⟩ : Act)])).2.2)), (7, VI ((sfq12.runP ([(⟨7, 0, (⟨#[]⟩)⟩ : Act), (⟨2, 0, (⟨#[]⟩)⟩ : Act), (⟨3, 0, (⟨#[]⟩)⟩ : Act), (⟨5, 1, (⟨#[]⟩)⟩ : Act), (⟨8, 0, (⟨#[]⟩)⟩ : Act)])).2.1)), (6, .ref 4 8 0 0), (5, VI ((((Ship.newP 2).1).runP ([sfq3, sfq5, (⟨2, 0, (⟨#[]⟩)⟩ : Act), (⟨2, 0, (⟨#[]⟩)⟩ : Act), (⟨4, 0, (⟨#[]⟩)⟩ : Act), (⟨3, 0, (⟨#[]⟩)⟩ : Act)])).2.2)), (4, VI ((((Ship.newP 2).1).runP ([sfq3, sfq5, (⟨2, 0, (⟨#[]⟩)⟩ : Act), (⟨2, 0, (⟨#[]⟩)⟩ : Act), (⟨4, 0, (⟨#[]⟩)⟩ : Act), (⟨3, 0, (⟨#[]⟩)⟩ : Act)])).2.1)), (3, .ref 2 8 0 0), (2, VI ((Ship.newP 2).2))]
abbrev sfq33 : LS := (49, VI ((((Ship.newP 2).1).runP ([sfq3, sfq5, (⟨2, 0, (⟨#[]⟩)⟩ : Act), (⟨2, 0, (⟨#[]⟩)⟩ : Act), (⟨4, 0, (⟨#[]⟩)⟩ : Act), (⟨3, 0, (⟨#[]⟩)⟩ : Act)])).2.2)) :: (48, .v (.bool true)) :: (47, .v (.bool true)) :: (46, VI ((Ship.newP 2).2)) :: sfq32
abbrev sfq34 : LS := (53, VI ((((Ship.newP 2).1).runP ([sfq3, sfq5, (⟨2, 0, (⟨#[]⟩)⟩ : Act), (⟨2, 0, (⟨#[]⟩)⟩ : Act), (⟨4, 0, (⟨#[]⟩)⟩ : Act), (⟨3, 0, (⟨#[]⟩)⟩ : Act)])).2.1)) :: (52, .v (.bool true)) :: (51, .v (.bool true)) :: (50, .v (.bool true)) :: sfq33
abbrev sfq35 : LS := (58, VI sfq12.applied) :: (57, .ref 2 8 0 4) :: (56, .v (.bool true)) :: (55, .v (.bool true)) :: (54, .v (.bool true)) :: sfq34
abbrev sfq36 : LB := [sfq1, none, sfq15, none, sfq26, sfq31, some ⟨1, [[.v (.string (⟨#[]⟩))], [.v (.string (⟨#[]⟩))]]⟩]
abbrev sfq37 : LS := (64, .own 6 1 0 2) :: (63, .lst 1 (sfq12.second.map cZ)) :: (62, .ref 2 8 0 1) :: (61, .v (.bool true)) :: (60, .v (.bool true)) :: (59, .v (.bool true)) :: sfq35
abbrev sfq38 : LS := (68, VI ((sfq12.runP ([(⟨7, 0, (⟨#[]⟩)⟩ : Act), (⟨2, 0, (⟨#[]⟩)⟩ : Act), (⟨3, 0, (⟨#[]⟩)⟩ : Act), (⟨5, 1, (⟨#[]⟩)⟩ : Act), (⟨8, 0, (⟨#[]⟩)⟩ : Act)])).2.2)) :: (67, .v (.bool true)) :: (66, .v (.bool true)) :: (65, .v (.bool true)) :: sfq37
abbrev sfq39 : LS := (72, VI ((sfq12.runP ([(⟨7, 0, (⟨#[]⟩)⟩ : Act), (⟨2, 0, (⟨#[]⟩)⟩ : Act), (⟨3, 0, (⟨#[]⟩)⟩ : Act), (⟨5, 1, (⟨#[]⟩)⟩ : Act), (⟨8, 0, (⟨#[]⟩)⟩ : Act)])).2.1)) :: (71, .v (.bool true)) :: (70, .v (.bool true)) :: (69, .v (.bool true)) :: sfq38
abbrev sfq40 : OB := some ⟨1, [[.v (.string (⟨#[]⟩))], [.v (.string (⟨#[97]⟩))]]⟩
abbrev sfq41 : LB := [sfq1, none, sfq15, none, sfq26, sfq31, some ⟨1, [[.v (.string (⟨#[]⟩))], [.v (.string (⟨#[]⟩))]]⟩, sfq40]
abbrev sfq42 : LS := (78, .own 7 1 0 2) :: (77, .lst 1 (sfq23.first.map cZ)) :: (76, .ref 4 8 0 0) :: (75, .v (.bool true)) :: (74, .v (.bool true)) :: (73, .v (.bool true)) :: sfq39
abbrev sfq43 : LS := (83, .lst 2 (sfq23.log.map Record.cs)) :: (82, .ref 4 8 0 2) :: (81, .v (.bool true)) :: (80, .v (.bool true)) :: (79, .v (.bool true)) :: sfq42
abbrev sfq44 : LS := (88, VI ((((Ship.newP 2).1).doP (⟨2, 0, (⟨#[]⟩)⟩ : Act)).2)) :: (87, .v (.bool true)) :: (86, .v (.bool true)) :: (85, .v (.bool true)) :: (84, VI (List.length sfq23.log : Int)) :: sfq43
abbrev sfq45 : LS := (92, sfq13) :: (91, .v (.bool true)) :: (90, .v (.bool true)) :: (89, .v (.bool true)) :: sfq44
theorem begun_fn : Fn Try.prog 15 [] (.v (.bool true)) := by
  refine fn_walkW F15_ok (of_decide_eq_true (by kernel_rfl)) ?_
  refine EL.sreg ?_
  refine OW.last 1 [] (x' := ⟨[], []⟩) (by kernel_rfl) (by kernel_rfl) ?_
  refine EL.sreg ?_
  refine OW.fn (ar := [VI 2]) (x' := ⟨[(12, .tup [sfq0, VI ((Ship.newP 2).2)])], []⟩) (by kernel_rfl) (by kernel_rfl) F11_call (new_fn 2) (by kernel_rfl) (by kernel_rfl) ?_
  refine OW.last 6 [1, 2] (x' := ⟨[(2, VI ((Ship.newP 2).2)), (1, .ref 0 8 0 0)], [sfq1]⟩) (by kernel_rfl) (by kernel_rfl) ?_
  refine EL.sdraw ?_
  refine DW.run 1 (x' := ⟨sfq2, [sfq1]⟩) (by kernel_rfl) ?_
  refine DW.fn (ar := [VI 1, VI 1, .v (.string (⟨#[97]⟩))]) (x' := ⟨sfq4, [sfq1]⟩) (by kernel_rfl) (by kernel_rfl) F24_call (act_fn 1 1 (⟨#[97]⟩)) (by kernel_rfl) (by kernel_rfl) ?_
  refine DW.fn (ar := [VI 1, VI 0, .v (.string (⟨#[98]⟩))]) (x' := ⟨sfq6, [sfq1]⟩) (by kernel_rfl) (by kernel_rfl) F24_call (act_fn 1 0 (⟨#[98]⟩)) (by kernel_rfl) (by kernel_rfl) ?_
  refine DW.fn (ar := [VI 2, VI 0, .v (.string (⟨#[]⟩))]) (x' := ⟨(19, sfq7) :: sfq6, [sfq1]⟩) (by kernel_rfl) (by kernel_rfl) F24_call (act_fn 2 0 (⟨#[]⟩)) (by kernel_rfl) (by kernel_rfl) ?_
  refine DW.fn (ar := [VI 2, VI 0, .v (.string (⟨#[]⟩))]) (x' := ⟨(20, sfq7) :: (19, sfq7) :: sfq6, [sfq1]⟩) (by kernel_rfl) (by kernel_rfl) F24_call (act_fn 2 0 (⟨#[]⟩)) (by kernel_rfl) (by kernel_rfl) ?_
  refine DW.fn (ar := [VI 4, VI 0, .v (.string (⟨#[]⟩))]) (x' := ⟨(21, sfq8) :: (20, sfq7) :: (19, sfq7) :: sfq6, [sfq1]⟩) (by kernel_rfl) (by kernel_rfl) F24_call (act_fn 4 0 (⟨#[]⟩)) (by kernel_rfl) (by kernel_rfl) ?_
  refine DW.fn (ar := [VI 3, VI 0, .v (.string (⟨#[]⟩))]) (x' := ⟨sfq10, [sfq1]⟩) (by kernel_rfl) (by kernel_rfl) F24_call (act_fn 3 0 (⟨#[]⟩)) (by kernel_rfl) (by kernel_rfl) ?_
  refine DW.run 1 (x' := ⟨(23, .own 1 3 0 6) :: sfq10, [sfq1, sfq11]⟩) (by kernel_rfl) ?_
  refine DW.fn (ar := [sfq0, .own 1 3 0 6]) (x' := ⟨sfq14, [sfq1, none]⟩) (by kernel_rfl) (by kernel_rfl) F19_call (run_fn ((Ship.newP 2).1) ([sfq3, sfq5, (⟨2, 0, (⟨#[]⟩)⟩ : Act), (⟨2, 0, (⟨#[]⟩)⟩ : Act), (⟨4, 0, (⟨#[]⟩)⟩ : Act), (⟨3, 0, (⟨#[]⟩)⟩ : Act)]) (by first | exact hx | exact Ship.new_big _ | exact Ship.run_big _ _ | exact Ship.do_big _ _ | exact Ship.sail_big _ _ | exact Ship.zero_big | exact Ship.Ok.big (by assumption) | omega) (by first | omega | decide | (simp; omega))) (by kernel_rfl) (by kernel_rfl) ?_
  refine DW.last 8 [1, 2, 3, 4, 5] (x' := ⟨sfq16, [sfq1, none, sfq15]⟩) (by kernel_rfl) (by kernel_rfl) ?_
  refine EL.sdraw ?_
  refine DW.run 1 (x' := ⟨(29, sfq13) :: sfq16, [sfq1, none, sfq15]⟩) (by kernel_rfl) ?_
  refine DW.fn (ar := [VI 7, VI 0, .v (.string (⟨#[]⟩))]) (x' := ⟨(30, sfq17) :: (29, sfq13) :: sfq16, [sfq1, none, sfq15]⟩) (by kernel_rfl) (by kernel_rfl) F24_call (act_fn 7 0 (⟨#[]⟩)) (by kernel_rfl) (by kernel_rfl) ?_
  refine DW.fn (ar := [VI 2, VI 0, .v (.string (⟨#[]⟩))]) (x' := ⟨(31, sfq7) :: (30, sfq17) :: (29, sfq13) :: sfq16, [sfq1, none, sfq15]⟩) (by kernel_rfl) (by kernel_rfl) F24_call (act_fn 2 0 (⟨#[]⟩)) (by kernel_rfl) (by kernel_rfl) ?_
  refine DW.fn (ar := [VI 3, VI 0, .v (.string (⟨#[]⟩))]) (x' := ⟨sfq18, [sfq1, none, sfq15]⟩) (by kernel_rfl) (by kernel_rfl) F24_call (act_fn 3 0 (⟨#[]⟩)) (by kernel_rfl) (by kernel_rfl) ?_
  refine DW.fn (ar := [VI 5, VI 1, .v (.string (⟨#[]⟩))]) (x' := ⟨(33, sfq19) :: sfq18, [sfq1, none, sfq15]⟩) (by kernel_rfl) (by kernel_rfl) F24_call (act_fn 5 1 (⟨#[]⟩)) (by kernel_rfl) (by kernel_rfl) ?_
  refine DW.fn (ar := [VI 8, VI 0, .v (.string (⟨#[]⟩))]) (x' := ⟨(34, sfq20) :: (33, sfq19) :: sfq18, [sfq1, none, sfq15]⟩) (by kernel_rfl) (by kernel_rfl) F24_call (act_fn 8 0 (⟨#[]⟩)) (by kernel_rfl) (by kernel_rfl) ?_
  refine DW.run 1 (x' := ⟨sfq22, [sfq1, none, sfq15, sfq21]⟩) (by kernel_rfl) ?_
  refine DW.fn (ar := [sfq13, .own 3 3 0 5]) (x' := ⟨sfq25, [sfq1, none, sfq15, none]⟩) (by kernel_rfl) (by kernel_rfl) F19_call (run_fn sfq12 ([(⟨7, 0, (⟨#[]⟩)⟩ : Act), (⟨2, 0, (⟨#[]⟩)⟩ : Act), (⟨3, 0, (⟨#[]⟩)⟩ : Act), (⟨5, 1, (⟨#[]⟩)⟩ : Act), (⟨8, 0, (⟨#[]⟩)⟩ : Act)]) (by first | exact hx | exact Ship.new_big _ | exact Ship.run_big _ _ | exact Ship.do_big _ _ | exact Ship.sail_big _ _ | exact Ship.zero_big | exact Ship.Ok.big (by assumption) | omega) (by first | omega | decide | (simp; omega))) (by kernel_rfl) (by kernel_rfl) ?_
  refine DW.last 8 [1, 2, 3, 4, 5, 6, 7, 8] (x' := ⟨sfq27, [sfq1, none, sfq15, none, sfq26]⟩) (by kernel_rfl) (by kernel_rfl) ?_
  refine EL.sdraw ?_
  refine DW.run 1 (x' := ⟨(41, sfq0) :: sfq27, [sfq1, none, sfq15, none, sfq26]⟩) (by kernel_rfl) ?_
  refine DW.fn (ar := [VI 2, VI 0, .v (.string (⟨#[]⟩))]) (x' := ⟨(42, sfq7) :: (41, sfq0) :: sfq27, [sfq1, none, sfq15, none, sfq26]⟩) (by kernel_rfl) (by kernel_rfl) F24_call (act_fn 2 0 (⟨#[]⟩)) (by kernel_rfl) (by kernel_rfl) ?_
  refine DW.fn (ar := [sfq0, sfq7]) (x' := ⟨sfq30, [sfq1, none, sfq15, none, sfq26]⟩) (by kernel_rfl) (by kernel_rfl) F12_call (do_fn ((Ship.newP 2).1) (⟨2, 0, (⟨#[]⟩)⟩ : Act) (by first | exact hx | exact Ship.new_big _ | exact Ship.run_big _ _ | exact Ship.do_big _ _ | exact Ship.sail_big _ _ | exact Ship.zero_big | exact Ship.Ok.big (by assumption) | omega)) (by kernel_rfl) (by kernel_rfl) ?_
  refine DW.last 6 [2, 3, 4, 5, 6, 7, 8, 10] (x' := ⟨sfq32, [sfq1, none, sfq15, none, sfq26, sfq31]⟩) (by kernel_rfl) (by kernel_rfl) ?_
  refine EL.sreg ?_
  refine OW.run 3 (x' := ⟨(48, .v (.bool (((Ship.newP 2).2) == 0))) :: (47, .v (.bool (((Ship.newP 2).2) == 0))) :: (46, VI ((Ship.newP 2).2)) :: sfq32, [sfq1, none, sfq15, none, sfq26, sfq31]⟩) (by kernel_rfl) ?_
  have h1 : (((Ship.newP 2).2) == 0) = true := by first | kernel_rfl | decide
  rw [h1]
  refine OW.run 4 (x' := ⟨(52, .v (.bool (((((Ship.newP 2).1).runP ([sfq3, sfq5, (⟨2, 0, (⟨#[]⟩)⟩ : Act), (⟨2, 0, (⟨#[]⟩)⟩ : Act), (⟨4, 0, (⟨#[]⟩)⟩ : Act), (⟨3, 0, (⟨#[]⟩)⟩ : Act)])).2.2) == 0))) :: (51, .v (.bool (((((Ship.newP 2).1).runP ([sfq3, sfq5, (⟨2, 0, (⟨#[]⟩)⟩ : Act), (⟨2, 0, (⟨#[]⟩)⟩ : Act), (⟨4, 0, (⟨#[]⟩)⟩ : Act), (⟨3, 0, (⟨#[]⟩)⟩ : Act)])).2.2) == 0))) :: (50, .v (.bool (((((Ship.newP 2).1).runP ([sfq3, sfq5, (⟨2, 0, (⟨#[]⟩)⟩ : Act), (⟨2, 0, (⟨#[]⟩)⟩ : Act), (⟨4, 0, (⟨#[]⟩)⟩ : Act), (⟨3, 0, (⟨#[]⟩)⟩ : Act)])).2.2) == 0))) :: sfq33, [sfq1, none, sfq15, none, sfq26, sfq31]⟩) (by kernel_rfl) ?_
  have h2 : (((((Ship.newP 2).1).runP ([sfq3, sfq5, (⟨2, 0, (⟨#[]⟩)⟩ : Act), (⟨2, 0, (⟨#[]⟩)⟩ : Act), (⟨4, 0, (⟨#[]⟩)⟩ : Act), (⟨3, 0, (⟨#[]⟩)⟩ : Act)])).2.2) == 0) = true := by first | kernel_rfl | decide
  rw [h2]
  refine OW.run 4 (x' := ⟨(56, .v (.bool (((((Ship.newP 2).1).runP ([sfq3, sfq5, (⟨2, 0, (⟨#[]⟩)⟩ : Act), (⟨2, 0, (⟨#[]⟩)⟩ : Act), (⟨4, 0, (⟨#[]⟩)⟩ : Act), (⟨3, 0, (⟨#[]⟩)⟩ : Act)])).2.1) == 6))) :: (55, .v (.bool (((((Ship.newP 2).1).runP ([sfq3, sfq5, (⟨2, 0, (⟨#[]⟩)⟩ : Act), (⟨2, 0, (⟨#[]⟩)⟩ : Act), (⟨4, 0, (⟨#[]⟩)⟩ : Act), (⟨3, 0, (⟨#[]⟩)⟩ : Act)])).2.1) == 6))) :: (54, .v (.bool (((((Ship.newP 2).1).runP ([sfq3, sfq5, (⟨2, 0, (⟨#[]⟩)⟩ : Act), (⟨2, 0, (⟨#[]⟩)⟩ : Act), (⟨4, 0, (⟨#[]⟩)⟩ : Act), (⟨3, 0, (⟨#[]⟩)⟩ : Act)])).2.1) == 6))) :: sfq34, [sfq1, none, sfq15, none, sfq26, sfq31]⟩) (by kernel_rfl) ?_
  have h3 : (((((Ship.newP 2).1).runP ([sfq3, sfq5, (⟨2, 0, (⟨#[]⟩)⟩ : Act), (⟨2, 0, (⟨#[]⟩)⟩ : Act), (⟨4, 0, (⟨#[]⟩)⟩ : Act), (⟨3, 0, (⟨#[]⟩)⟩ : Act)])).2.1) == 6) = true := by first | kernel_rfl | decide
  rw [h3]
  refine OW.run 5 (x' := ⟨(61, .v (.bool (sfq12.applied == 0))) :: (60, .v (.bool (sfq12.applied == 0))) :: (59, .v (.bool (sfq12.applied == 0))) :: sfq35, [sfq1, none, sfq15, none, sfq26, sfq31]⟩) (by kernel_rfl) ?_
  have h4 : (sfq12.applied == 0) = true := by first | kernel_rfl | decide
  rw [h4]
  refine OW.run 3 (x' := ⟨sfq37, sfq36⟩) (by kernel_rfl) ?_
  refine OW.fn (ar := [.lst 1 (sfq12.second.map cZ), .own 6 1 0 2]) (x' := ⟨(65, .v (.bool (decide (sfq12.second = ([⟨#[]⟩, ⟨#[]⟩]))))) :: sfq37, sfq36⟩) (by kernel_rfl) (by kernel_rfl) F22_call (sameTexts_fn sfq12.second ([⟨#[]⟩, ⟨#[]⟩]) (by first | omega | decide | exact (Ship.new_big _).2.1 | exact (Ship.new_big _).1 | exact (Ship.run_big _ _).2.1 | exact (Ship.run_big _ _).1 | exact (Ship.do_big _ _).2.1 | exact (Ship.do_big _ _).1 | exact (Ship.sail_big _ _).2.1 | exact (Ship.sail_big _ _).1 | (simp; omega))) (by kernel_rfl) (by kernel_rfl) ?_
  refine OW.run 2 (x' := ⟨(67, .v (.bool (decide (sfq12.second = ([⟨#[]⟩, ⟨#[]⟩]))))) :: (66, .v (.bool (decide (sfq12.second = ([⟨#[]⟩, ⟨#[]⟩]))))) :: (65, .v (.bool (decide (sfq12.second = ([⟨#[]⟩, ⟨#[]⟩]))))) :: sfq37, sfq36⟩) (by kernel_rfl) ?_
  have h5 : decide (sfq12.second = ([⟨#[]⟩, ⟨#[]⟩])) = true := by first | kernel_rfl | decide
  rw [h5]
  refine OW.run 4 (x' := ⟨(71, .v (.bool (((sfq12.runP ([(⟨7, 0, (⟨#[]⟩)⟩ : Act), (⟨2, 0, (⟨#[]⟩)⟩ : Act), (⟨3, 0, (⟨#[]⟩)⟩ : Act), (⟨5, 1, (⟨#[]⟩)⟩ : Act), (⟨8, 0, (⟨#[]⟩)⟩ : Act)])).2.2) == 0))) :: (70, .v (.bool (((sfq12.runP ([(⟨7, 0, (⟨#[]⟩)⟩ : Act), (⟨2, 0, (⟨#[]⟩)⟩ : Act), (⟨3, 0, (⟨#[]⟩)⟩ : Act), (⟨5, 1, (⟨#[]⟩)⟩ : Act), (⟨8, 0, (⟨#[]⟩)⟩ : Act)])).2.2) == 0))) :: (69, .v (.bool (((sfq12.runP ([(⟨7, 0, (⟨#[]⟩)⟩ : Act), (⟨2, 0, (⟨#[]⟩)⟩ : Act), (⟨3, 0, (⟨#[]⟩)⟩ : Act), (⟨5, 1, (⟨#[]⟩)⟩ : Act), (⟨8, 0, (⟨#[]⟩)⟩ : Act)])).2.2) == 0))) :: sfq38, sfq36⟩) (by kernel_rfl) ?_
  have h6 : (((sfq12.runP ([(⟨7, 0, (⟨#[]⟩)⟩ : Act), (⟨2, 0, (⟨#[]⟩)⟩ : Act), (⟨3, 0, (⟨#[]⟩)⟩ : Act), (⟨5, 1, (⟨#[]⟩)⟩ : Act), (⟨8, 0, (⟨#[]⟩)⟩ : Act)])).2.2) == 0) = true := by first | kernel_rfl | decide
  rw [h6]
  refine OW.run 4 (x' := ⟨(75, .v (.bool (((sfq12.runP ([(⟨7, 0, (⟨#[]⟩)⟩ : Act), (⟨2, 0, (⟨#[]⟩)⟩ : Act), (⟨3, 0, (⟨#[]⟩)⟩ : Act), (⟨5, 1, (⟨#[]⟩)⟩ : Act), (⟨8, 0, (⟨#[]⟩)⟩ : Act)])).2.1) == 5))) :: (74, .v (.bool (((sfq12.runP ([(⟨7, 0, (⟨#[]⟩)⟩ : Act), (⟨2, 0, (⟨#[]⟩)⟩ : Act), (⟨3, 0, (⟨#[]⟩)⟩ : Act), (⟨5, 1, (⟨#[]⟩)⟩ : Act), (⟨8, 0, (⟨#[]⟩)⟩ : Act)])).2.1) == 5))) :: (73, .v (.bool (((sfq12.runP ([(⟨7, 0, (⟨#[]⟩)⟩ : Act), (⟨2, 0, (⟨#[]⟩)⟩ : Act), (⟨3, 0, (⟨#[]⟩)⟩ : Act), (⟨5, 1, (⟨#[]⟩)⟩ : Act), (⟨8, 0, (⟨#[]⟩)⟩ : Act)])).2.1) == 5))) :: sfq39, sfq36⟩) (by kernel_rfl) ?_
  have h7 : (((sfq12.runP ([(⟨7, 0, (⟨#[]⟩)⟩ : Act), (⟨2, 0, (⟨#[]⟩)⟩ : Act), (⟨3, 0, (⟨#[]⟩)⟩ : Act), (⟨5, 1, (⟨#[]⟩)⟩ : Act), (⟨8, 0, (⟨#[]⟩)⟩ : Act)])).2.1) == 5) = true := by first | kernel_rfl | decide
  rw [h7]
  refine OW.run 3 (x' := ⟨sfq42, sfq41⟩) (by kernel_rfl) ?_
  refine OW.fn (ar := [.lst 1 (sfq23.first.map cZ), .own 7 1 0 2]) (x' := ⟨(79, .v (.bool (decide (sfq23.first = ([⟨#[]⟩, ⟨#[97]⟩]))))) :: sfq42, sfq41⟩) (by kernel_rfl) (by kernel_rfl) F22_call (sameTexts_fn sfq23.first ([⟨#[]⟩, ⟨#[97]⟩]) (by first | omega | decide | exact (Ship.new_big _).2.1 | exact (Ship.new_big _).1 | exact (Ship.run_big _ _).2.1 | exact (Ship.run_big _ _).1 | exact (Ship.do_big _ _).2.1 | exact (Ship.do_big _ _).1 | exact (Ship.sail_big _ _).2.1 | exact (Ship.sail_big _ _).1 | (simp; omega))) (by kernel_rfl) (by kernel_rfl) ?_
  refine OW.run 2 (x' := ⟨(81, .v (.bool (decide (sfq23.first = ([⟨#[]⟩, ⟨#[97]⟩]))))) :: (80, .v (.bool (decide (sfq23.first = ([⟨#[]⟩, ⟨#[97]⟩]))))) :: (79, .v (.bool (decide (sfq23.first = ([⟨#[]⟩, ⟨#[97]⟩]))))) :: sfq42, sfq41⟩) (by kernel_rfl) ?_
  have h8 : decide (sfq23.first = ([⟨#[]⟩, ⟨#[97]⟩])) = true := by first | kernel_rfl | decide
  rw [h8]
  refine OW.run 2 (x' := ⟨sfq43, sfq41⟩) (by kernel_rfl) ?_
  refine OW.ope (v := VI (List.length sfq23.log : Int)) (u := []) (acc := []) (x' := ⟨(84, VI (List.length sfq23.log : Int)) :: sfq43, sfq41⟩) (by kernel_rfl) (opE_len Record.cs sfq23.log (.s 83) 2 (by kernel_rfl) (by kernel_rfl) (.inl rfl)) (by kernel_rfl) ?_
  refine OW.run 3 (x' := ⟨(87, .v (.bool ((List.length sfq23.log : Int) == 0))) :: (86, .v (.bool ((List.length sfq23.log : Int) == 0))) :: (85, .v (.bool ((List.length sfq23.log : Int) == 0))) :: (84, VI (List.length sfq23.log : Int)) :: sfq43, sfq41⟩) (by kernel_rfl) ?_
  have h9 : ((List.length sfq23.log : Int) == 0) = true := by first | kernel_rfl | decide
  rw [h9]
  refine OW.run 4 (x' := ⟨(91, .v (.bool (((((Ship.newP 2).1).doP (⟨2, 0, (⟨#[]⟩)⟩ : Act)).2) == 5))) :: (90, .v (.bool (((((Ship.newP 2).1).doP (⟨2, 0, (⟨#[]⟩)⟩ : Act)).2) == 5))) :: (89, .v (.bool (((((Ship.newP 2).1).doP (⟨2, 0, (⟨#[]⟩)⟩ : Act)).2) == 5))) :: sfq44, sfq41⟩) (by kernel_rfl) ?_
  have h10 : (((((Ship.newP 2).1).doP (⟨2, 0, (⟨#[]⟩)⟩ : Act)).2) == 5) = true := by first | kernel_rfl | decide
  rw [h10]
  refine OW.run 1 (x' := ⟨sfq45, sfq41⟩) (by kernel_rfl) ?_
  refine OW.fn (ar := [sfq13]) (x' := ⟨(93, VI sfq12.checkE) :: sfq45, sfq41⟩) (by kernel_rfl) (by kernel_rfl) F17_call (check_fn sfq12 (by first | exact hx | exact Ship.new_big _ | exact Ship.run_big _ _ | exact Ship.do_big _ _ | exact Ship.sail_big _ _ | exact Ship.zero_big | exact Ship.Ok.big (by assumption) | omega)) (by kernel_rfl) (by kernel_rfl) ?_
  refine OW.last 3 [0] (x' := ⟨[(0, .v (.bool (sfq12.checkE == 0)))], sfq41⟩) (by kernel_rfl) (by kernel_rfl) ?_
  refine EL.ret ?_
  refine ⟨.inr rfl, .v (.bool (sfq12.checkE == 0)), by kernel_rfl, Ale.of_eq ?_⟩
  focus (rfl)
end Go.Proofs.Ythdcanpbgaaneaa
