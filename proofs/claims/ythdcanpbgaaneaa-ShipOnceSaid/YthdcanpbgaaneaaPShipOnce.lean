/- A record that comes twice is applied once; one that comes ahead of its turn is not applied: the law ShipOnce returns true. No condition. -/
import Derived.Test.YthdcanpbgaaneaaPShipP
import Derived.Test.YthdcanpbgaaneaaPShipL
import Derived.WalkKit
import Derived.Handy
import Derived.ProofKit
import Derived.OpenShut
import Derived.ShutString
import Derived.ChangeOld
import Derived.Below
import Derived.Lib.Hide
import Derived.WalkLawsBesides
import Derived.WalkSpells
import Derived.Deep.QuietTactic
import Derived.BigQuiet
import Derived.Outline
namespace Go.Proofs.Ythdcanpbgaaneaa
set_option linter.unusedSimpArgs false
set_option linter.unusedVariables false
open Go.ChangeShapes Go.WideShapes Go.ChangeAt Go.RowKit
open Go.ChangeMaps (open_string shut_string)
set_option maxRecDepth 100000
set_option maxHeartbeats 4000000
abbrev soq0 (s : Ship) : OB := some ⟨8, [[.lst 1 (s.first.map cZ), .lst 1 (s.second.map cZ), .lst 2 (s.log.map Record.cs), VI s.sent, VI s.applied, VI s.known, .lst 1 (s.there.map cI), .lst 1 (s.back.map cI)]]⟩
abbrev soq1 (s : Ship) : AV := .agg [.lst 1 (s.first.map cZ), .lst 1 (s.second.map cZ), .lst 2 (s.log.map Record.cs), VI s.sent, VI s.applied, VI s.known, .lst 1 (s.there.map cI), .lst 1 (s.back.map cI)]
abbrev soq2 (n : Int) (s : Ship) : LS := [(9, VI n), (8, (soq1 s)), (2, .ref 0 8 0 0), (1, VI n)]
abbrev soq3 (n : Int) : AV := .agg [VI ((⟨3, n, (⟨#[]⟩)⟩ : Act).kind), VI ((⟨3, n, (⟨#[]⟩)⟩ : Act).n), .v (.string ((⟨3, n, (⟨#[]⟩)⟩ : Act).data))]
abbrev soq4 (s : Ship) (n : Int) : AV := .agg [.lst 1 ((((s.doP (⟨3, n, (⟨#[]⟩)⟩ : Act)).1).first).map cZ), .lst 1 ((((s.doP (⟨3, n, (⟨#[]⟩)⟩ : Act)).1).second).map cZ), .lst 2 ((((s.doP (⟨3, n, (⟨#[]⟩)⟩ : Act)).1).log).map Record.cs), VI (((s.doP (⟨3, n, (⟨#[]⟩)⟩ : Act)).1).sent), VI (((s.doP (⟨3, n, (⟨#[]⟩)⟩ : Act)).1).applied), VI (((s.doP (⟨3, n, (⟨#[]⟩)⟩ : Act)).1).known), .lst 1 ((((s.doP (⟨3, n, (⟨#[]⟩)⟩ : Act)).1).there).map cI), .lst 1 ((((s.doP (⟨3, n, (⟨#[]⟩)⟩ : Act)).1).back).map cI)]
abbrev soq5 (s : Ship) (n : Int) : LS := (11, .tup [(soq4 s n), VI ((s.doP (⟨3, n, (⟨#[]⟩)⟩ : Act)).2)]) :: (10, (soq3 n)) :: (soq2 n s)
abbrev soq6 (s : Ship) (n : Int) : OB := some ⟨8, [[.lst 1 ((((s.doP (⟨3, n, (⟨#[]⟩)⟩ : Act)).1).first).map cZ), .lst 1 ((((s.doP (⟨3, n, (⟨#[]⟩)⟩ : Act)).1).second).map cZ), .lst 2 ((((s.doP (⟨3, n, (⟨#[]⟩)⟩ : Act)).1).log).map Record.cs), VI (((s.doP (⟨3, n, (⟨#[]⟩)⟩ : Act)).1).sent), VI (((s.doP (⟨3, n, (⟨#[]⟩)⟩ : Act)).1).applied), VI (((s.doP (⟨3, n, (⟨#[]⟩)⟩ : Act)).1).known), .lst 1 ((((s.doP (⟨3, n, (⟨#[]⟩)⟩ : Act)).1).there).map cI), .lst 1 ((((s.doP (⟨3, n, (⟨#[]⟩)⟩ : Act)).1).back).map cI)]]⟩
abbrev soq7 (s : Ship) (n : Int) : LS := [(6, VI ((s.doP (⟨3, n, (⟨#[]⟩)⟩ : Act)).2)), (5, .ref 1 8 0 0), (2, .ref 0 8 0 0), (1, VI n)]
abbrev soq8 (s : Ship) (n : Int) : LS := (16, VI ((s.doP (⟨3, n, (⟨#[]⟩)⟩ : Act)).2)) :: (15, .v (.bool false)) :: (soq7 s n)
abbrev soq9 (n : Int) : LS := [(28, .v (.bool true)), (5, .ref 1 8 0 0), (2, .ref 0 8 0 0), (1, VI n)]
abbrev soq10 (s : Ship) (n : Int) : LS := (30, .agg [.emp, .emp, .emp, VI 0, VI 0, VI 0, .emp, .emp]) :: (29, (soq4 s n)) :: (soq9 n)
abbrev soq11 (n : Int) (s : Ship) : LS := (19, VI n) :: (18, .v (.bool false)) :: (17, .v (.bool false)) :: (soq8 s n)
abbrev soq12 (s : Ship) (n : Int) : LS := (25, .lst 1 (s.there.map cI)) :: (24, .ref 0 8 0 6) :: (23, VI n) :: (22, .v (.bool false)) :: (21, .v (.bool false)) :: (20, .v (.bool false)) :: (soq11 n s)
abbrev soq13 (n : Int) : LS := [(5, .ref 1 8 0 0), (2, .ref 0 8 0 0), (1, VI n)]
abbrev soq14 (n : Int) (s : Ship) : LS := (34, VI n) :: (33, .lst 1 (s.there.map cI)) :: (32, .ref 0 8 0 6) :: (28, .v (.bool false)) :: (soq13 n)
abbrev soq15 (s : Ship) (a5 : Int) (n : Int) : LS := (38, VI s.applied) :: (37, .ref 0 8 0 4) :: (36, VI a5) :: (35, .pim [VI a5] 0) :: (soq14 n s)
abbrev soq16 (n : Int) (s : Ship) : LS := (45, VI n) :: (44, .lst 1 (s.there.map cI)) :: (43, .ref 0 8 0 6) :: (42, VI (((s.doP (⟨3, n, (⟨#[]⟩)⟩ : Act)).1).applied)) :: (41, .ref 1 8 0 4) :: (40, .v (.bool true)) :: (soq13 n)
abbrev soq17 (s : Ship) (n : Int) (a5 : Int) : LS := (53, .lst 2 (s.log.map Record.cs)) :: (52, .ref 0 8 0 2) :: (51, VI (((s.doP (⟨3, n, (⟨#[]⟩)⟩ : Act)).1).applied)) :: (50, .ref 1 8 0 4) :: (49, .v (.bool true)) :: (48, .v (.bool true)) :: (47, VI a5) :: (46, .pim [VI a5] 0) :: (soq16 n s)
abbrev soq18 (s : Ship) (n : Int) (a5 : Int) : LS := (65, VI s.applied) :: (64, .ref 0 8 0 4) :: (63, .lst 2 (s.log.map Record.cs)) :: (62, .ref 0 8 0 2) :: (61, .lst 1 (s.second.map cZ)) :: (60, .ref 0 8 0 1) :: (59, .lst 1 ((((s.doP (⟨3, n, (⟨#[]⟩)⟩ : Act)).1).second).map cZ)) :: (58, .ref 1 8 0 1) :: (57, .v (.bool true)) :: (56, .v (.bool true)) :: (55, .v (.bool true)) :: (54, VI (List.length s.log : Int)) :: (soq17 s n a5)
abbrev soq19 (s : Ship) (n : Int) (a5 : Int) : LS := (66, .lst 2 (((List.take ((List.length s.log) - (s.applied : Int).toNat) (List.drop (s.applied : Int).toNat s.log))).map Record.cs)) :: (soq18 s n a5)
abbrev soq20 (s : Ship) : OB := some ⟨1, ((replay s.second ((List.take ((List.length s.log) - (s.applied : Int).toNat) (List.drop (s.applied : Int).toNat s.log)).take (Int.toNat 1))).map cZ)⟩
abbrev soq21 (s : Ship) (n : Int) (a5 : Int) : LS := (67, .own 2 1 0 (List.length (replay s.second ((List.take ((List.length s.log) - (s.applied : Int).toNat) (List.drop (s.applied : Int).toNat s.log)).take (Int.toNat 1))))) :: (soq19 s n a5)
abbrev soq22 (s : Ship) (n : Int) : LS := (73, VI s.applied) :: (72, .ref 0 8 0 4) :: (71, VI (((s.doP (⟨3, n, (⟨#[]⟩)⟩ : Act)).1).applied)) :: (70, .ref 1 8 0 4) :: (40, .v (.bool false)) :: (soq13 n)
abbrev soq23 (s : Ship) (n : Int) : LS := (79, .lst 1 (s.second.map cZ)) :: (78, .ref 0 8 0 1) :: (77, .lst 1 ((((s.doP (⟨3, n, (⟨#[]⟩)⟩ : Act)).1).second).map cZ)) :: (76, .ref 1 8 0 1) :: (75, .v (.bool true)) :: (74, .v (.bool true)) :: (soq22 s n)
theorem shipOnce_fn (s : Ship) (n : Int) (hx : s.first.length ≤ 9223372036854775807 ∧ s.second.length ≤ 9223372036854775807 ∧ s.log.length ≤ 9223372036854775807 ∧ s.there.length ≤ 9223372036854775807 ∧ s.back.length ≤ 9223372036854775807) : Fn Try.prog 9 [.agg [.lst 1 (s.first.map cZ), .lst 1 (s.second.map cZ), .lst 2 (s.log.map Record.cs), VI s.sent, VI s.applied, VI s.known, .lst 1 (s.there.map cI), .lst 1 (s.back.map cI)], VI n] (.v (.bool true)) := by
  refine fn_walkW F9_ok (of_decide_eq_true (by kernel_rfl)) ?_
  refine EL.sreg ?_
  refine OW.last 2 [1, 2] (x' := ⟨[(2, .ref 0 8 0 0), (1, VI n)], [(soq0 s)]⟩) (by kernel_rfl) (by kernel_rfl) ?_
  refine EL.sdraw ?_
  refine DW.run 2 (x' := ⟨(soq2 n s), [(soq0 s)]⟩) (by kernel_rfl) ?_
  refine DW.fn (ar := [VI 3, VI n, .v (.string (⟨#[]⟩))]) (x' := ⟨(10, (soq3 n)) :: (soq2 n s), [(soq0 s)]⟩) (by kernel_rfl) (by kernel_rfl) F24_call (act_fn 3 n (⟨#[]⟩)) (by kernel_rfl) (by kernel_rfl) ?_
  refine DW.fn (ar := [(soq1 s), (soq3 n)]) (x' := ⟨(soq5 s n), [(soq0 s)]⟩) (by kernel_rfl) (by kernel_rfl) F12_call (do_fn s (⟨3, n, (⟨#[]⟩)⟩ : Act) (by first | exact hx | exact Ship.new_big _ | exact Ship.run_big _ _ | exact Ship.do_big _ _ | exact Ship.sail_big _ _ | exact Ship.zero_big | exact Ship.Ok.big (by assumption) | omega)) (by kernel_rfl) (by kernel_rfl) ?_
  refine DW.last 6 [1, 2, 5, 6] (x' := ⟨(soq7 s n), [(soq0 s), (soq6 s n)]⟩) (by kernel_rfl) (by kernel_rfl) ?_
  refine EL.seq ?_
  refine EL.sreg ?_
  refine OW.fn (ar := []) (x' := ⟨(14, .v (.bool true)) :: (soq7 s n), [(soq0 s), (soq6 s n)]⟩) (by kernel_rfl) (by kernel_rfl) F15_call (begun_fn) (by kernel_rfl) (by kernel_rfl) ?_
  refine OW.last 1 [1, 2, 5, 6, 15] (x' := ⟨(15, .v (.bool false)) :: (soq7 s n), [(soq0 s), (soq6 s n)]⟩) (by kernel_rfl) (by kernel_rfl) ?_
  refine EL.condF (by kernel_rfl) ?_
  refine EL.skip ?_
  refine thenL_norm ?_
  refine EL.seq ?_
  refine EL.sreg ?_
  refine OW.run 3 (x' := ⟨(18, .v (.bool (((s.doP (⟨3, n, (⟨#[]⟩)⟩ : Act)).2) != 0))) :: (17, .v (.bool (((s.doP (⟨3, n, (⟨#[]⟩)⟩ : Act)).2) != 0))) :: (soq8 s n), [(soq0 s), (soq6 s n)]⟩) (by kernel_rfl) ?_
  rcases Bool.eq_false_or_eq_true ((((s.doP (⟨3, n, (⟨#[]⟩)⟩ : Act)).2) != 0)) with h1 | h1
  rw [h1]
  have g1 : ¬ (((s.doP (⟨3, n, (⟨#[]⟩)⟩ : Act)).2) = 0) := by simpa using h1
  refine OW.last 10 [1, 2, 5, 28] (x' := ⟨(soq9 n), [(soq0 s), (soq6 s n)]⟩) (by kernel_rfl) (by kernel_rfl) ?_
  refine EL.condT (by kernel_rfl) ?_
  refine EL.sreg ?_
  refine OW.run 2 (x' := ⟨(soq10 s n), [(soq0 s), (soq6 s n)]⟩) (by kernel_rfl) ?_
  refine OW.fn (ar := [(soq4 s n), .agg [.emp, .emp, .emp, VI 0, VI 0, VI 0, .emp, .emp]]) (x' := ⟨(31, .v (.bool (Ship.same ((s.doP (⟨3, n, (⟨#[]⟩)⟩ : Act)).1) (⟨[], [], [], 0, 0, 0, [], []⟩ : Ship)))) :: (soq10 s n), [(soq0 s), (soq6 s n)]⟩) (by kernel_rfl) (by kernel_rfl) F16_call (Fn.args (sameShip_fn ((s.doP (⟨3, n, (⟨#[]⟩)⟩ : Act)).1) (⟨[], [], [], 0, 0, 0, [], []⟩ : Ship) (by first | exact hx | exact Ship.new_big _ | exact Ship.run_big _ _ | exact Ship.do_big _ _ | exact Ship.sail_big _ _ | exact Ship.zero_big | exact Ship.Ok.big (by assumption) | omega)) (.cons (Ale.refl) (.cons (Ale.agg (.cons (Ale.emp) (.cons (Ale.emp) (.cons (Ale.emp) (.cons (Ale.refl) (.cons (Ale.refl) (.cons (Ale.refl) (.cons (Ale.emp) (.cons (Ale.emp) (.nil)))))))))) (.nil)))) (by kernel_rfl) (by kernel_rfl) ?_
  refine OW.last 1 [4] (x' := ⟨[(4, .v (.bool (Ship.same ((s.doP (⟨3, n, (⟨#[]⟩)⟩ : Act)).1) (⟨[], [], [], 0, 0, 0, [], []⟩ : Ship))))], [(soq0 s), (soq6 s n)]⟩) (by kernel_rfl) (by kernel_rfl) ?_
  refine EL.ret ?_
  refine thenL_ret ?_
  refine ⟨.inr rfl, .v (.bool (Ship.same ((s.doP (⟨3, n, (⟨#[]⟩)⟩ : Act)).1) (⟨[], [], [], 0, 0, 0, [], []⟩ : Ship))), by kernel_rfl, Ale.of_eq ?_⟩
  focus (first | rfl | (rw [Ship.do_bad (by assumption)]; rfl) | (have hd := Ship.do_pass (s := s) (n := n) (by assumption); obtain ⟨ok, p1, p2, hc⟩ := hd; have k1 := ok.k; have k2 := ok.l1; have hsm := ok.small; first | (exfalso; omega) | done | (rcases hc with ⟨r, q1, q2, q3, q4⟩ | ⟨q1, q3, q4⟩ <;> first | (have hr := replay_one ok q2; have e : List.take (Int.toNat 1) (List.take (s.log.length - s.applied.toNat) (List.drop s.applied.toNat s.log)) = (s.log.drop s.applied.toNat).take 1 := congrArg (List.take 1) (List.take_of_length_le (l := List.drop s.applied.toNat s.log) (i := s.log.length - s.applied.toNat) (by simp)); have hal := (List.getElem?_eq_some_iff.1 q2).1; first | (exfalso; omega) | exact congrArg (fun b => AV.v (Value.bool b)) (decide_eq_true (q4.trans (hr.symm.trans (congrArg _ e.symm)))) | (rw [e, hr]; simp_all; done) | (rw [e, hr]; done) | (simp_all; done) | (simp_all; omega)) | exact absurd (‹s.there[n.toNat]? = some _›.trans (congrArg some ‹_ = s.applied + 1›)) q1 | (simp_all; done) | (simp_all; omega))))
  rw [h1]
  have g1 : (((s.doP (⟨3, n, (⟨#[]⟩)⟩ : Act)).2) = 0) := by simpa using h1
  refine OW.run 4 (x' := ⟨(22, .v (.bool (decide (n < 0)))) :: (21, .v (.bool (decide (n < 0)))) :: (20, .v (.bool (decide (n < 0)))) :: (soq11 n s), [(soq0 s), (soq6 s n)]⟩) (by kernel_rfl) ?_
  rcases Bool.eq_false_or_eq_true (decide (n < 0)) with h2 | h2
  rw [h2]
  have g2 : (n < 0) := of_decide_eq_true h2
  refine OW.last 6 [1, 2, 5, 28] (x' := ⟨(soq9 n), [(soq0 s), (soq6 s n)]⟩) (by kernel_rfl) (by kernel_rfl) ?_
  refine EL.condT (by kernel_rfl) ?_
  refine EL.sreg ?_
  refine OW.run 2 (x' := ⟨(soq10 s n), [(soq0 s), (soq6 s n)]⟩) (by kernel_rfl) ?_
  refine OW.fn (ar := [(soq4 s n), .agg [.emp, .emp, .emp, VI 0, VI 0, VI 0, .emp, .emp]]) (x' := ⟨(31, .v (.bool (Ship.same ((s.doP (⟨3, n, (⟨#[]⟩)⟩ : Act)).1) (⟨[], [], [], 0, 0, 0, [], []⟩ : Ship)))) :: (soq10 s n), [(soq0 s), (soq6 s n)]⟩) (by kernel_rfl) (by kernel_rfl) F16_call (Fn.args (sameShip_fn ((s.doP (⟨3, n, (⟨#[]⟩)⟩ : Act)).1) (⟨[], [], [], 0, 0, 0, [], []⟩ : Ship) (by first | exact hx | exact Ship.new_big _ | exact Ship.run_big _ _ | exact Ship.do_big _ _ | exact Ship.sail_big _ _ | exact Ship.zero_big | exact Ship.Ok.big (by assumption) | omega)) (.cons (Ale.refl) (.cons (Ale.agg (.cons (Ale.emp) (.cons (Ale.emp) (.cons (Ale.emp) (.cons (Ale.refl) (.cons (Ale.refl) (.cons (Ale.refl) (.cons (Ale.emp) (.cons (Ale.emp) (.nil)))))))))) (.nil)))) (by kernel_rfl) (by kernel_rfl) ?_
  refine OW.last 1 [4] (x' := ⟨[(4, .v (.bool (Ship.same ((s.doP (⟨3, n, (⟨#[]⟩)⟩ : Act)).1) (⟨[], [], [], 0, 0, 0, [], []⟩ : Ship))))], [(soq0 s), (soq6 s n)]⟩) (by kernel_rfl) (by kernel_rfl) ?_
  refine EL.ret ?_
  refine thenL_ret ?_
  refine ⟨.inr rfl, .v (.bool (Ship.same ((s.doP (⟨3, n, (⟨#[]⟩)⟩ : Act)).1) (⟨[], [], [], 0, 0, 0, [], []⟩ : Ship))), by kernel_rfl, Ale.of_eq ?_⟩
  focus (first | rfl | (rw [Ship.do_bad (by assumption)]; rfl) | (have hd := Ship.do_pass (s := s) (n := n) (by assumption); obtain ⟨ok, p1, p2, hc⟩ := hd; have k1 := ok.k; have k2 := ok.l1; have hsm := ok.small; first | (exfalso; omega) | done | (rcases hc with ⟨r, q1, q2, q3, q4⟩ | ⟨q1, q3, q4⟩ <;> first | (have hr := replay_one ok q2; have e : List.take (Int.toNat 1) (List.take (s.log.length - s.applied.toNat) (List.drop s.applied.toNat s.log)) = (s.log.drop s.applied.toNat).take 1 := congrArg (List.take 1) (List.take_of_length_le (l := List.drop s.applied.toNat s.log) (i := s.log.length - s.applied.toNat) (by simp)); have hal := (List.getElem?_eq_some_iff.1 q2).1; first | (exfalso; omega) | exact congrArg (fun b => AV.v (Value.bool b)) (decide_eq_true (q4.trans (hr.symm.trans (congrArg _ e.symm)))) | (rw [e, hr]; simp_all; done) | (rw [e, hr]; done) | (simp_all; done) | (simp_all; omega)) | exact absurd (‹s.there[n.toNat]? = some _›.trans (congrArg some ‹_ = s.applied + 1›)) q1 | (simp_all; done) | (simp_all; omega))))
  rw [h2]
  have g2 : ¬ (n < 0) := of_decide_eq_false h2
  refine OW.run 3 (x' := ⟨(soq12 s n), [(soq0 s), (soq6 s n)]⟩) (by kernel_rfl) ?_
  refine OW.ope (v := VI (List.length s.there : Int)) (u := []) (acc := []) (x' := ⟨(26, VI (List.length s.there : Int)) :: (soq12 s n), [(soq0 s), (soq6 s n)]⟩) (by kernel_rfl) (opE_len cI s.there (.s 25) 1 (by kernel_rfl) (by kernel_rfl) (.inl rfl)) (by kernel_rfl) ?_
  refine OW.last 2 [1, 2, 5, 28] (x' := ⟨(28, .v (.bool (decide (n ≥ (List.length s.there : Int))))) :: (soq13 n), [(soq0 s), (soq6 s n)]⟩) (by kernel_rfl) (by kernel_rfl) ?_
  rcases Bool.eq_false_or_eq_true (decide (n ≥ (List.length s.there : Int))) with h3 | h3
  rw [h3]
  have g3 : (n ≥ (List.length s.there : Int)) := of_decide_eq_true h3
  refine EL.condT (by kernel_rfl) ?_
  refine EL.sreg ?_
  refine OW.run 2 (x' := ⟨(soq10 s n), [(soq0 s), (soq6 s n)]⟩) (by kernel_rfl) ?_
  refine OW.fn (ar := [(soq4 s n), .agg [.emp, .emp, .emp, VI 0, VI 0, VI 0, .emp, .emp]]) (x' := ⟨(31, .v (.bool (Ship.same ((s.doP (⟨3, n, (⟨#[]⟩)⟩ : Act)).1) (⟨[], [], [], 0, 0, 0, [], []⟩ : Ship)))) :: (soq10 s n), [(soq0 s), (soq6 s n)]⟩) (by kernel_rfl) (by kernel_rfl) F16_call (Fn.args (sameShip_fn ((s.doP (⟨3, n, (⟨#[]⟩)⟩ : Act)).1) (⟨[], [], [], 0, 0, 0, [], []⟩ : Ship) (by first | exact hx | exact Ship.new_big _ | exact Ship.run_big _ _ | exact Ship.do_big _ _ | exact Ship.sail_big _ _ | exact Ship.zero_big | exact Ship.Ok.big (by assumption) | omega)) (.cons (Ale.refl) (.cons (Ale.agg (.cons (Ale.emp) (.cons (Ale.emp) (.cons (Ale.emp) (.cons (Ale.refl) (.cons (Ale.refl) (.cons (Ale.refl) (.cons (Ale.emp) (.cons (Ale.emp) (.nil)))))))))) (.nil)))) (by kernel_rfl) (by kernel_rfl) ?_
  refine OW.last 1 [4] (x' := ⟨[(4, .v (.bool (Ship.same ((s.doP (⟨3, n, (⟨#[]⟩)⟩ : Act)).1) (⟨[], [], [], 0, 0, 0, [], []⟩ : Ship))))], [(soq0 s), (soq6 s n)]⟩) (by kernel_rfl) (by kernel_rfl) ?_
  refine EL.ret ?_
  refine thenL_ret ?_
  refine ⟨.inr rfl, .v (.bool (Ship.same ((s.doP (⟨3, n, (⟨#[]⟩)⟩ : Act)).1) (⟨[], [], [], 0, 0, 0, [], []⟩ : Ship))), by kernel_rfl, Ale.of_eq ?_⟩
  focus (first | rfl | (rw [Ship.do_bad (by assumption)]; rfl) | (have hd := Ship.do_pass (s := s) (n := n) (by assumption); obtain ⟨ok, p1, p2, hc⟩ := hd; have k1 := ok.k; have k2 := ok.l1; have hsm := ok.small; first | (exfalso; omega) | done | (rcases hc with ⟨r, q1, q2, q3, q4⟩ | ⟨q1, q3, q4⟩ <;> first | (have hr := replay_one ok q2; have e : List.take (Int.toNat 1) (List.take (s.log.length - s.applied.toNat) (List.drop s.applied.toNat s.log)) = (s.log.drop s.applied.toNat).take 1 := congrArg (List.take 1) (List.take_of_length_le (l := List.drop s.applied.toNat s.log) (i := s.log.length - s.applied.toNat) (by simp)); have hal := (List.getElem?_eq_some_iff.1 q2).1; first | (exfalso; omega) | exact congrArg (fun b => AV.v (Value.bool b)) (decide_eq_true (q4.trans (hr.symm.trans (congrArg _ e.symm)))) | (rw [e, hr]; simp_all; done) | (rw [e, hr]; done) | (simp_all; done) | (simp_all; omega)) | exact absurd (‹s.there[n.toNat]? = some _›.trans (congrArg some ‹_ = s.applied + 1›)) q1 | (simp_all; done) | (simp_all; omega))))
  rw [h3]
  have g3 : ¬ (n ≥ (List.length s.there : Int)) := of_decide_eq_false h3
  refine EL.condF (by kernel_rfl) ?_
  refine EL.skip ?_
  refine thenL_norm ?_
  refine EL.seq ?_
  refine EL.sdraw ?_
  refine DW.run 3 (x' := ⟨(soq14 n s), [(soq0 s), (soq6 s n)]⟩) (by kernel_rfl) ?_
  obtain ⟨a5, ha5⟩ : ∃ y, s.there[(n : Int).toNat]? = some y := idx_ex ⟨by omega, by omega⟩
  refine DW.ope (v := .pim [VI a5] 0) (u := []) (acc := []) (x' := ⟨(35, .pim [VI a5] 0) :: (soq14 n s), [(soq0 s), (soq6 s n)]⟩) (by kernel_rfl) (opE_iad cI s.there (.s 33) (.s 34) 1 .i64 n a5 (by kernel_rfl) (by kernel_rfl) (.inl rfl) rfl (by omega) ha5) (by kernel_rfl) ?_
  refine DW.run 5 (x' := ⟨(40, .v (.bool (a5 == IntKind.i64.wrap (s.applied + 1)))) :: (39, VI (IntKind.i64.wrap (s.applied + 1))) :: (soq15 s a5 n), [(soq0 s), (soq6 s n)]⟩) (by kernel_rfl) ?_
  have e6 : IntKind.i64.wrap (s.applied + 1) = s.applied + 1 := wr64 (by have hd := Ship.do_pass (s := s) (n := n) (by assumption); obtain ⟨ok, p1, p2, hc⟩ := hd; have k1 := ok.k; have k2 := ok.l1; have hsm := ok.small; omega)
  rw [e6]
  refine DW.last 0 [1, 2, 5, 40] (x' := ⟨(40, .v (.bool (a5 == (s.applied + 1)))) :: (soq13 n), [(soq0 s), (soq6 s n)]⟩) (by kernel_rfl) (by kernel_rfl) ?_
  rcases Bool.eq_false_or_eq_true ((a5 == (s.applied + 1))) with h7 | h7
  rw [h7]
  have g7 : (a5 = (s.applied + 1)) := by simpa using h7
  refine EL.condT (by kernel_rfl) ?_
  refine EL.sdraw ?_
  refine DW.run 5 (x' := ⟨(soq16 n s), [(soq0 s), (soq6 s n)]⟩) (by kernel_rfl) ?_
  refine DW.ope (v := .pim [VI a5] 0) (u := []) (acc := []) (x' := ⟨(46, .pim [VI a5] 0) :: (soq16 n s), [(soq0 s), (soq6 s n)]⟩) (by kernel_rfl) (opE_iad cI s.there (.s 44) (.s 45) 1 .i64 n a5 (by kernel_rfl) (by kernel_rfl) (.inl rfl) rfl (by omega) ha5) (by kernel_rfl) ?_
  refine DW.run 3 (x' := ⟨(49, .v (.bool ((((s.doP (⟨3, n, (⟨#[]⟩)⟩ : Act)).1).applied) == a5))) :: (48, .v (.bool ((((s.doP (⟨3, n, (⟨#[]⟩)⟩ : Act)).1).applied) == a5))) :: (47, VI a5) :: (46, .pim [VI a5] 0) :: (soq16 n s), [(soq0 s), (soq6 s n)]⟩) (by kernel_rfl) ?_
  rcases Bool.eq_false_or_eq_true (((((s.doP (⟨3, n, (⟨#[]⟩)⟩ : Act)).1).applied) == a5)) with h8 | h8
  rw [h8]
  have g8 : ((((s.doP (⟨3, n, (⟨#[]⟩)⟩ : Act)).1).applied) = a5) := by simpa using h8
  refine DW.run 4 (x' := ⟨(soq17 s n a5), [(soq0 s), (soq6 s n)]⟩) (by kernel_rfl) ?_
  refine DW.ope (v := VI (List.length s.log : Int)) (u := []) (acc := []) (x' := ⟨(54, VI (List.length s.log : Int)) :: (soq17 s n a5), [(soq0 s), (soq6 s n)]⟩) (by kernel_rfl) (opE_len Record.cs s.log (.s 53) 2 (by kernel_rfl) (by kernel_rfl) (.inl rfl)) (by kernel_rfl) ?_
  refine DW.run 3 (x' := ⟨(57, .v (.bool (decide ((((s.doP (⟨3, n, (⟨#[]⟩)⟩ : Act)).1).applied) ≤ (List.length s.log : Int))))) :: (56, .v (.bool (decide ((((s.doP (⟨3, n, (⟨#[]⟩)⟩ : Act)).1).applied) ≤ (List.length s.log : Int))))) :: (55, .v (.bool (decide ((((s.doP (⟨3, n, (⟨#[]⟩)⟩ : Act)).1).applied) ≤ (List.length s.log : Int))))) :: (54, VI (List.length s.log : Int)) :: (soq17 s n a5), [(soq0 s), (soq6 s n)]⟩) (by kernel_rfl) ?_
  rcases Bool.eq_false_or_eq_true (decide ((((s.doP (⟨3, n, (⟨#[]⟩)⟩ : Act)).1).applied) ≤ (List.length s.log : Int))) with h9 | h9
  rw [h9]
  have g9 : ((((s.doP (⟨3, n, (⟨#[]⟩)⟩ : Act)).1).applied) ≤ (List.length s.log : Int)) := of_decide_eq_true h9
  refine DW.run 8 (x' := ⟨(soq18 s n a5), [(soq0 s), (soq6 s n)]⟩) (by kernel_rfl) ?_
  refine DW.ope (v := .lst 2 (((List.take ((List.length s.log) - (s.applied : Int).toNat) (List.drop (s.applied : Int).toNat s.log))).map Record.cs)) (u := []) (acc := []) (x' := ⟨(soq19 s n a5), [(soq0 s), (soq6 s n)]⟩) (by kernel_rfl) (opE_slc Record.cs s.log (.s 63) (some (.s 65)) none 2 (s.applied : Int).toNat (List.length s.log) (by kernel_rfl) (by kernel_rfl) (.inl rfl) (by have hd := Ship.do_pass (s := s) (n := n) (by assumption); obtain ⟨ok, p1, p2, hc⟩ := hd; have k1 := ok.k; have k2 := ok.l1; have hsm := ok.small; simp [optNat, natOf, argσ, slot] <;> omega) (by simp [optNat, natOf, argσ, slot] <;> omega) (by have hd := Ship.do_pass (s := s) (n := n) (by assumption); obtain ⟨ok, p1, p2, hc⟩ := hd; have k1 := ok.k; have k2 := ok.l1; have hsm := ok.small; first | omega | (simp; omega) | trace_state)) (by kernel_rfl) ?_
  refine DW.fo (ar := [.lst 1 (s.second.map cZ), .lst 2 (((List.take ((List.length s.log) - (s.applied : Int).toNat) (List.drop (s.applied : Int).toNat s.log))).map Record.cs), VI 1]) (fe := cZ) (xs := (replay s.second ((List.take ((List.length s.log) - (s.applied : Int).toNat) (List.drop (s.applied : Int).toNat s.log)).take (Int.toNat 1)))) (x' := ⟨(soq21 s n a5), [(soq0 s), (soq6 s n), (soq20 s)]⟩) (by kernel_rfl) (by kernel_rfl) F23_call (replayed_fo s.second (List.take ((List.length s.log) - (s.applied : Int).toNat) (List.drop (s.applied : Int).toNat s.log)) 1 (by have hd := Ship.do_pass (s := s) (n := n) (by assumption); obtain ⟨ok, p1, p2, hc⟩ := hd; have k1 := ok.k; have k2 := ok.l1; have hsm := ok.small; first | omega | (simp; omega))) (by intro y; kernel_rfl) (by kernel_rfl) (by kernel_rfl) ?_
  refine DW.fn (ar := [.lst 1 ((((s.doP (⟨3, n, (⟨#[]⟩)⟩ : Act)).1).second).map cZ), .own 2 1 0 (List.length (replay s.second ((List.take ((List.length s.log) - (s.applied : Int).toNat) (List.drop (s.applied : Int).toNat s.log)).take (Int.toNat 1))))]) (x' := ⟨(68, .v (.bool (decide ((((s.doP (⟨3, n, (⟨#[]⟩)⟩ : Act)).1).second) = (replay s.second ((List.take ((List.length s.log) - (s.applied : Int).toNat) (List.drop (s.applied : Int).toNat s.log)).take (Int.toNat 1))))))) :: (soq21 s n a5), [(soq0 s), (soq6 s n), (soq20 s)]⟩) (by kernel_rfl) (by kernel_rfl) F22_call (sameTexts_fn (((s.doP (⟨3, n, (⟨#[]⟩)⟩ : Act)).1).second) (replay s.second ((List.take ((List.length s.log) - (s.applied : Int).toNat) (List.drop (s.applied : Int).toNat s.log)).take (Int.toNat 1))) (by first | omega | decide | exact (Ship.new_big _).2.1 | exact (Ship.new_big _).1 | exact (Ship.run_big _ _).2.1 | exact (Ship.run_big _ _).1 | exact (Ship.do_big _ _).2.1 | exact (Ship.do_big _ _).1 | exact (Ship.sail_big _ _).2.1 | exact (Ship.sail_big _ _).1 | (simp; omega))) (snapAs_cons (by kernel_rfl) (snapAs_cons (snapA_map cZ (replay s.second ((List.take ((List.length s.log) - (s.applied : Int).toNat) (List.drop (s.applied : Int).toNat s.log)).take (Int.toNat 1))) (by kernel_rfl) (by intro y; kernel_rfl) (by simp)) (snapAs_nil))) (by kernel_rfl) ?_
  refine DW.last 2 [4] (x' := ⟨[(4, .v (.bool (decide ((((s.doP (⟨3, n, (⟨#[]⟩)⟩ : Act)).1).second) = (replay s.second ((List.take ((List.length s.log) - (s.applied : Int).toNat) (List.drop (s.applied : Int).toNat s.log)).take (Int.toNat 1)))))))], [(soq0 s), (soq6 s n), (soq20 s)]⟩) (by kernel_rfl) (by kernel_rfl) ?_
  refine EL.ret ?_
  refine thenL_ret ?_
  refine ⟨.inr rfl, .v (.bool (decide ((((s.doP (⟨3, n, (⟨#[]⟩)⟩ : Act)).1).second) = (replay s.second ((List.take ((List.length s.log) - (s.applied : Int).toNat) (List.drop (s.applied : Int).toNat s.log)).take (Int.toNat 1)))))), by kernel_rfl, Ale.of_eq ?_⟩
  focus (first | rfl | (rw [Ship.do_bad (by assumption)]; rfl) | (have hd := Ship.do_pass (s := s) (n := n) (by assumption); obtain ⟨ok, p1, p2, hc⟩ := hd; have k1 := ok.k; have k2 := ok.l1; have hsm := ok.small; first | (exfalso; omega) | done | (rcases hc with ⟨r, q1, q2, q3, q4⟩ | ⟨q1, q3, q4⟩ <;> first | (have hr := replay_one ok q2; have e : List.take (Int.toNat 1) (List.take (s.log.length - s.applied.toNat) (List.drop s.applied.toNat s.log)) = (s.log.drop s.applied.toNat).take 1 := congrArg (List.take 1) (List.take_of_length_le (l := List.drop s.applied.toNat s.log) (i := s.log.length - s.applied.toNat) (by simp)); have hal := (List.getElem?_eq_some_iff.1 q2).1; first | (exfalso; omega) | exact congrArg (fun b => AV.v (Value.bool b)) (decide_eq_true (q4.trans (hr.symm.trans (congrArg _ e.symm)))) | (rw [e, hr]; simp_all; done) | (rw [e, hr]; done) | (simp_all; done) | (simp_all; omega)) | exact absurd (‹s.there[n.toNat]? = some _›.trans (congrArg some ‹_ = s.applied + 1›)) q1 | (simp_all; done) | (simp_all; omega))))
  rw [h9]
  have g9 : ¬ ((((s.doP (⟨3, n, (⟨#[]⟩)⟩ : Act)).1).applied) ≤ (List.length s.log : Int)) := of_decide_eq_false h9
  refine DW.last 13 [4] (x' := ⟨[(4, .v (.bool false))], [(soq0 s), (soq6 s n)]⟩) (by kernel_rfl) (by kernel_rfl) ?_
  refine EL.ret ?_
  refine thenL_ret ?_
  refine ⟨.inr rfl, .v (.bool false), by kernel_rfl, Ale.of_eq ?_⟩
  focus (first | rfl | (rw [Ship.do_bad (by assumption)]; rfl) | (have hd := Ship.do_pass (s := s) (n := n) (by assumption); obtain ⟨ok, p1, p2, hc⟩ := hd; have k1 := ok.k; have k2 := ok.l1; have hsm := ok.small; first | (exfalso; omega) | done | (rcases hc with ⟨r, q1, q2, q3, q4⟩ | ⟨q1, q3, q4⟩ <;> first | (have hr := replay_one ok q2; have e : List.take (Int.toNat 1) (List.take (s.log.length - s.applied.toNat) (List.drop s.applied.toNat s.log)) = (s.log.drop s.applied.toNat).take 1 := congrArg (List.take 1) (List.take_of_length_le (l := List.drop s.applied.toNat s.log) (i := s.log.length - s.applied.toNat) (by simp)); have hal := (List.getElem?_eq_some_iff.1 q2).1; first | (exfalso; omega) | exact congrArg (fun b => AV.v (Value.bool b)) (decide_eq_true (q4.trans (hr.symm.trans (congrArg _ e.symm)))) | (rw [e, hr]; simp_all; done) | (rw [e, hr]; done) | (simp_all; done) | (simp_all; omega)) | exact absurd (‹s.there[n.toNat]? = some _›.trans (congrArg some ‹_ = s.applied + 1›)) q1 | (simp_all; done) | (simp_all; omega))))
  rw [h8]
  have g8 : ¬ ((((s.doP (⟨3, n, (⟨#[]⟩)⟩ : Act)).1).applied) = a5) := by simpa using h8
  refine DW.last 21 [4] (x' := ⟨[(4, .v (.bool false))], [(soq0 s), (soq6 s n)]⟩) (by kernel_rfl) (by kernel_rfl) ?_
  refine EL.ret ?_
  refine thenL_ret ?_
  refine ⟨.inr rfl, .v (.bool false), by kernel_rfl, Ale.of_eq ?_⟩
  focus (first | rfl | (rw [Ship.do_bad (by assumption)]; rfl) | (have hd := Ship.do_pass (s := s) (n := n) (by assumption); obtain ⟨ok, p1, p2, hc⟩ := hd; have k1 := ok.k; have k2 := ok.l1; have hsm := ok.small; first | (exfalso; omega) | done | (rcases hc with ⟨r, q1, q2, q3, q4⟩ | ⟨q1, q3, q4⟩ <;> first | (have hr := replay_one ok q2; have e : List.take (Int.toNat 1) (List.take (s.log.length - s.applied.toNat) (List.drop s.applied.toNat s.log)) = (s.log.drop s.applied.toNat).take 1 := congrArg (List.take 1) (List.take_of_length_le (l := List.drop s.applied.toNat s.log) (i := s.log.length - s.applied.toNat) (by simp)); have hal := (List.getElem?_eq_some_iff.1 q2).1; first | (exfalso; omega) | exact congrArg (fun b => AV.v (Value.bool b)) (decide_eq_true (q4.trans (hr.symm.trans (congrArg _ e.symm)))) | (rw [e, hr]; simp_all; done) | (rw [e, hr]; done) | (simp_all; done) | (simp_all; omega)) | exact absurd (‹s.there[n.toNat]? = some _›.trans (congrArg some ‹_ = s.applied + 1›)) q1 | (simp_all; done) | (simp_all; omega))))
  rw [h7]
  have g7 : ¬ (a5 = (s.applied + 1)) := by simpa using h7
  refine EL.condF (by kernel_rfl) ?_
  refine EL.skip ?_
  refine thenL_norm ?_
  refine EL.sreg ?_
  refine OW.run 6 (x' := ⟨(75, .v (.bool ((((s.doP (⟨3, n, (⟨#[]⟩)⟩ : Act)).1).applied) == s.applied))) :: (74, .v (.bool ((((s.doP (⟨3, n, (⟨#[]⟩)⟩ : Act)).1).applied) == s.applied))) :: (soq22 s n), [(soq0 s), (soq6 s n)]⟩) (by kernel_rfl) ?_
  rcases Bool.eq_false_or_eq_true (((((s.doP (⟨3, n, (⟨#[]⟩)⟩ : Act)).1).applied) == s.applied)) with h10 | h10
  rw [h10]
  have g10 : ((((s.doP (⟨3, n, (⟨#[]⟩)⟩ : Act)).1).applied) = s.applied) := by simpa using h10
  refine OW.run 4 (x' := ⟨(soq23 s n), [(soq0 s), (soq6 s n)]⟩) (by kernel_rfl) ?_
  refine OW.fn (ar := [.lst 1 ((((s.doP (⟨3, n, (⟨#[]⟩)⟩ : Act)).1).second).map cZ), .lst 1 (s.second.map cZ)]) (x' := ⟨(80, .v (.bool (decide ((((s.doP (⟨3, n, (⟨#[]⟩)⟩ : Act)).1).second) = s.second)))) :: (soq23 s n), [(soq0 s), (soq6 s n)]⟩) (by kernel_rfl) (by kernel_rfl) F22_call (sameTexts_fn (((s.doP (⟨3, n, (⟨#[]⟩)⟩ : Act)).1).second) s.second (by first | omega | decide | exact (Ship.new_big _).2.1 | exact (Ship.new_big _).1 | exact (Ship.run_big _ _).2.1 | exact (Ship.run_big _ _).1 | exact (Ship.do_big _ _).2.1 | exact (Ship.do_big _ _).1 | exact (Ship.sail_big _ _).2.1 | exact (Ship.sail_big _ _).1 | (simp; omega))) (by kernel_rfl) (by kernel_rfl) ?_
  refine OW.last 2 [4] (x' := ⟨[(4, .v (.bool (decide ((((s.doP (⟨3, n, (⟨#[]⟩)⟩ : Act)).1).second) = s.second))))], [(soq0 s), (soq6 s n)]⟩) (by kernel_rfl) (by kernel_rfl) ?_
  refine EL.ret ?_
  refine ⟨.inr rfl, .v (.bool (decide ((((s.doP (⟨3, n, (⟨#[]⟩)⟩ : Act)).1).second) = s.second))), by kernel_rfl, Ale.of_eq ?_⟩
  focus (first | rfl | (rw [Ship.do_bad (by assumption)]; rfl) | (have hd := Ship.do_pass (s := s) (n := n) (by assumption); obtain ⟨ok, p1, p2, hc⟩ := hd; have k1 := ok.k; have k2 := ok.l1; have hsm := ok.small; first | (exfalso; omega) | done | (rcases hc with ⟨r, q1, q2, q3, q4⟩ | ⟨q1, q3, q4⟩ <;> first | (have hr := replay_one ok q2; have e : List.take (Int.toNat 1) (List.take (s.log.length - s.applied.toNat) (List.drop s.applied.toNat s.log)) = (s.log.drop s.applied.toNat).take 1 := congrArg (List.take 1) (List.take_of_length_le (l := List.drop s.applied.toNat s.log) (i := s.log.length - s.applied.toNat) (by simp)); have hal := (List.getElem?_eq_some_iff.1 q2).1; first | (exfalso; omega) | exact congrArg (fun b => AV.v (Value.bool b)) (decide_eq_true (q4.trans (hr.symm.trans (congrArg _ e.symm)))) | (rw [e, hr]; simp_all; done) | (rw [e, hr]; done) | (simp_all; done) | (simp_all; omega)) | exact absurd (‹s.there[n.toNat]? = some _›.trans (congrArg some ‹_ = s.applied + 1›)) q1 | (simp_all; done) | (simp_all; omega))))
  rw [h10]
  have g10 : ¬ ((((s.doP (⟨3, n, (⟨#[]⟩)⟩ : Act)).1).applied) = s.applied) := by simpa using h10
  refine OW.last 7 [4] (x' := ⟨[(4, .v (.bool false))], [(soq0 s), (soq6 s n)]⟩) (by kernel_rfl) (by kernel_rfl) ?_
  refine EL.ret ?_
  refine ⟨.inr rfl, .v (.bool false), by kernel_rfl, Ale.of_eq ?_⟩
  focus (first | rfl | (rw [Ship.do_bad (by assumption)]; rfl) | (have hd := Ship.do_pass (s := s) (n := n) (by assumption); obtain ⟨ok, p1, p2, hc⟩ := hd; have k1 := ok.k; have k2 := ok.l1; have hsm := ok.small; first | (exfalso; omega) | done | (rcases hc with ⟨r, q1, q2, q3, q4⟩ | ⟨q1, q3, q4⟩ <;> first | (have hr := replay_one ok q2; have e : List.take (Int.toNat 1) (List.take (s.log.length - s.applied.toNat) (List.drop s.applied.toNat s.log)) = (s.log.drop s.applied.toNat).take 1 := congrArg (List.take 1) (List.take_of_length_le (l := List.drop s.applied.toNat s.log) (i := s.log.length - s.applied.toNat) (by simp)); have hal := (List.getElem?_eq_some_iff.1 q2).1; first | (exfalso; omega) | exact congrArg (fun b => AV.v (Value.bool b)) (decide_eq_true (q4.trans (hr.symm.trans (congrArg _ e.symm)))) | (rw [e, hr]; simp_all; done) | (rw [e, hr]; done) | (simp_all; done) | (simp_all; omega)) | exact absurd (‹s.there[n.toNat]? = some _›.trans (congrArg some ‹_ = s.applied + 1›)) q1 | (simp_all; done) | (simp_all; omega))))
theorem ShipOnce_walk {w : World} (s : Ship) (css : List Value) (rs : GoT.rep w w.heap.size css s) (n : Int) (_wn : (Lit.int .i64 n).wf = true) : Calls Try.prog 9 #[.agg css.toArray, I n] w fun e w' => e = .returned (.bool true) ∧ Below w.heap.size w w' := by
  have ls := (Ship.av rs).2
  exact fn_law (vs := [.agg css.toArray, I n]) (shipOnce_fn s n (by first | assumption | omega)) (.cons ((Ship.av rs).1) (.cons (.v rfl) (.nil)))
theorem ShipOnce_own : ownKnob Try.prog.godebug = none := by kernel_rfl
theorem ShipOnce_laidOut : laidOutB Try.prog = true := by kernel_rfl
set_option maxRecDepth 100000 in
set_option linter.unusedVariables false in
theorem ShipOnce_lifted (os : Os) (started : os.Started) (H : Type) (enc : TypeId × Value → H) :
    ReturnsInHanded {} Try.checked os 9 .any (Rows.shipOnceSpec.pre6 enc Try.prog Try.f9 Rows.shipOnceRow.domain false) (Rows.shipOnceSpec.post enc Try.prog Try.f9 false true false false) := by
  refine returnsInHanded_of_change (C := Try.checked) ShipOnce_own started (by kernel_rfl) Try.func9
    (ChangeSpec.witness6 (enc := enc) (C := Try.checked) false ⟨#[], #[.agg #[.slice none 0 0, .slice none 0 0, .slice none 0 0, .int .i64 0, .int .i64 0, .int .i64 0, .slice none 0 0, .slice none 0 0], .int .i64 0], []⟩ 8 (by kernel_rfl) (by kernel_rfl) (by kernel_rfl) (by kernel_rfl)) ?_
  intro W base args ds gs before hval0 hW hcnd _
  have hval : ∀ (j : Nat) t v, Try.f9.params[j]? = some t → args[j]? = some v → Value.okWide Try.prog W .any base t v := hval0
  have hW' := hW
  obtain ⟨p, q, hA0, hV, rfl, hfz, hnd⟩ := hW
  have hA : DataW.TrodAll enc Try.prog W 0 (fun _ => true) true Try.f9.params.toList args.toList ds p := hA0
  rw [Try.params9] at hA hval
  obtain ⟨v0, vs0, d0, ds0, p0, q0, hargs, rfl, rfl, h0, r0⟩ := trodAll_cons hA
  obtain ⟨v1, vs1, d1, ds1, p1, q1, rfl, rfl, rfl, h1, r1⟩ := trodAll_cons r0
  obtain ⟨rfl, rfl, rfl⟩ := trodAll_nil r1
  obtain rfl : args = #[v0, v1] := by cases args; simp_all
  obtain ⟨rfl, rfl⟩ := trodVars_none hV
  have k0 := h0
  have lt0 : ∀ x ∈ p0, x.block < W.heap.size := by obtain ⟨m, hm⟩ := k0; exact DataW.trod_lt m _ _ _ hm
  obtain ⟨x0, cs0, rfl, w0⟩ := open_agg opens_Ship Try.underlying26 (hval 0 26 v0 rfl rfl) h0
  have k1 := h1
  have lt1 : ∀ x ∈ p1, x.block < W.heap.size := by obtain ⟨m, hm⟩ := k1; exact DataW.trod_lt m _ _ _ hm
  obtain ⟨a1, rfl, e1, e1', w1⟩ := open_int Try.underlying3 (hval 1 3 v1 rfl rfl) h1
  clear hA0 hval0
  refine (ShipOnce_walk (w := W) x0 cs0 w0 a1 w1).mono fun e W' ⟨he, bel⟩ => ?_
  subst he
  exact ⟨_, rfl, _, _, _, [], _, [], hW', trodAll_mk1 (shut_bool Try.underlying4 _), (trodAll_cons_mk (Below.trod ShipOnce_laidOut (by kernel_rfl) (of_decide_eq_true (by kernel_rfl)) k0 bel lt0) (trodAll_cons_mk (Below.trod ShipOnce_laidOut (by kernel_rfl) (of_decide_eq_true (by kernel_rfl)) k1 bel lt1) trodAll_mk0)), rfl, bel.frame _, fun h => by cases h⟩
set_option maxRecDepth 100000 in
set_option maxHeartbeats 4000000 in
theorem ShipOnce_closed : joinedFacts Try.prog 9 Try.f9 Rows.shipOnceSpec Rows.shipOnceRow = true := by
  unfold joinedFacts
  repeat' (with_reducible refine and_tt ?_ ?_)
  all_goals as_aux_lemma => kernel_rfl
theorem ShipOnce_over : Rows.shipOnceRow.holds Try.pinned (OpenSpec.ofChange Rows.shipOnceSpec) :=
  OpenClaim.holds_of_wide 9 Try.f9 rfl rfl rfl rfl rfl rfl rfl ⟨rfl, rfl, rfl, rfl, rfl⟩ rfl rfl rfl rfl rfl (by as_aux_lemma => kernel_rfl) Try.func9 ShipOnce_closed
    (of_decide_eq_true (by as_aux_lemma => kernel_rfl)) (by unfold Func.isWrapper; rw [if_neg (of_decide_eq_false (by as_aux_lemma => kernel_rfl))]; exact ⟨rfl, rfl⟩)
    (fun os started H enc _ => ShipOnce_lifted os started H enc)
theorem ShipOnce_holds : Rows.ShipOnceSaid := ShipOnce_over
end Go.Proofs.Ythdcanpbgaaneaa
