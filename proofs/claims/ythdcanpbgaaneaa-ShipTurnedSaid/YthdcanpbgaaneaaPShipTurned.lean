/- Records known to be applied are there behind a turn: the law ShipTurned returns true. No condition. -/
import Derived.Test.YthdcanpbgaaneaaPShipP
import Derived.Test.YthdcanpbgaaneaaPShipL
import Derived.WalkKit
import Derived.Handy
import Derived.ProofKit
import Derived.OpenShut
import Derived.ShutString
import Derived.ChangeOld
import Derived.Below
import Derived.Lib.Hide
import Derived.WalkLawsBesides
import Derived.WalkSpells
import Derived.Deep.QuietTactic
import Derived.BigQuiet
import Derived.Outline
namespace Go.Proofs.Ythdcanpbgaaneaa
set_option linter.unusedSimpArgs false
set_option linter.unusedVariables false
open Go.ChangeShapes Go.WideShapes Go.ChangeAt Go.RowKit
open Go.ChangeMaps (open_string shut_string)
set_option maxRecDepth 100000
set_option maxHeartbeats 4000000
abbrev stq0 (l : List Act) (blocks : Int) : LS := [(13, .lst 3 (l.map Act.cs)), (12, VI blocks), (0, VI blocks), (1, .lst 3 (l.map Act.cs))]
abbrev stq1 (blocks : Int) (l : List Act) : AV := .agg [.lst 1 ((((Ship.sailP blocks l).1).first).map cZ), .lst 1 ((((Ship.sailP blocks l).1).second).map cZ), .lst 2 ((((Ship.sailP blocks l).1).log).map Record.cs), VI (((Ship.sailP blocks l).1).sent), VI (((Ship.sailP blocks l).1).applied), VI (((Ship.sailP blocks l).1).known), .lst 1 ((((Ship.sailP blocks l).1).there).map cI), .lst 1 ((((Ship.sailP blocks l).1).back).map cI)]
abbrev stq2 (blocks : Int) (l : List Act) : OB := some ⟨8, [[.lst 1 ((((Ship.sailP blocks l).1).first).map cZ), .lst 1 ((((Ship.sailP blocks l).1).second).map cZ), .lst 2 ((((Ship.sailP blocks l).1).log).map Record.cs), VI (((Ship.sailP blocks l).1).sent), VI (((Ship.sailP blocks l).1).applied), VI (((Ship.sailP blocks l).1).known), .lst 1 ((((Ship.sailP blocks l).1).there).map cI), .lst 1 ((((Ship.sailP blocks l).1).back).map cI)]]⟩
abbrev stq3 (blocks : Int) (l : List Act) : LS := [(22, (stq1 blocks l)), (20, .v (.bool false)), (5, .ref 0 8 0 0)]
abbrev stq4 : AV := .agg [VI ((⟨8, 0, (⟨#[]⟩)⟩ : Act).kind), VI ((⟨8, 0, (⟨#[]⟩)⟩ : Act).n), .v (.string ((⟨8, 0, (⟨#[]⟩)⟩ : Act).data))]
abbrev stq5 (blocks : Int) (l : List Act) : AV := .agg [.lst 1 ((((((Ship.sailP blocks l).1).doP (⟨8, 0, (⟨#[]⟩)⟩ : Act)).1).first).map cZ), .lst 1 ((((((Ship.sailP blocks l).1).doP (⟨8, 0, (⟨#[]⟩)⟩ : Act)).1).second).map cZ), .lst 2 ((((((Ship.sailP blocks l).1).doP (⟨8, 0, (⟨#[]⟩)⟩ : Act)).1).log).map Record.cs), VI (((((Ship.sailP blocks l).1).doP (⟨8, 0, (⟨#[]⟩)⟩ : Act)).1).sent), VI (((((Ship.sailP blocks l).1).doP (⟨8, 0, (⟨#[]⟩)⟩ : Act)).1).applied), VI (((((Ship.sailP blocks l).1).doP (⟨8, 0, (⟨#[]⟩)⟩ : Act)).1).known), .lst 1 ((((((Ship.sailP blocks l).1).doP (⟨8, 0, (⟨#[]⟩)⟩ : Act)).1).there).map cI), .lst 1 ((((((Ship.sailP blocks l).1).doP (⟨8, 0, (⟨#[]⟩)⟩ : Act)).1).back).map cI)]
abbrev stq6 (blocks : Int) (l : List Act) : LS := (24, .tup [(stq5 blocks l), VI ((((Ship.sailP blocks l).1).doP (⟨8, 0, (⟨#[]⟩)⟩ : Act)).2)]) :: (23, stq4) :: (stq3 blocks l)
abbrev stq7 (blocks : Int) (l : List Act) : OB := some ⟨8, [[.lst 1 ((((((Ship.sailP blocks l).1).doP (⟨8, 0, (⟨#[]⟩)⟩ : Act)).1).first).map cZ), .lst 1 ((((((Ship.sailP blocks l).1).doP (⟨8, 0, (⟨#[]⟩)⟩ : Act)).1).second).map cZ), .lst 2 ((((((Ship.sailP blocks l).1).doP (⟨8, 0, (⟨#[]⟩)⟩ : Act)).1).log).map Record.cs), VI (((((Ship.sailP blocks l).1).doP (⟨8, 0, (⟨#[]⟩)⟩ : Act)).1).sent), VI (((((Ship.sailP blocks l).1).doP (⟨8, 0, (⟨#[]⟩)⟩ : Act)).1).applied), VI (((((Ship.sailP blocks l).1).doP (⟨8, 0, (⟨#[]⟩)⟩ : Act)).1).known), .lst 1 ((((((Ship.sailP blocks l).1).doP (⟨8, 0, (⟨#[]⟩)⟩ : Act)).1).there).map cI), .lst 1 ((((((Ship.sailP blocks l).1).doP (⟨8, 0, (⟨#[]⟩)⟩ : Act)).1).back).map cI)]]⟩
abbrev stq8 (blocks : Int) (l : List Act) : LS := [(8, VI ((((Ship.sailP blocks l).1).doP (⟨8, 0, (⟨#[]⟩)⟩ : Act)).2)), (7, .ref 1 8 0 0), (5, .ref 0 8 0 0)]
abbrev stq9 (blocks : Int) (l : List Act) : LS := [(30, .lst 1 ((((Ship.sailP blocks l).1).first).map cZ)), (29, .ref 0 8 0 0), (28, .v (.bool false)), (7, .ref 1 8 0 0), (5, .ref 0 8 0 0)]
abbrev stq10 (blocks : Int) (l : List Act) : LS := (31, VI (List.length (((Ship.sailP blocks l).1).first) : Int)) :: (stq9 blocks l)
abbrev stq11 (blocks : Int) (l : List Act) : OB := some ⟨1, ((List.replicate (Int.toNat (List.length (((Ship.sailP blocks l).1).first) : Int)) (⟨#[]⟩ : ByteArray)).map cZ)⟩
abbrev stq12 (blocks : Int) (l : List Act) : LS := (32, .own 2 1 0 (List.length (List.replicate (Int.toNat (List.length (((Ship.sailP blocks l).1).first) : Int)) (⟨#[]⟩ : ByteArray)))) :: (stq10 blocks l)
abbrev stq13 (blocks : Int) (l : List Act) : LS := [(9, .own 2 1 0 (List.length (List.replicate (Int.toNat (List.length (((Ship.sailP blocks l).1).first) : Int)) (⟨#[]⟩ : ByteArray)))), (7, .ref 1 8 0 0), (5, .ref 0 8 0 0)]
abbrev stq14 (blocks : Int) (l : List Act) : LS := (10, VI (((Ship.sailP blocks l).1).known)) :: (stq13 blocks l)
abbrev stq15 (blocks : Int) (l : List Act) (n : Int) : LS := [(5, .ref 0 8 0 0), (7, .ref 1 8 0 0), (9, .own 2 1 0 (List.length (List.replicate (Int.toNat (List.length (((Ship.sailP blocks l).1).first) : Int)) (⟨#[]⟩ : ByteArray)))), (10, VI n)]
abbrev stq16 (blocks : Int) (l : List Act) (n : Int) : LS := (37, .lst 2 ((((Ship.sailP blocks l).1).log).map Record.cs)) :: (36, .ref 0 8 0 2) :: (35, VI n) :: (stq15 blocks l n)
abbrev stq17 (blocks : Int) (l : List Act) (n : Int) : LS := (38, VI (List.length (((Ship.sailP blocks l).1).log) : Int)) :: (stq16 blocks l n)
abbrev stq18 (n : Int) (blocks : Int) (l : List Act) : LS := (47, VI n) :: (46, .lst 2 ((((Ship.sailP blocks l).1).log).map Record.cs)) :: (45, .ref 0 8 0 2) :: (44, .own 2 1 0 (List.length (List.replicate (Int.toNat (List.length (((Ship.sailP blocks l).1).first) : Int)) (⟨#[]⟩ : ByteArray)))) :: (43, .lst 1 ((((((Ship.sailP blocks l).1).doP (⟨8, 0, (⟨#[]⟩)⟩ : Act)).1).first).map cZ)) :: (42, .ref 1 8 0 0) :: (39, .v (.bool true)) :: (stq15 blocks l n)
abbrev stq19 (blocks : Int) (l : List Act) (n : Int) : OB := some ⟨1, ((replay (List.replicate (Int.toNat (List.length (((Ship.sailP blocks l).1).first) : Int)) (⟨#[]⟩ : ByteArray)) ((((Ship.sailP blocks l).1).log).take (Int.toNat n))).map cZ)⟩
abbrev stq20 (blocks : Int) (l : List Act) (n : Int) : LB := [(stq2 blocks l), (stq7 blocks l), (stq11 blocks l), (stq19 blocks l n)]
abbrev stq21 (blocks : Int) (l : List Act) (n : Int) : LS := (48, .own 3 1 0 (List.length (replay (List.replicate (Int.toNat (List.length (((Ship.sailP blocks l).1).first) : Int)) (⟨#[]⟩ : ByteArray)) ((((Ship.sailP blocks l).1).log).take (Int.toNat n))))) :: (stq18 n blocks l)
abbrev stq22 (n : Int) (blocks : Int) (l : List Act) : LS := [(40, VI n), (49, .v (.bool false)), (5, .ref 0 8 0 0), (7, .ref 1 8 0 0), (9, .own 2 1 0 (List.length (List.replicate (Int.toNat (List.length (((Ship.sailP blocks l).1).first) : Int)) (⟨#[]⟩ : ByteArray))))]
theorem shipTurned_fn (blocks : Int) (l : List Act) (hl : l.length * 32 ≤ 140737488351232) : Fn Try.prog 7 [VI blocks, .lst 3 (l.map Act.cs)] (.v (.bool true)) := by
  refine fn_walkW F7_ok (of_decide_eq_true (by kernel_rfl)) ?_
  refine EL.sreg ?_
  refine OW.last 1 [0, 1] (x' := ⟨[(0, VI blocks), (1, .lst 3 (l.map Act.cs))], []⟩) (by kernel_rfl) (by kernel_rfl) ?_
  refine EL.sreg ?_
  refine OW.run 2 (x' := ⟨(stq0 l blocks), []⟩) (by kernel_rfl) ?_
  refine OW.fn (ar := [VI blocks, .lst 3 (l.map Act.cs)]) (x' := ⟨(14, .tup [(stq1 blocks l), .v (.bool ((Ship.sailP blocks l).2))]) :: (stq0 l blocks), []⟩) (by kernel_rfl) (by kernel_rfl) F21_call (sailed_fn blocks l (by omega)) (by kernel_rfl) (by kernel_rfl) ?_
  refine OW.last 6 [5, 6] (x' := ⟨[(6, .v (.bool ((Ship.sailP blocks l).2))), (5, .ref 0 8 0 0)], [(stq2 blocks l)]⟩) (by kernel_rfl) (by kernel_rfl) ?_
  refine EL.seq ?_
  refine EL.sreg ?_
  refine OW.fn (ar := []) (x' := ⟨[(17, .v (.bool true)), (6, .v (.bool ((Ship.sailP blocks l).2))), (5, .ref 0 8 0 0)], [(stq2 blocks l)]⟩) (by kernel_rfl) (by kernel_rfl) F15_call (begun_fn) (by kernel_rfl) (by kernel_rfl) ?_
  refine OW.last 1 [5, 6, 18] (x' := ⟨[(18, .v (.bool false)), (6, .v (.bool ((Ship.sailP blocks l).2))), (5, .ref 0 8 0 0)], [(stq2 blocks l)]⟩) (by kernel_rfl) (by kernel_rfl) ?_
  refine EL.condF (by kernel_rfl) ?_
  refine EL.skip ?_
  refine thenL_norm ?_
  refine EL.seq ?_
  refine EL.sreg ?_
  refine OW.last 2 [5, 20] (x' := ⟨[(20, .v (.bool (!((Ship.sailP blocks l).2)))), (5, .ref 0 8 0 0)], [(stq2 blocks l)]⟩) (by kernel_rfl) (by kernel_rfl) ?_
  rcases Bool.eq_false_or_eq_true ((Ship.sailP blocks l).2) with h1 | h1
  rw [h1]
  refine EL.condF (by kernel_rfl) ?_
  refine EL.skip ?_
  refine thenL_norm ?_
  refine EL.sdraw ?_
  refine DW.run 1 (x' := ⟨(stq3 blocks l), [(stq2 blocks l)]⟩) (by kernel_rfl) ?_
  refine DW.fn (ar := [VI 8, VI 0, .v (.string (⟨#[]⟩))]) (x' := ⟨(23, stq4) :: (stq3 blocks l), [(stq2 blocks l)]⟩) (by kernel_rfl) (by kernel_rfl) F24_call (act_fn 8 0 (⟨#[]⟩)) (by kernel_rfl) (by kernel_rfl) ?_
  refine DW.fn (ar := [(stq1 blocks l), stq4]) (x' := ⟨(stq6 blocks l), [(stq2 blocks l)]⟩) (by kernel_rfl) (by kernel_rfl) F12_call (do_fn ((Ship.sailP blocks l).1) (⟨8, 0, (⟨#[]⟩)⟩ : Act) (by first | exact hx | exact Ship.new_big _ | exact Ship.run_big _ _ | exact Ship.do_big _ _ | exact Ship.sail_big _ _ | exact Ship.zero_big | exact Ship.Ok.big (by assumption) | omega)) (by kernel_rfl) (by kernel_rfl) ?_
  refine DW.last 6 [5, 7, 8] (x' := ⟨(stq8 blocks l), [(stq2 blocks l), (stq7 blocks l)]⟩) (by kernel_rfl) (by kernel_rfl) ?_
  refine EL.seq ?_
  refine EL.sreg ?_
  refine OW.last 2 [5, 7, 28] (x' := ⟨[(28, .v (.bool (((((Ship.sailP blocks l).1).doP (⟨8, 0, (⟨#[]⟩)⟩ : Act)).2) != 0))), (7, .ref 1 8 0 0), (5, .ref 0 8 0 0)], [(stq2 blocks l), (stq7 blocks l)]⟩) (by kernel_rfl) (by kernel_rfl) ?_
  rcases Bool.eq_false_or_eq_true ((((((Ship.sailP blocks l).1).doP (⟨8, 0, (⟨#[]⟩)⟩ : Act)).2) != 0)) with h2 | h2
  rw [h2]
  have g2 : ¬ (((((Ship.sailP blocks l).1).doP (⟨8, 0, (⟨#[]⟩)⟩ : Act)).2) = 0) := by simpa using h2
  refine EL.condT (by kernel_rfl) ?_
  refine EL.sreg ?_
  refine OW.last 1 [4] (x' := ⟨[(4, .v (.bool false))], [(stq2 blocks l), (stq7 blocks l)]⟩) (by kernel_rfl) (by kernel_rfl) ?_
  refine EL.ret ?_
  refine thenL_ret ?_
  refine ⟨.inr rfl, .v (.bool false), by kernel_rfl, Ale.of_eq ?_⟩
  focus (first | rfl | (exfalso; obtain ⟨m, hs⟩ := Ship.sail_sails (n := blocks) (l := l) (by assumption); have hok := hs.ok; have hk := hok.k; have hsm := hok.small; have h0 := Ship.turn_0 hok; first | omega | contradiction | (simp_all; done)))
  rw [h2]
  have g2 : (((((Ship.sailP blocks l).1).doP (⟨8, 0, (⟨#[]⟩)⟩ : Act)).2) = 0) := by simpa using h2
  refine EL.condF (by kernel_rfl) ?_
  refine EL.skip ?_
  refine thenL_norm ?_
  refine EL.sreg ?_
  refine OW.run 2 (x' := ⟨(stq9 blocks l), [(stq2 blocks l), (stq7 blocks l)]⟩) (by kernel_rfl) ?_
  refine OW.ope (v := VI (List.length (((Ship.sailP blocks l).1).first) : Int)) (u := []) (acc := []) (x' := ⟨(stq10 blocks l), [(stq2 blocks l), (stq7 blocks l)]⟩) (by kernel_rfl) (opE_len cZ (((Ship.sailP blocks l).1).first) (.s 30) 1 (by kernel_rfl) (by kernel_rfl) (.inl rfl)) (by kernel_rfl) ?_
  refine OW.ope (v := .own 2 1 0 (List.length (List.replicate (Int.toNat (List.length (((Ship.sailP blocks l).1).first) : Int)) (⟨#[]⟩ : ByteArray)))) (u := [(2, some ⟨1, ((List.replicate (Int.toNat (List.length (((Ship.sailP blocks l).1).first) : Int)) (⟨#[]⟩ : ByteArray)).map cZ)⟩)]) (acc := []) (x' := ⟨(stq12 blocks l), [(stq2 blocks l), (stq7 blocks l), (stq11 blocks l)]⟩) (by kernel_rfl) (opE_msl cZ (⟨#[]⟩ : ByteArray) 1 16 [.v (.string (⟨#[]⟩))] (.s 31) (.s 31) .i64 .i64 (List.length (((Ship.sailP blocks l).1).first) : Int) (by kernel_rfl) (by kernel_rfl) rfl rfl (by kernel_rfl) ⟨by omega, by obtain ⟨m, hs⟩ := Ship.sail_sails (n := blocks) (l := l) (by assumption); have hok := hs.ok; have hk := hok.k; have hsm := hok.small; omega⟩) (by kernel_rfl) ?_
  refine OW.last 1 [5, 7, 9] (x' := ⟨(stq13 blocks l), [(stq2 blocks l), (stq7 blocks l), (stq11 blocks l)]⟩) (by kernel_rfl) (by kernel_rfl) ?_
  refine EL.seq ?_
  refine EL.sreg ?_
  refine OW.last 3 [5, 7, 9, 10] (x' := ⟨(stq14 blocks l), [(stq2 blocks l), (stq7 blocks l), (stq11 blocks l)]⟩) (by kernel_rfl) (by kernel_rfl) ?_
  refine EL.block ?_
  refine EL.loopN (fun m x => ∃ (n : Int), m = (61 - n).toNat ∧ ((Ship.sailP blocks l).1.known ≤ n ∧ n ≤ (Ship.sailP blocks l).1.applied) ∧ x = ⟨(stq15 blocks l n), [(stq2 blocks l), (stq7 blocks l), (stq11 blocks l)]⟩) (y := (fun (n : Int) => (⟨(stq15 blocks l n), [(stq2 blocks l), (stq7 blocks l), (stq11 blocks l)]⟩ : L3)) (Ship.sailP blocks l).1.known) [5, 7, 9, 10] [.old 0 false, .old 1 false, .old 2 true] [] (by kernel_rfl) ⟨pucZ (List.replicate (Int.toNat (List.length (((Ship.sailP blocks l).1).first) : Int)) (⟨#[]⟩ : ByteArray)) (by kernel_rfl), trivial⟩ ⟨(Ship.sailP blocks l).1.known, rfl, by obtain ⟨m, hs⟩ := Ship.sail_sails (n := blocks) (l := l) (by assumption); have hok := hs.ok; have hk := hok.k; have hsm := hok.small; omega, rfl⟩ ?_
  rintro _ _ ⟨n, rfl, hI3, rfl⟩
  obtain ⟨hn0, hn1⟩ := hI3
  obtain ⟨m, hs⟩ := Ship.sail_sails (n := blocks) (l := l) (by assumption); have hok := hs.ok; have hk := hok.k; have hsm := hok.small
  refine EL.seq ?_
  refine EL.sreg ?_
  refine OW.run 3 (x' := ⟨(stq16 blocks l n), [(stq2 blocks l), (stq7 blocks l), (stq11 blocks l)]⟩) (by kernel_rfl) ?_
  refine OW.ope (v := VI (List.length (((Ship.sailP blocks l).1).log) : Int)) (u := []) (acc := []) (x' := ⟨(stq17 blocks l n), [(stq2 blocks l), (stq7 blocks l), (stq11 blocks l)]⟩) (by kernel_rfl) (opE_len Record.cs (((Ship.sailP blocks l).1).log) (.s 37) 2 (by kernel_rfl) (by kernel_rfl) (.inl rfl)) (by kernel_rfl) ?_
  refine OW.last 1 [5, 7, 9, 10, 39] (x' := ⟨(39, .v (.bool (decide (n ≤ (List.length (((Ship.sailP blocks l).1).log) : Int))))) :: (stq15 blocks l n), [(stq2 blocks l), (stq7 blocks l), (stq11 blocks l)]⟩) (by kernel_rfl) (by kernel_rfl) ?_
  rcases Bool.eq_false_or_eq_true (decide (n ≤ (List.length (((Ship.sailP blocks l).1).log) : Int))) with h4 | h4
  rw [h4]
  have g4 : (n ≤ (List.length (((Ship.sailP blocks l).1).log) : Int)) := of_decide_eq_true h4
  refine EL.condT (by kernel_rfl) ?_
  refine EL.skip ?_
  refine thenL_norm ?_
  refine EL.seq ?_
  refine EL.block ?_
  refine EL.sdraw ?_
  refine DW.run 6 (x' := ⟨(stq18 n blocks l), [(stq2 blocks l), (stq7 blocks l), (stq11 blocks l)]⟩) (by kernel_rfl) ?_
  refine DW.fo (ar := [.own 2 1 0 (List.length (List.replicate (Int.toNat (List.length (((Ship.sailP blocks l).1).first) : Int)) (⟨#[]⟩ : ByteArray))), .lst 2 ((((Ship.sailP blocks l).1).log).map Record.cs), VI n]) (fe := cZ) (xs := (replay (List.replicate (Int.toNat (List.length (((Ship.sailP blocks l).1).first) : Int)) (⟨#[]⟩ : ByteArray)) ((((Ship.sailP blocks l).1).log).take (Int.toNat n)))) (x' := ⟨(stq21 blocks l n), (stq20 blocks l n)⟩) (by kernel_rfl) (by kernel_rfl) F23_call (replayed_fo (List.replicate (Int.toNat (List.length (((Ship.sailP blocks l).1).first) : Int)) (⟨#[]⟩ : ByteArray)) (((Ship.sailP blocks l).1).log) n (by obtain ⟨m, hs⟩ := Ship.sail_sails (n := blocks) (l := l) (by assumption); have hok := hs.ok; have hk := hok.k; have hsm := hok.small; first | omega | (simp; omega))) (by intro y; kernel_rfl) (snapAs_cons (snapA_map cZ (List.replicate (Int.toNat (List.length (((Ship.sailP blocks l).1).first) : Int)) (⟨#[]⟩ : ByteArray)) (by kernel_rfl) (by intro y; kernel_rfl) (by simp)) (snapAs_cons (by kernel_rfl) (snapAs_cons (by kernel_rfl) (snapAs_nil)))) (by kernel_rfl) ?_
  refine DW.fn (ar := [.lst 1 ((((((Ship.sailP blocks l).1).doP (⟨8, 0, (⟨#[]⟩)⟩ : Act)).1).first).map cZ), .own 3 1 0 (List.length (replay (List.replicate (Int.toNat (List.length (((Ship.sailP blocks l).1).first) : Int)) (⟨#[]⟩ : ByteArray)) ((((Ship.sailP blocks l).1).log).take (Int.toNat n))))]) (x' := ⟨(49, .v (.bool (decide ((((((Ship.sailP blocks l).1).doP (⟨8, 0, (⟨#[]⟩)⟩ : Act)).1).first) = (replay (List.replicate (Int.toNat (List.length (((Ship.sailP blocks l).1).first) : Int)) (⟨#[]⟩ : ByteArray)) ((((Ship.sailP blocks l).1).log).take (Int.toNat n))))))) :: (stq21 blocks l n), (stq20 blocks l n)⟩) (by kernel_rfl) (by kernel_rfl) F22_call (sameTexts_fn (((((Ship.sailP blocks l).1).doP (⟨8, 0, (⟨#[]⟩)⟩ : Act)).1).first) (replay (List.replicate (Int.toNat (List.length (((Ship.sailP blocks l).1).first) : Int)) (⟨#[]⟩ : ByteArray)) ((((Ship.sailP blocks l).1).log).take (Int.toNat n))) (by first | omega | decide | exact (Ship.new_big _).2.1 | exact (Ship.new_big _).1 | exact (Ship.run_big _ _).2.1 | exact (Ship.run_big _ _).1 | exact (Ship.do_big _ _).2.1 | exact (Ship.do_big _ _).1 | exact (Ship.sail_big _ _).2.1 | exact (Ship.sail_big _ _).1 | (simp; omega))) (snapAs_cons (by kernel_rfl) (snapAs_cons (snapA_map cZ (replay (List.replicate (Int.toNat (List.length (((Ship.sailP blocks l).1).first) : Int)) (⟨#[]⟩ : ByteArray)) ((((Ship.sailP blocks l).1).log).take (Int.toNat n))) (by kernel_rfl) (by intro y; kernel_rfl) (by simp)) (snapAs_nil))) (by kernel_rfl) ?_
  refine DW.last 0 [5, 7, 9, 10, 49] (x' := ⟨(49, .v (.bool (decide ((((((Ship.sailP blocks l).1).doP (⟨8, 0, (⟨#[]⟩)⟩ : Act)).1).first) = (replay (List.replicate (Int.toNat (List.length (((Ship.sailP blocks l).1).first) : Int)) (⟨#[]⟩ : ByteArray)) ((((Ship.sailP blocks l).1).log).take (Int.toNat n))))))) :: (stq15 blocks l n), (stq20 blocks l n)⟩) (by kernel_rfl) (by kernel_rfl) ?_
  rcases Bool.eq_false_or_eq_true (decide ((((((Ship.sailP blocks l).1).doP (⟨8, 0, (⟨#[]⟩)⟩ : Act)).1).first) = (replay (List.replicate (Int.toNat (List.length (((Ship.sailP blocks l).1).first) : Int)) (⟨#[]⟩ : ByteArray)) ((((Ship.sailP blocks l).1).log).take (Int.toNat n))))) with h5 | h5
  rw [h5]
  have g5 : ((((((Ship.sailP blocks l).1).doP (⟨8, 0, (⟨#[]⟩)⟩ : Act)).1).first) = (replay (List.replicate (Int.toNat (List.length (((Ship.sailP blocks l).1).first) : Int)) (⟨#[]⟩ : ByteArray)) ((((Ship.sailP blocks l).1).log).take (Int.toNat n)))) := of_decide_eq_true h5
  refine EL.condT (by kernel_rfl) ?_
  refine EL.sreg ?_
  refine OW.last 1 [4] (x' := ⟨[(4, .v (.bool true))], (stq20 blocks l n)⟩) (by kernel_rfl) (by kernel_rfl) ?_
  refine EL.ret ?_
  refine inBlk_ret ?_
  refine thenL_ret ?_
  refine thenL_ret ?_
  refine inBlk_ret ?_
  refine thenL_ret ?_
  refine ⟨.inr rfl, .v (.bool true), by kernel_rfl, Ale.of_eq ?_⟩
  focus (first | rfl | (exfalso; obtain ⟨m, hs⟩ := Ship.sail_sails (n := blocks) (l := l) (by assumption); have hok := hs.ok; have hk := hok.k; have hsm := hok.small; have h0 := Ship.turn_0 hok; first | omega | contradiction | (simp_all; done)))
  rw [h5]
  have g5 : ¬ ((((((Ship.sailP blocks l).1).doP (⟨8, 0, (⟨#[]⟩)⟩ : Act)).1).first) = (replay (List.replicate (Int.toNat (List.length (((Ship.sailP blocks l).1).first) : Int)) (⟨#[]⟩ : ByteArray)) ((((Ship.sailP blocks l).1).log).take (Int.toNat n)))) := of_decide_eq_false h5
  refine EL.condF (by kernel_rfl) ?_
  refine EL.skip ?_
  refine inBlk_norm ?_
  refine thenL_norm ?_
  refine EL.reg0 ?_
  refine OW.run 3 (x' := ⟨(10, VI (IntKind.i64.wrap (n + 1))) :: (41, VI (IntKind.i64.wrap (n + 1))) :: (stq22 n blocks l), (stq20 blocks l n)⟩) (by kernel_rfl) ?_
  have e6 : IntKind.i64.wrap (n + 1) = n + 1 := wr64 (by obtain ⟨m, hs⟩ := Ship.sail_sails (n := blocks) (l := l) (by assumption); have hok := hs.ok; have hk := hok.k; have hsm := hok.small; omega)
  rw [e6]
  refine OW.end 0 (x' := ⟨(10, VI (n + 1)) :: (41, VI (n + 1)) :: (stq22 n blocks l), (stq20 blocks l n)⟩) (by kernel_rfl) (by kernel_rfl) ?_
  refine thenL_norm ?_
  refine round_end (live := [5, 7, 9, 10]) (src := [.old 0 false, .old 1 false, .old 2 true]) (es := []) (y := (fun (n : Int) => (⟨(stq15 blocks l n), [(stq2 blocks l), (stq7 blocks l), (stq11 blocks l)]⟩ : L3)) (n + 1)) ?_ ⟨pucZ (List.replicate (Int.toNat (List.length (((Ship.sailP blocks l).1).first) : Int)) (⟨#[]⟩ : ByteArray)) (by kernel_rfl), trivial⟩ ?_ ⟨(n + 1), rfl, ?_, rfl⟩
  kernel_rfl
  omega
  focus ((have hne : n ≠ (Ship.sailP blocks l).1.applied := (fun hh => by subst hh; exact Bool.noConfusion ((‹_ = false›).symm.trans (decide_eq_true (Ship.turned_at hs)))); refine ⟨by omega, by omega⟩))
  rw [h4]
  have g4 : ¬ (n ≤ (List.length (((Ship.sailP blocks l).1).log) : Int)) := of_decide_eq_false h4
  refine EL.condF (by kernel_rfl) ?_
  refine EL.exit ?_
  refine thenL_exit ?_
  refine thenL_exit ?_
  refine inBlk_hit ?_
  refine thenL_norm ?_
  refine EL.sreg ?_
  refine OW.last 1 [4] (x' := ⟨[(4, .v (.bool false))], [(stq2 blocks l), (stq7 blocks l), (stq11 blocks l)]⟩) (by kernel_rfl) (by kernel_rfl) ?_
  refine EL.ret ?_
  refine ⟨.inr rfl, .v (.bool false), by kernel_rfl, Ale.of_eq ?_⟩
  focus (first | rfl | (exfalso; obtain ⟨m, hs⟩ := Ship.sail_sails (n := blocks) (l := l) (by assumption); have hok := hs.ok; have hk := hok.k; have hsm := hok.small; have h0 := Ship.turn_0 hok; first | omega | contradiction | (simp_all; done)))
  rw [h1]
  refine EL.condT (by kernel_rfl) ?_
  refine EL.sreg ?_
  refine OW.last 1 [4] (x' := ⟨[(4, .v (.bool true))], [(stq2 blocks l)]⟩) (by kernel_rfl) (by kernel_rfl) ?_
  refine EL.ret ?_
  refine thenL_ret ?_
  refine ⟨.inr rfl, .v (.bool true), by kernel_rfl, Ale.of_eq ?_⟩
  focus (first | rfl | (exfalso; obtain ⟨m, hs⟩ := Ship.sail_sails (n := blocks) (l := l) (by assumption); have hok := hs.ok; have hk := hok.k; have hsm := hok.small; have h0 := Ship.turn_0 hok; first | omega | contradiction | (simp_all; done)))
theorem ShipTurned_walk {w : World} (blocks : Int) (_wblocks : (Lit.int .i64 blocks).wf = true) (l : List Act) (Al : Option Addr) (nl cl : Nat) (rl : GoT.rep w w.heap.size [.slice Al nl cl] l) (zl : nl * 32 ≤ 140737488351232) : Calls Try.prog 7 #[I blocks, .slice Al nl cl] w fun e w' => e = .returned (.bool true) ∧ Below w.heap.size w w' := by
  have ll := rep_len rl
  exact fn_law (vs := [I blocks, .slice Al nl cl]) (shipTurned_fn blocks l (by first | assumption | omega)) (.cons (.v rfl) (.cons (rep_list (fun x : Act => [I x.kind, I x.n, .string x.data]) _ Act.flat (fun _ => rfl) (by intro x v hv; simp at hv; rcases hv with rfl | rfl | rfl <;> exact ⟨rfl, rfl⟩) rl) (.nil)))
theorem ShipTurned_own : ownKnob Try.prog.godebug = none := by kernel_rfl
theorem ShipTurned_laidOut : laidOutB Try.prog = true := by kernel_rfl
set_option maxRecDepth 100000 in
set_option linter.unusedVariables false in
theorem ShipTurned_lifted (os : Os) (started : os.Started) (H : Type) (enc : TypeId × Value → H) :
    ReturnsInHanded {} Try.checked os 7 .any (Rows.shipTurnedSpec.pre6 enc Try.prog Try.f7 Rows.shipTurnedRow.domain false) (Rows.shipTurnedSpec.post enc Try.prog Try.f7 false true false false) := by
  refine returnsInHanded_of_change_sized (C := Try.checked) ShipTurned_own started (by kernel_rfl) Try.func7
    (ChangeSpec.witness6 (enc := enc) (C := Try.checked) false ⟨#[], #[.int .i64 0, .slice none 0 0], []⟩ 8 (by kernel_rfl) (by kernel_rfl) (by kernel_rfl) (by kernel_rfl)) ?_
  intro W base args ds gs before hval0 hW hcnd hsz _
  have hval : ∀ (j : Nat) t v, Try.f7.params[j]? = some t → args[j]? = some v → Value.okWide Try.prog W .any base t v := hval0
  have hW' := hW
  obtain ⟨p, q, hA0, hV, rfl, hfz, hnd⟩ := hW
  have hA : DataW.TrodAll enc Try.prog W 0 (fun _ => true) true Try.f7.params.toList args.toList ds p := hA0
  rw [Try.params7] at hA hval hsz
  obtain ⟨v0, vs0, d0, ds0, p0, q0, hargs, rfl, rfl, h0, r0⟩ := trodAll_cons hA
  obtain ⟨v1, vs1, d1, ds1, p1, q1, rfl, rfl, rfl, h1, r1⟩ := trodAll_cons r0
  obtain ⟨rfl, rfl, rfl⟩ := trodAll_nil r1
  obtain rfl : args = #[v0, v1] := by cases args; simp_all
  obtain ⟨rfl, rfl⟩ := trodVars_none hV
  have k0 := h0
  have lt0 : ∀ x ∈ p0, x.block < W.heap.size := by obtain ⟨m, hm⟩ := k0; exact DataW.trod_lt m _ _ _ hm
  obtain ⟨a0, rfl, e0, e0', w0⟩ := open_int Try.underlying3 (hval 0 3 v0 rfl rfl) h0
  have k1 := h1
  have lt1 : ∀ x ∈ p1, x.block < W.heap.size := by obtain ⟨m, hm⟩ := k1; exact DataW.trod_lt m _ _ _ hm
  obtain ⟨x1, A1, n1, c1, rfl, w1⟩ := open_list opens_LAct Try.underlying37 (hval 1 37 v1 rfl rfl) h1
  have sz1 := sized_list hsz 1 rfl rfl Try.underlying37 h1 32 (by kernel_rfl)
  clear hA0 hval0
  refine (ShipTurned_walk (w := W) a0 w0 x1 A1 n1 c1 w1 sz1).mono fun e W' ⟨he, bel⟩ => ?_
  subst he
  exact ⟨_, rfl, _, _, _, [], _, [], hW', trodAll_mk1 (shut_bool Try.underlying4 _), (trodAll_cons_mk (Below.trod ShipTurned_laidOut (by kernel_rfl) (of_decide_eq_true (by kernel_rfl)) k0 bel lt0) (trodAll_cons_mk (Below.trod ShipTurned_laidOut (by kernel_rfl) (of_decide_eq_true (by kernel_rfl)) k1 bel lt1) trodAll_mk0)), rfl, bel.frame _, fun h => by cases h⟩
set_option maxRecDepth 100000 in
set_option maxHeartbeats 4000000 in
theorem ShipTurned_closed : joinedFacts Try.prog 7 Try.f7 Rows.shipTurnedSpec Rows.shipTurnedRow = true := by
  unfold joinedFacts
  repeat' (with_reducible refine and_tt ?_ ?_)
  all_goals as_aux_lemma => kernel_rfl
theorem ShipTurned_over : Rows.shipTurnedRow.holds Try.pinned (OpenSpec.ofChange Rows.shipTurnedSpec) :=
  OpenClaim.holds_of_wide 7 Try.f7 rfl rfl rfl rfl rfl rfl rfl ⟨rfl, rfl, rfl, rfl, rfl⟩ rfl rfl rfl rfl rfl (by as_aux_lemma => kernel_rfl) Try.func7 ShipTurned_closed
    (of_decide_eq_true (by as_aux_lemma => kernel_rfl)) (by unfold Func.isWrapper; rw [if_neg (of_decide_eq_false (by as_aux_lemma => kernel_rfl))]; exact ⟨rfl, rfl⟩)
    (fun os started H enc _ => ShipTurned_lifted os started H enc)
theorem ShipTurned_holds : Rows.ShipTurnedSaid := ShipTurned_over
end Go.Proofs.Ythdcanpbgaaneaa
