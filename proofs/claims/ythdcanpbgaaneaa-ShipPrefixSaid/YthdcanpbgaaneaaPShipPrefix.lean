/- The second site has what the first one had behind a prefix of the writes, the first one has all of them: the law ShipPrefix returns true. No condition. -/
import Derived.Test.YthdcanpbgaaneaaPShipP
import Derived.Test.YthdcanpbgaaneaaPShipL
import Derived.WalkKit
import Derived.Handy
import Derived.ProofKit
import Derived.OpenShut
import Derived.ShutString
import Derived.ChangeOld
import Derived.Below
import Derived.Lib.Hide
import Derived.WalkLawsBesides
import Derived.WalkSpells
import Derived.Deep.QuietTactic
import Derived.BigQuiet
import Derived.Outline
namespace Go.Proofs.Ythdcanpbgaaneaa
set_option linter.unusedSimpArgs false
set_option linter.unusedVariables false
open Go.ChangeShapes Go.WideShapes Go.ChangeAt Go.RowKit
open Go.ChangeMaps (open_string shut_string)
set_option maxRecDepth 100000
set_option maxHeartbeats 4000000
abbrev spq0 (l : List Act) (blocks : Int) : LS := [(10, .lst 3 (l.map Act.cs)), (9, VI blocks), (0, VI blocks), (1, .lst 3 (l.map Act.cs))]
abbrev spq1 (blocks : Int) (l : List Act) : AV := .agg [.lst 1 ((((Ship.sailP blocks l).1).first).map cZ), .lst 1 ((((Ship.sailP blocks l).1).second).map cZ), .lst 2 ((((Ship.sailP blocks l).1).log).map Record.cs), VI (((Ship.sailP blocks l).1).sent), VI (((Ship.sailP blocks l).1).applied), VI (((Ship.sailP blocks l).1).known), .lst 1 ((((Ship.sailP blocks l).1).there).map cI), .lst 1 ((((Ship.sailP blocks l).1).back).map cI)]
abbrev spq2 (blocks : Int) (l : List Act) : OB := some ⟨8, [[.lst 1 ((((Ship.sailP blocks l).1).first).map cZ), .lst 1 ((((Ship.sailP blocks l).1).second).map cZ), .lst 2 ((((Ship.sailP blocks l).1).log).map Record.cs), VI (((Ship.sailP blocks l).1).sent), VI (((Ship.sailP blocks l).1).applied), VI (((Ship.sailP blocks l).1).known), .lst 1 ((((Ship.sailP blocks l).1).there).map cI), .lst 1 ((((Ship.sailP blocks l).1).back).map cI)]]⟩
abbrev spq3 (blocks : Int) (l : List Act) : LS := [(19, .lst 1 ((((Ship.sailP blocks l).1).first).map cZ)), (18, .ref 0 8 0 0), (17, .v (.bool false)), (5, .ref 0 8 0 0)]
abbrev spq4 (blocks : Int) (l : List Act) : LS := (20, VI (List.length (((Ship.sailP blocks l).1).first) : Int)) :: (spq3 blocks l)
abbrev spq5 (blocks : Int) (l : List Act) : OB := some ⟨1, ((List.replicate (Int.toNat (List.length (((Ship.sailP blocks l).1).first) : Int)) (⟨#[]⟩ : ByteArray)).map cZ)⟩
abbrev spq6 (blocks : Int) (l : List Act) : LS := (21, .own 1 1 0 (List.length (List.replicate (Int.toNat (List.length (((Ship.sailP blocks l).1).first) : Int)) (⟨#[]⟩ : ByteArray)))) :: (spq4 blocks l)
abbrev spq7 (blocks : Int) (l : List Act) : LS := [(28, VI (((Ship.sailP blocks l).1).applied)), (27, .ref 0 8 0 4), (26, .lst 2 ((((Ship.sailP blocks l).1).log).map Record.cs)), (25, .ref 0 8 0 2), (24, .own 1 1 0 (List.length (List.replicate (Int.toNat (List.length (((Ship.sailP blocks l).1).first) : Int)) (⟨#[]⟩ : ByteArray)))), (23, .lst 1 ((((Ship.sailP blocks l).1).second).map cZ)), (22, .ref 0 8 0 1), (7, .own 1 1 0 (List.length (List.replicate (Int.toNat (List.length (((Ship.sailP blocks l).1).first) : Int)) (⟨#[]⟩ : ByteArray)))), (5, .ref 0 8 0 0)]
abbrev spq8 (blocks : Int) (l : List Act) : OB := some ⟨1, ((replay (List.replicate (Int.toNat (List.length (((Ship.sailP blocks l).1).first) : Int)) (⟨#[]⟩ : ByteArray)) ((((Ship.sailP blocks l).1).log).take (Int.toNat (((Ship.sailP blocks l).1).applied)))).map cZ)⟩
abbrev spq9 (blocks : Int) (l : List Act) : LS := (29, .own 2 1 0 (List.length (replay (List.replicate (Int.toNat (List.length (((Ship.sailP blocks l).1).first) : Int)) (⟨#[]⟩ : ByteArray)) ((((Ship.sailP blocks l).1).log).take (Int.toNat (((Ship.sailP blocks l).1).applied)))))) :: (spq7 blocks l)
abbrev spq10 (blocks : Int) (l : List Act) : LS := (38, .lst 2 ((((Ship.sailP blocks l).1).log).map Record.cs)) :: (37, .ref 0 8 0 2) :: (36, .lst 2 ((((Ship.sailP blocks l).1).log).map Record.cs)) :: (35, .ref 0 8 0 2) :: (34, .own 1 1 0 (List.length (List.replicate (Int.toNat (List.length (((Ship.sailP blocks l).1).first) : Int)) (⟨#[]⟩ : ByteArray)))) :: (33, .lst 1 ((((Ship.sailP blocks l).1).first).map cZ)) :: (32, .ref 0 8 0 0) :: (31, .v (.bool true)) :: (30, .v (.bool true)) :: (spq9 blocks l)
abbrev spq11 (blocks : Int) (l : List Act) : LS := (39, VI (List.length (((Ship.sailP blocks l).1).log) : Int)) :: (spq10 blocks l)
abbrev spq12 (blocks : Int) (l : List Act) : OB := some ⟨1, ((replay (List.replicate (Int.toNat (List.length (((Ship.sailP blocks l).1).first) : Int)) (⟨#[]⟩ : ByteArray)) ((((Ship.sailP blocks l).1).log).take (Int.toNat (List.length (((Ship.sailP blocks l).1).log) : Int)))).map cZ)⟩
abbrev spq13 (blocks : Int) (l : List Act) : LB := [(spq2 blocks l), (spq5 blocks l), (spq8 blocks l), (spq12 blocks l)]
abbrev spq14 (blocks : Int) (l : List Act) : LS := (40, .own 3 1 0 (List.length (replay (List.replicate (Int.toNat (List.length (((Ship.sailP blocks l).1).first) : Int)) (⟨#[]⟩ : ByteArray)) ((((Ship.sailP blocks l).1).log).take (Int.toNat (List.length (((Ship.sailP blocks l).1).log) : Int)))))) :: (spq11 blocks l)
theorem shipPrefix_fn (blocks : Int) (l : List Act) (hl : l.length * 32 ≤ 140737488351232) : Fn Try.prog 5 [VI blocks, .lst 3 (l.map Act.cs)] (.v (.bool true)) := by
  refine fn_walkW F5_ok (of_decide_eq_true (by kernel_rfl)) ?_
  refine EL.sreg ?_
  refine OW.last 1 [0, 1] (x' := ⟨[(0, VI blocks), (1, .lst 3 (l.map Act.cs))], []⟩) (by kernel_rfl) (by kernel_rfl) ?_
  refine EL.sreg ?_
  refine OW.run 2 (x' := ⟨(spq0 l blocks), []⟩) (by kernel_rfl) ?_
  refine OW.fn (ar := [VI blocks, .lst 3 (l.map Act.cs)]) (x' := ⟨(11, .tup [(spq1 blocks l), .v (.bool ((Ship.sailP blocks l).2))]) :: (spq0 l blocks), []⟩) (by kernel_rfl) (by kernel_rfl) F21_call (sailed_fn blocks l (by omega)) (by kernel_rfl) (by kernel_rfl) ?_
  refine OW.last 6 [5, 6] (x' := ⟨[(6, .v (.bool ((Ship.sailP blocks l).2))), (5, .ref 0 8 0 0)], [(spq2 blocks l)]⟩) (by kernel_rfl) (by kernel_rfl) ?_
  refine EL.seq ?_
  refine EL.sreg ?_
  refine OW.fn (ar := []) (x' := ⟨[(14, .v (.bool true)), (6, .v (.bool ((Ship.sailP blocks l).2))), (5, .ref 0 8 0 0)], [(spq2 blocks l)]⟩) (by kernel_rfl) (by kernel_rfl) F15_call (begun_fn) (by kernel_rfl) (by kernel_rfl) ?_
  refine OW.last 1 [5, 6, 15] (x' := ⟨[(15, .v (.bool false)), (6, .v (.bool ((Ship.sailP blocks l).2))), (5, .ref 0 8 0 0)], [(spq2 blocks l)]⟩) (by kernel_rfl) (by kernel_rfl) ?_
  refine EL.condF (by kernel_rfl) ?_
  refine EL.skip ?_
  refine thenL_norm ?_
  refine EL.seq ?_
  refine EL.sreg ?_
  refine OW.last 2 [5, 17] (x' := ⟨[(17, .v (.bool (!((Ship.sailP blocks l).2)))), (5, .ref 0 8 0 0)], [(spq2 blocks l)]⟩) (by kernel_rfl) (by kernel_rfl) ?_
  rcases Bool.eq_false_or_eq_true ((Ship.sailP blocks l).2) with h1 | h1
  rw [h1]
  refine EL.condF (by kernel_rfl) ?_
  refine EL.skip ?_
  refine thenL_norm ?_
  refine EL.sreg ?_
  refine OW.run 2 (x' := ⟨(spq3 blocks l), [(spq2 blocks l)]⟩) (by kernel_rfl) ?_
  refine OW.ope (v := VI (List.length (((Ship.sailP blocks l).1).first) : Int)) (u := []) (acc := []) (x' := ⟨(spq4 blocks l), [(spq2 blocks l)]⟩) (by kernel_rfl) (opE_len cZ (((Ship.sailP blocks l).1).first) (.s 19) 1 (by kernel_rfl) (by kernel_rfl) (.inl rfl)) (by kernel_rfl) ?_
  refine OW.ope (v := .own 1 1 0 (List.length (List.replicate (Int.toNat (List.length (((Ship.sailP blocks l).1).first) : Int)) (⟨#[]⟩ : ByteArray)))) (u := [(1, some ⟨1, ((List.replicate (Int.toNat (List.length (((Ship.sailP blocks l).1).first) : Int)) (⟨#[]⟩ : ByteArray)).map cZ)⟩)]) (acc := []) (x' := ⟨(spq6 blocks l), [(spq2 blocks l), (spq5 blocks l)]⟩) (by kernel_rfl) (opE_msl cZ (⟨#[]⟩ : ByteArray) 1 16 [.v (.string (⟨#[]⟩))] (.s 20) (.s 20) .i64 .i64 (List.length (((Ship.sailP blocks l).1).first) : Int) (by kernel_rfl) (by kernel_rfl) rfl rfl (by kernel_rfl) ⟨by omega, by obtain ⟨m, hs⟩ := Ship.sail_sails (n := blocks) (l := l) (by assumption); have hok := hs.ok; have hk := hok.k; have hsm := hok.small; omega⟩) (by kernel_rfl) ?_
  refine OW.last 1 [5, 7] (x' := ⟨[(7, .own 1 1 0 (List.length (List.replicate (Int.toNat (List.length (((Ship.sailP blocks l).1).first) : Int)) (⟨#[]⟩ : ByteArray)))), (5, .ref 0 8 0 0)], [(spq2 blocks l), (spq5 blocks l)]⟩) (by kernel_rfl) (by kernel_rfl) ?_
  refine EL.sdraw ?_
  refine DW.run 7 (x' := ⟨(spq7 blocks l), [(spq2 blocks l), (spq5 blocks l)]⟩) (by kernel_rfl) ?_
  refine DW.fo (ar := [.own 1 1 0 (List.length (List.replicate (Int.toNat (List.length (((Ship.sailP blocks l).1).first) : Int)) (⟨#[]⟩ : ByteArray))), .lst 2 ((((Ship.sailP blocks l).1).log).map Record.cs), VI (((Ship.sailP blocks l).1).applied)]) (fe := cZ) (xs := (replay (List.replicate (Int.toNat (List.length (((Ship.sailP blocks l).1).first) : Int)) (⟨#[]⟩ : ByteArray)) ((((Ship.sailP blocks l).1).log).take (Int.toNat (((Ship.sailP blocks l).1).applied))))) (x' := ⟨(spq9 blocks l), [(spq2 blocks l), (spq5 blocks l), (spq8 blocks l)]⟩) (by kernel_rfl) (by kernel_rfl) F23_call (replayed_fo (List.replicate (Int.toNat (List.length (((Ship.sailP blocks l).1).first) : Int)) (⟨#[]⟩ : ByteArray)) (((Ship.sailP blocks l).1).log) (((Ship.sailP blocks l).1).applied) (by obtain ⟨m, hs⟩ := Ship.sail_sails (n := blocks) (l := l) (by assumption); have hok := hs.ok; have hk := hok.k; have hsm := hok.small; first | omega | (simp; omega))) (by intro y; kernel_rfl) (snapAs_cons (snapA_map cZ (List.replicate (Int.toNat (List.length (((Ship.sailP blocks l).1).first) : Int)) (⟨#[]⟩ : ByteArray)) (by kernel_rfl) (by intro y; kernel_rfl) (by simp)) (snapAs_cons (by kernel_rfl) (snapAs_cons (by kernel_rfl) (snapAs_nil)))) (by kernel_rfl) ?_
  refine DW.fn (ar := [.lst 1 ((((Ship.sailP blocks l).1).second).map cZ), .own 2 1 0 (List.length (replay (List.replicate (Int.toNat (List.length (((Ship.sailP blocks l).1).first) : Int)) (⟨#[]⟩ : ByteArray)) ((((Ship.sailP blocks l).1).log).take (Int.toNat (((Ship.sailP blocks l).1).applied)))))]) (x' := ⟨(30, .v (.bool (decide ((((Ship.sailP blocks l).1).second) = (replay (List.replicate (Int.toNat (List.length (((Ship.sailP blocks l).1).first) : Int)) (⟨#[]⟩ : ByteArray)) ((((Ship.sailP blocks l).1).log).take (Int.toNat (((Ship.sailP blocks l).1).applied)))))))) :: (spq9 blocks l), [(spq2 blocks l), (spq5 blocks l), (spq8 blocks l)]⟩) (by kernel_rfl) (by kernel_rfl) F22_call (sameTexts_fn (((Ship.sailP blocks l).1).second) (replay (List.replicate (Int.toNat (List.length (((Ship.sailP blocks l).1).first) : Int)) (⟨#[]⟩ : ByteArray)) ((((Ship.sailP blocks l).1).log).take (Int.toNat (((Ship.sailP blocks l).1).applied)))) (by first | omega | decide | exact (Ship.new_big _).2.1 | exact (Ship.new_big _).1 | exact (Ship.run_big _ _).2.1 | exact (Ship.run_big _ _).1 | exact (Ship.do_big _ _).2.1 | exact (Ship.do_big _ _).1 | exact (Ship.sail_big _ _).2.1 | exact (Ship.sail_big _ _).1 | (simp; omega))) (snapAs_cons (by kernel_rfl) (snapAs_cons (snapA_map cZ (replay (List.replicate (Int.toNat (List.length (((Ship.sailP blocks l).1).first) : Int)) (⟨#[]⟩ : ByteArray)) ((((Ship.sailP blocks l).1).log).take (Int.toNat (((Ship.sailP blocks l).1).applied)))) (by kernel_rfl) (by intro y; kernel_rfl) (by simp)) (snapAs_nil))) (by kernel_rfl) ?_
  refine DW.run 1 (x' := ⟨(31, .v (.bool (decide ((((Ship.sailP blocks l).1).second) = (replay (List.replicate (Int.toNat (List.length (((Ship.sailP blocks l).1).first) : Int)) (⟨#[]⟩ : ByteArray)) ((((Ship.sailP blocks l).1).log).take (Int.toNat (((Ship.sailP blocks l).1).applied)))))))) :: (30, .v (.bool (decide ((((Ship.sailP blocks l).1).second) = (replay (List.replicate (Int.toNat (List.length (((Ship.sailP blocks l).1).first) : Int)) (⟨#[]⟩ : ByteArray)) ((((Ship.sailP blocks l).1).log).take (Int.toNat (((Ship.sailP blocks l).1).applied)))))))) :: (spq9 blocks l), [(spq2 blocks l), (spq5 blocks l), (spq8 blocks l)]⟩) (by kernel_rfl) ?_
  rcases Bool.eq_false_or_eq_true (decide ((((Ship.sailP blocks l).1).second) = (replay (List.replicate (Int.toNat (List.length (((Ship.sailP blocks l).1).first) : Int)) (⟨#[]⟩ : ByteArray)) ((((Ship.sailP blocks l).1).log).take (Int.toNat (((Ship.sailP blocks l).1).applied)))))) with h2 | h2
  rw [h2]
  have g2 : ((((Ship.sailP blocks l).1).second) = (replay (List.replicate (Int.toNat (List.length (((Ship.sailP blocks l).1).first) : Int)) (⟨#[]⟩ : ByteArray)) ((((Ship.sailP blocks l).1).log).take (Int.toNat (((Ship.sailP blocks l).1).applied))))) := of_decide_eq_true h2
  refine DW.run 7 (x' := ⟨(spq10 blocks l), [(spq2 blocks l), (spq5 blocks l), (spq8 blocks l)]⟩) (by kernel_rfl) ?_
  refine DW.ope (v := VI (List.length (((Ship.sailP blocks l).1).log) : Int)) (u := []) (acc := []) (x' := ⟨(spq11 blocks l), [(spq2 blocks l), (spq5 blocks l), (spq8 blocks l)]⟩) (by kernel_rfl) (opE_len Record.cs (((Ship.sailP blocks l).1).log) (.s 38) 2 (by kernel_rfl) (by kernel_rfl) (.inl rfl)) (by kernel_rfl) ?_
  refine DW.fo (ar := [.own 1 1 0 (List.length (List.replicate (Int.toNat (List.length (((Ship.sailP blocks l).1).first) : Int)) (⟨#[]⟩ : ByteArray))), .lst 2 ((((Ship.sailP blocks l).1).log).map Record.cs), VI (List.length (((Ship.sailP blocks l).1).log) : Int)]) (fe := cZ) (xs := (replay (List.replicate (Int.toNat (List.length (((Ship.sailP blocks l).1).first) : Int)) (⟨#[]⟩ : ByteArray)) ((((Ship.sailP blocks l).1).log).take (Int.toNat (List.length (((Ship.sailP blocks l).1).log) : Int))))) (x' := ⟨(spq14 blocks l), (spq13 blocks l)⟩) (by kernel_rfl) (by kernel_rfl) F23_call (replayed_fo (List.replicate (Int.toNat (List.length (((Ship.sailP blocks l).1).first) : Int)) (⟨#[]⟩ : ByteArray)) (((Ship.sailP blocks l).1).log) (List.length (((Ship.sailP blocks l).1).log) : Int) (by obtain ⟨m, hs⟩ := Ship.sail_sails (n := blocks) (l := l) (by assumption); have hok := hs.ok; have hk := hok.k; have hsm := hok.small; first | omega | (simp; omega))) (by intro y; kernel_rfl) (snapAs_cons (snapA_map cZ (List.replicate (Int.toNat (List.length (((Ship.sailP blocks l).1).first) : Int)) (⟨#[]⟩ : ByteArray)) (by kernel_rfl) (by intro y; kernel_rfl) (by simp)) (snapAs_cons (by kernel_rfl) (snapAs_cons (by kernel_rfl) (snapAs_nil)))) (by kernel_rfl) ?_
  refine DW.fn (ar := [.lst 1 ((((Ship.sailP blocks l).1).first).map cZ), .own 3 1 0 (List.length (replay (List.replicate (Int.toNat (List.length (((Ship.sailP blocks l).1).first) : Int)) (⟨#[]⟩ : ByteArray)) ((((Ship.sailP blocks l).1).log).take (Int.toNat (List.length (((Ship.sailP blocks l).1).log) : Int)))))]) (x' := ⟨(41, .v (.bool (decide ((((Ship.sailP blocks l).1).first) = (replay (List.replicate (Int.toNat (List.length (((Ship.sailP blocks l).1).first) : Int)) (⟨#[]⟩ : ByteArray)) ((((Ship.sailP blocks l).1).log).take (Int.toNat (List.length (((Ship.sailP blocks l).1).log) : Int)))))))) :: (spq14 blocks l), (spq13 blocks l)⟩) (by kernel_rfl) (by kernel_rfl) F22_call (sameTexts_fn (((Ship.sailP blocks l).1).first) (replay (List.replicate (Int.toNat (List.length (((Ship.sailP blocks l).1).first) : Int)) (⟨#[]⟩ : ByteArray)) ((((Ship.sailP blocks l).1).log).take (Int.toNat (List.length (((Ship.sailP blocks l).1).log) : Int)))) (by first | omega | decide | exact (Ship.new_big _).2.1 | exact (Ship.new_big _).1 | exact (Ship.run_big _ _).2.1 | exact (Ship.run_big _ _).1 | exact (Ship.do_big _ _).2.1 | exact (Ship.do_big _ _).1 | exact (Ship.sail_big _ _).2.1 | exact (Ship.sail_big _ _).1 | (simp; omega))) (snapAs_cons (by kernel_rfl) (snapAs_cons (snapA_map cZ (replay (List.replicate (Int.toNat (List.length (((Ship.sailP blocks l).1).first) : Int)) (⟨#[]⟩ : ByteArray)) ((((Ship.sailP blocks l).1).log).take (Int.toNat (List.length (((Ship.sailP blocks l).1).log) : Int)))) (by kernel_rfl) (by intro y; kernel_rfl) (by simp)) (snapAs_nil))) (by kernel_rfl) ?_
  refine DW.last 2 [4] (x' := ⟨[(4, .v (.bool (decide ((((Ship.sailP blocks l).1).first) = (replay (List.replicate (Int.toNat (List.length (((Ship.sailP blocks l).1).first) : Int)) (⟨#[]⟩ : ByteArray)) ((((Ship.sailP blocks l).1).log).take (Int.toNat (List.length (((Ship.sailP blocks l).1).log) : Int))))))))], (spq13 blocks l)⟩) (by kernel_rfl) (by kernel_rfl) ?_
  refine EL.ret ?_
  refine ⟨.inr rfl, .v (.bool (decide ((((Ship.sailP blocks l).1).first) = (replay (List.replicate (Int.toNat (List.length (((Ship.sailP blocks l).1).first) : Int)) (⟨#[]⟩ : ByteArray)) ((((Ship.sailP blocks l).1).log).take (Int.toNat (List.length (((Ship.sailP blocks l).1).log) : Int))))))), by kernel_rfl, Ale.of_eq ?_⟩
  focus (first | rfl | (obtain ⟨m, hs⟩ := Ship.sail_sails (n := blocks) (l := l) (by assumption); have hok := hs.ok; have hk := hok.k; have hsm := hok.small; obtain ⟨h2, h1⟩ := hs.told; have e : List.take (Int.toNat ((List.length (Ship.sailP blocks l).1.log : Int))) (Ship.sailP blocks l).1.log = (Ship.sailP blocks l).1.log := List.take_of_length_le (by omega); have d2 := decide_eq_true h2; have d1 := decide_eq_true (h1.trans (congrArg _ e.symm)); first | exact congrArg (fun b => AV.v (Value.bool b)) d1 | exact congrArg (fun b => AV.v (Value.bool b)) d2 | (exact Bool.noConfusion ((‹_ = false›).symm.trans d2)) | (exact Bool.noConfusion ((‹_ = false›).symm.trans d1))))
  rw [h2]
  have g2 : ¬ ((((Ship.sailP blocks l).1).second) = (replay (List.replicate (Int.toNat (List.length (((Ship.sailP blocks l).1).first) : Int)) (⟨#[]⟩ : ByteArray)) ((((Ship.sailP blocks l).1).log).take (Int.toNat (((Ship.sailP blocks l).1).applied))))) := of_decide_eq_false h2
  refine DW.last 12 [4] (x' := ⟨[(4, .v (.bool false))], [(spq2 blocks l), (spq5 blocks l), (spq8 blocks l)]⟩) (by kernel_rfl) (by kernel_rfl) ?_
  refine EL.ret ?_
  refine ⟨.inr rfl, .v (.bool false), by kernel_rfl, Ale.of_eq ?_⟩
  focus (first | rfl | (obtain ⟨m, hs⟩ := Ship.sail_sails (n := blocks) (l := l) (by assumption); have hok := hs.ok; have hk := hok.k; have hsm := hok.small; obtain ⟨h2, h1⟩ := hs.told; have e : List.take (Int.toNat ((List.length (Ship.sailP blocks l).1.log : Int))) (Ship.sailP blocks l).1.log = (Ship.sailP blocks l).1.log := List.take_of_length_le (by omega); have d2 := decide_eq_true h2; have d1 := decide_eq_true (h1.trans (congrArg _ e.symm)); first | exact congrArg (fun b => AV.v (Value.bool b)) d1 | exact congrArg (fun b => AV.v (Value.bool b)) d2 | (exact Bool.noConfusion ((‹_ = false›).symm.trans d2)) | (exact Bool.noConfusion ((‹_ = false›).symm.trans d1))))
  rw [h1]
  refine EL.condT (by kernel_rfl) ?_
  refine EL.sreg ?_
  refine OW.last 1 [4] (x' := ⟨[(4, .v (.bool true))], [(spq2 blocks l)]⟩) (by kernel_rfl) (by kernel_rfl) ?_
  refine EL.ret ?_
  refine thenL_ret ?_
  refine ⟨.inr rfl, .v (.bool true), by kernel_rfl, Ale.of_eq ?_⟩
  focus (first | rfl | (obtain ⟨m, hs⟩ := Ship.sail_sails (n := blocks) (l := l) (by assumption); have hok := hs.ok; have hk := hok.k; have hsm := hok.small; obtain ⟨h2, h1⟩ := hs.told; have e : List.take (Int.toNat ((List.length (Ship.sailP blocks l).1.log : Int))) (Ship.sailP blocks l).1.log = (Ship.sailP blocks l).1.log := List.take_of_length_le (by omega); have d2 := decide_eq_true h2; have d1 := decide_eq_true (h1.trans (congrArg _ e.symm)); first | exact congrArg (fun b => AV.v (Value.bool b)) d1 | exact congrArg (fun b => AV.v (Value.bool b)) d2 | (exact Bool.noConfusion ((‹_ = false›).symm.trans d2)) | (exact Bool.noConfusion ((‹_ = false›).symm.trans d1))))
theorem ShipPrefix_walk {w : World} (blocks : Int) (_wblocks : (Lit.int .i64 blocks).wf = true) (l : List Act) (Al : Option Addr) (nl cl : Nat) (rl : GoT.rep w w.heap.size [.slice Al nl cl] l) (zl : nl * 32 ≤ 140737488351232) : Calls Try.prog 5 #[I blocks, .slice Al nl cl] w fun e w' => e = .returned (.bool true) ∧ Below w.heap.size w w' := by
  have ll := rep_len rl
  exact fn_law (vs := [I blocks, .slice Al nl cl]) (shipPrefix_fn blocks l (by first | assumption | omega)) (.cons (.v rfl) (.cons (rep_list (fun x : Act => [I x.kind, I x.n, .string x.data]) _ Act.flat (fun _ => rfl) (by intro x v hv; simp at hv; rcases hv with rfl | rfl | rfl <;> exact ⟨rfl, rfl⟩) rl) (.nil)))
theorem ShipPrefix_own : ownKnob Try.prog.godebug = none := by kernel_rfl
theorem ShipPrefix_laidOut : laidOutB Try.prog = true := by kernel_rfl
set_option maxRecDepth 100000 in
set_option linter.unusedVariables false in
theorem ShipPrefix_lifted (os : Os) (started : os.Started) (H : Type) (enc : TypeId × Value → H) :
    ReturnsInHanded {} Try.checked os 5 .any (Rows.shipPrefixSpec.pre6 enc Try.prog Try.f5 Rows.shipPrefixRow.domain false) (Rows.shipPrefixSpec.post enc Try.prog Try.f5 false true false false) := by
  refine returnsInHanded_of_change_sized (C := Try.checked) ShipPrefix_own started (by kernel_rfl) Try.func5
    (ChangeSpec.witness6 (enc := enc) (C := Try.checked) false ⟨#[], #[.int .i64 0, .slice none 0 0], []⟩ 8 (by kernel_rfl) (by kernel_rfl) (by kernel_rfl) (by kernel_rfl)) ?_
  intro W base args ds gs before hval0 hW hcnd hsz _
  have hval : ∀ (j : Nat) t v, Try.f5.params[j]? = some t → args[j]? = some v → Value.okWide Try.prog W .any base t v := hval0
  have hW' := hW
  obtain ⟨p, q, hA0, hV, rfl, hfz, hnd⟩ := hW
  have hA : DataW.TrodAll enc Try.prog W 0 (fun _ => true) true Try.f5.params.toList args.toList ds p := hA0
  rw [Try.params5] at hA hval hsz
  obtain ⟨v0, vs0, d0, ds0, p0, q0, hargs, rfl, rfl, h0, r0⟩ := trodAll_cons hA
  obtain ⟨v1, vs1, d1, ds1, p1, q1, rfl, rfl, rfl, h1, r1⟩ := trodAll_cons r0
  obtain ⟨rfl, rfl, rfl⟩ := trodAll_nil r1
  obtain rfl : args = #[v0, v1] := by cases args; simp_all
  obtain ⟨rfl, rfl⟩ := trodVars_none hV
  have k0 := h0
  have lt0 : ∀ x ∈ p0, x.block < W.heap.size := by obtain ⟨m, hm⟩ := k0; exact DataW.trod_lt m _ _ _ hm
  obtain ⟨a0, rfl, e0, e0', w0⟩ := open_int Try.underlying3 (hval 0 3 v0 rfl rfl) h0
  have k1 := h1
  have lt1 : ∀ x ∈ p1, x.block < W.heap.size := by obtain ⟨m, hm⟩ := k1; exact DataW.trod_lt m _ _ _ hm
  obtain ⟨x1, A1, n1, c1, rfl, w1⟩ := open_list opens_LAct Try.underlying37 (hval 1 37 v1 rfl rfl) h1
  have sz1 := sized_list hsz 1 rfl rfl Try.underlying37 h1 32 (by kernel_rfl)
  clear hA0 hval0
  refine (ShipPrefix_walk (w := W) a0 w0 x1 A1 n1 c1 w1 sz1).mono fun e W' ⟨he, bel⟩ => ?_
  subst he
  exact ⟨_, rfl, _, _, _, [], _, [], hW', trodAll_mk1 (shut_bool Try.underlying4 _), (trodAll_cons_mk (Below.trod ShipPrefix_laidOut (by kernel_rfl) (of_decide_eq_true (by kernel_rfl)) k0 bel lt0) (trodAll_cons_mk (Below.trod ShipPrefix_laidOut (by kernel_rfl) (of_decide_eq_true (by kernel_rfl)) k1 bel lt1) trodAll_mk0)), rfl, bel.frame _, fun h => by cases h⟩
set_option maxRecDepth 100000 in
set_option maxHeartbeats 4000000 in
theorem ShipPrefix_closed : joinedFacts Try.prog 5 Try.f5 Rows.shipPrefixSpec Rows.shipPrefixRow = true := by
  unfold joinedFacts
  repeat' (with_reducible refine and_tt ?_ ?_)
  all_goals as_aux_lemma => kernel_rfl
theorem ShipPrefix_over : Rows.shipPrefixRow.holds Try.pinned (OpenSpec.ofChange Rows.shipPrefixSpec) :=
  OpenClaim.holds_of_wide 5 Try.f5 rfl rfl rfl rfl rfl rfl rfl ⟨rfl, rfl, rfl, rfl, rfl⟩ rfl rfl rfl rfl rfl (by as_aux_lemma => kernel_rfl) Try.func5 ShipPrefix_closed
    (of_decide_eq_true (by as_aux_lemma => kernel_rfl)) (by unfold Func.isWrapper; rw [if_neg (of_decide_eq_false (by as_aux_lemma => kernel_rfl))]; exact ⟨rfl, rfl⟩)
    (fun os started H enc _ => ShipPrefix_lifted os started H enc)
theorem ShipPrefix_holds : Rows.ShipPrefixSaid := ShipPrefix_over
end Go.Proofs.Ythdcanpbgaaneaa
