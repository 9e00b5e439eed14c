/- Who promised does not keep what is below: the law SeatPromise returns true. No condition. -/
import Derived.Test.YtejilglnpdjepaaDoorPSeatM
import Derived.Test.YtejilglnpdjepaaDoorPSeatL
import Derived.WalkKit
import Derived.Handy
import Derived.ProofKit
import Derived.OpenShut
import Derived.ShutString
import Derived.ChangeOld
import Derived.Below
import Derived.Lib.Hide
import Derived.WalkLawsBesides
import Derived.WalkSpells
import Derived.Deep.QuietTactic
import Derived.BigQuiet
import Derived.Outline
import Derived.SevenTiedAt
namespace Go.Proofs.YtejilglnpdjepaaDoor
set_option linter.unusedSimpArgs false
set_option linter.unusedVariables false
open Go.ChangeShapes Go.WideShapes Go.ChangeAt Go.RowKit
open Go.ChangeMaps (open_string shut_string)
set_option maxRecDepth 100000
set_option maxHeartbeats 4000000
abbrev spq0 (s : Seat) : OB := some ⟨5, [[VI s.promised.time, VI s.promised.who, VI s.kept.at_.time, VI s.kept.at_.who, .v (.string s.kept.data)]]⟩
abbrev spq1 (v : Vote) : OB := some ⟨6, [[VI v.kind, VI v.bid, VI v.node, VI v.copy.at_.time, VI v.copy.at_.who, .v (.string v.copy.data)]]⟩
abbrev spq2 (other : Vote) : OB := some ⟨6, [[VI other.kind, VI other.bid, VI other.node, VI other.copy.at_.time, VI other.copy.at_.who, .v (.string other.copy.data)]]⟩
abbrev spq3 : LS := [(5, .ref 2 6 0 0), (4, .ref 1 6 0 0), (3, .ref 0 5 0 0)]
abbrev spq4 (v : Vote) : AV := .agg [VI v.kind, VI v.bid, VI v.node, VI v.copy.at_.time, VI v.copy.at_.who, .v (.string v.copy.data)]
abbrev spq5 (s : Seat) : AV := .agg [VI s.promised.time, VI s.promised.who, VI s.kept.at_.time, VI s.kept.at_.who, .v (.string s.kept.data)]
abbrev spq6 (s : Seat) (v : Vote) : AV := .agg [VI ((((s.serveP v).1).promised).time), VI ((((s.serveP v).1).promised).who), VI (((((s.serveP v).1).kept).at_).time), VI (((((s.serveP v).1).kept).at_).who), .v (.string ((((s.serveP v).1).kept).data))]
abbrev spq7 (s : Seat) (v : Vote) : LS := (16, .tup [(spq6 s v), .lst 6 (((s.serveP v).2.1).map Vote.cs), VI ((s.serveP v).2.2)]) :: (15, (spq4 v)) :: (14, (spq5 s)) :: spq3
abbrev spq8 (s : Seat) (v : Vote) : OB := some ⟨5, [[VI ((((s.serveP v).1).promised).time), VI ((((s.serveP v).1).promised).who), VI (((((s.serveP v).1).kept).at_).time), VI (((((s.serveP v).1).kept).at_).who), .v (.string ((((s.serveP v).1).kept).data))]]⟩
abbrev spq9 (s : Seat) (v : Vote) : LS := [(9, VI ((s.serveP v).2.2)), (8, .lst 6 (((s.serveP v).2.1).map Vote.cs)), (7, .ref 3 5 0 0), (5, .ref 2 6 0 0), (4, .ref 1 6 0 0)]
abbrev spq10 (s : Seat) (v : Vote) : LS := (22, VI ((s.serveP v).2.2)) :: (21, .v (.bool false)) :: (spq9 s v)
abbrev spq11 : LS := [(35, .v (.bool true)), (7, .ref 3 5 0 0), (5, .ref 2 6 0 0), (4, .ref 1 6 0 0)]
abbrev spq12 (s : Seat) (v : Vote) : LS := (25, .lst 6 (((s.serveP v).2.1).map Vote.cs)) :: (24, .v (.bool false)) :: (23, .v (.bool false)) :: (spq10 s v)
abbrev spq13 (s : Seat) (v : Vote) : LS := (26, VI (List.length ((s.serveP v).2.1) : Int)) :: (spq12 s v)
abbrev spq14 (s : Seat) (v : Vote) : LS := (30, .lst 6 (((s.serveP v).2.1).map Vote.cs)) :: (29, .v (.bool false)) :: (28, .v (.bool false)) :: (27, .v (.bool false)) :: (spq13 s v)
abbrev spq15 (a4 : Vote) (s : Seat) (v : Vote) : LS := (31, .pim [VI a4.kind, VI a4.bid, VI a4.node, VI a4.copy.at_.time, VI a4.copy.at_.who, .v (.string a4.copy.data)] 0) :: (spq14 s v)
abbrev spq16 : LS := [(7, .ref 3 5 0 0), (5, .ref 2 6 0 0), (4, .ref 1 6 0 0)]
abbrev spq17 (other : Vote) : AV := .agg [VI other.kind, VI other.bid, VI other.node, VI other.copy.at_.time, VI other.copy.at_.who, .v (.string other.copy.data)]
abbrev spq18 (other : Vote) (s : Seat) (v : Vote) : LS := (38, (spq17 other)) :: (37, (spq6 s v)) :: (35, .v (.bool false)) :: spq16
abbrev spq19 (s : Seat) (v : Vote) (other : Vote) : AV := .agg [VI (((((⟨(((s.serveP v).1).promised), (⟨((((s.serveP v).1).kept).at_), (((s.serveP v).1).kept).data⟩ : Copy)⟩ : Seat).serveP other).1).promised).time), VI (((((⟨(((s.serveP v).1).promised), (⟨((((s.serveP v).1).kept).at_), (((s.serveP v).1).kept).data⟩ : Copy)⟩ : Seat).serveP other).1).promised).who), VI ((((((⟨(((s.serveP v).1).promised), (⟨((((s.serveP v).1).kept).at_), (((s.serveP v).1).kept).data⟩ : Copy)⟩ : Seat).serveP other).1).kept).at_).time), VI ((((((⟨(((s.serveP v).1).promised), (⟨((((s.serveP v).1).kept).at_), (((s.serveP v).1).kept).data⟩ : Copy)⟩ : Seat).serveP other).1).kept).at_).who), .v (.string (((((⟨(((s.serveP v).1).promised), (⟨((((s.serveP v).1).kept).at_), (((s.serveP v).1).kept).data⟩ : Copy)⟩ : Seat).serveP other).1).kept).data))]
abbrev spq20 (s : Seat) (v : Vote) (other : Vote) : LS := (39, .tup [(spq19 s v other), .lst 6 ((((⟨(((s.serveP v).1).promised), (⟨((((s.serveP v).1).kept).at_), (((s.serveP v).1).kept).data⟩ : Copy)⟩ : Seat).serveP other).2.1).map Vote.cs), VI (((⟨(((s.serveP v).1).promised), (⟨((((s.serveP v).1).kept).at_), (((s.serveP v).1).kept).data⟩ : Copy)⟩ : Seat).serveP other).2.2)]) :: (spq18 other s v)
abbrev spq21 (s : Seat) (v : Vote) (other : Vote) : OB := some ⟨5, [[VI (((((⟨(((s.serveP v).1).promised), (⟨((((s.serveP v).1).kept).at_), (((s.serveP v).1).kept).data⟩ : Copy)⟩ : Seat).serveP other).1).promised).time), VI (((((⟨(((s.serveP v).1).promised), (⟨((((s.serveP v).1).kept).at_), (((s.serveP v).1).kept).data⟩ : Copy)⟩ : Seat).serveP other).1).promised).who), VI ((((((⟨(((s.serveP v).1).promised), (⟨((((s.serveP v).1).kept).at_), (((s.serveP v).1).kept).data⟩ : Copy)⟩ : Seat).serveP other).1).kept).at_).time), VI ((((((⟨(((s.serveP v).1).promised), (⟨((((s.serveP v).1).kept).at_), (((s.serveP v).1).kept).data⟩ : Copy)⟩ : Seat).serveP other).1).kept).at_).who), .v (.string (((((⟨(((s.serveP v).1).promised), (⟨((((s.serveP v).1).kept).at_), (((s.serveP v).1).kept).data⟩ : Copy)⟩ : Seat).serveP other).1).kept).data))]]⟩
abbrev spq22 (s : Seat) (v : Vote) (other : Vote) : LB := [(spq0 s), (spq1 v), (spq2 other), (spq8 s v), (spq21 s v other)]
abbrev spq23 (s : Seat) (v : Vote) (other : Vote) : LS := (12, VI (((⟨(((s.serveP v).1).promised), (⟨((((s.serveP v).1).kept).at_), (((s.serveP v).1).kept).data⟩ : Copy)⟩ : Seat).serveP other).2.2)) :: (11, .lst 6 ((((⟨(((s.serveP v).1).promised), (⟨((((s.serveP v).1).kept).at_), (((s.serveP v).1).kept).data⟩ : Copy)⟩ : Seat).serveP other).2.1).map Vote.cs)) :: (10, .ref 4 5 0 0) :: spq16
abbrev spq24 (s : Seat) (v : Vote) (other : Vote) : LS := (43, VI (((⟨(((s.serveP v).1).promised), (⟨((((s.serveP v).1).kept).at_), (((s.serveP v).1).kept).data⟩ : Copy)⟩ : Seat).serveP other).2.2)) :: (spq23 s v other)
abbrev spq25 (s : Seat) (v : Vote) (other : Vote) : LS := [(54, .v (.bool true)), (11, .lst 6 ((((⟨(((s.serveP v).1).promised), (⟨((((s.serveP v).1).kept).at_), (((s.serveP v).1).kept).data⟩ : Copy)⟩ : Seat).serveP other).2.1).map Vote.cs)), (10, .ref 4 5 0 0), (7, .ref 3 5 0 0)]
abbrev spq26 (v : Vote) (other : Vote) (s : Seat) : LS := (51, .agg [VI v.copy.at_.time, VI v.copy.at_.who]) :: (50, .ref 1 6 0 3) :: (49, .ref 1 6 0 3) :: (48, .agg [VI other.copy.at_.time, VI other.copy.at_.who]) :: (47, .ref 2 6 0 3) :: (46, .ref 2 6 0 3) :: (45, .v (.bool false)) :: (44, .v (.bool false)) :: (spq24 s v other)
abbrev spq27 (s : Seat) (v : Vote) (other : Vote) : LS := [(11, .lst 6 ((((⟨(((s.serveP v).1).promised), (⟨((((s.serveP v).1).kept).at_), (((s.serveP v).1).kept).data⟩ : Copy)⟩ : Seat).serveP other).2.1).map Vote.cs)), (10, .ref 4 5 0 0), (7, .ref 3 5 0 0)]
abbrev spq28 (s : Seat) (v : Vote) (other : Vote) : LS := (56, (spq6 s v)) :: (55, (spq19 s v other)) :: (54, .v (.bool false)) :: (spq27 s v other)
abbrev spq29 (s : Seat) (v : Vote) (other : Vote) : LS := (59, .lst 6 ((((⟨(((s.serveP v).1).promised), (⟨((((s.serveP v).1).kept).at_), (((s.serveP v).1).kept).data⟩ : Copy)⟩ : Seat).serveP other).2.1).map Vote.cs)) :: (58, .v (.bool true)) :: (57, .v (.bool true)) :: (spq28 s v other)
abbrev spq30 (s : Seat) (v : Vote) (other : Vote) : LS := (60, VI (List.length (((⟨(((s.serveP v).1).promised), (⟨((((s.serveP v).1).kept).at_), (((s.serveP v).1).kept).data⟩ : Copy)⟩ : Seat).serveP other).2.1) : Int)) :: (spq29 s v other)
theorem seatPromise_fn (s : Seat) (v : Vote) (other : Vote) : Fn Tryd.prog 6 [.agg [VI s.promised.time, VI s.promised.who, VI s.kept.at_.time, VI s.kept.at_.who, .v (.string s.kept.data)], .agg [VI v.kind, VI v.bid, VI v.node, VI v.copy.at_.time, VI v.copy.at_.who, .v (.string v.copy.data)], .agg [VI other.kind, VI other.bid, VI other.node, VI other.copy.at_.time, VI other.copy.at_.who, .v (.string other.copy.data)]] (.v (.bool true)) := by
  refine fn_walkW F6_ok (of_decide_eq_true (by kernel_rfl)) ?_
  refine EL.sreg ?_
  refine OW.last 4 [3, 4, 5] (x' := ⟨spq3, [(spq0 s), (spq1 v), (spq2 other)]⟩) (by kernel_rfl) (by kernel_rfl) ?_
  refine EL.sreg ?_
  refine OW.run 2 (x' := ⟨(15, (spq4 v)) :: (14, (spq5 s)) :: spq3, [(spq0 s), (spq1 v), (spq2 other)]⟩) (by kernel_rfl) ?_
  refine OW.fn (ar := [(spq5 s), (spq4 v)]) (x' := ⟨(spq7 s v), [(spq0 s), (spq1 v), (spq2 other)]⟩) (by kernel_rfl) (by kernel_rfl) F8_call (serve_fn s v) (by kernel_rfl) (by kernel_rfl) ?_
  refine OW.last 8 [4, 5, 7, 8, 9] (x' := ⟨(spq9 s v), [(spq0 s), (spq1 v), (spq2 other), (spq8 s v)]⟩) (by kernel_rfl) (by kernel_rfl) ?_
  refine EL.seq ?_
  refine EL.sreg ?_
  refine OW.fn (ar := []) (x' := ⟨(20, .v (.bool true)) :: (spq9 s v), [(spq0 s), (spq1 v), (spq2 other), (spq8 s v)]⟩) (by kernel_rfl) (by kernel_rfl) F10_call (begun_fn) (by kernel_rfl) (by kernel_rfl) ?_
  refine OW.last 1 [4, 5, 7, 8, 9, 21] (x' := ⟨(21, .v (.bool false)) :: (spq9 s v), [(spq0 s), (spq1 v), (spq2 other), (spq8 s v)]⟩) (by kernel_rfl) (by kernel_rfl) ?_
  refine EL.condF (by kernel_rfl) ?_
  refine EL.skip ?_
  refine thenL_norm ?_
  refine EL.seq ?_
  refine EL.sreg ?_
  refine OW.run 3 (x' := ⟨(24, .v (.bool (((s.serveP v).2.2) != 0))) :: (23, .v (.bool (((s.serveP v).2.2) != 0))) :: (spq10 s v), [(spq0 s), (spq1 v), (spq2 other), (spq8 s v)]⟩) (by kernel_rfl) ?_
  rcases Bool.eq_false_or_eq_true ((((s.serveP v).2.2) != 0)) with h1 | h1
  rw [h1]
  have g1 : ¬ (((s.serveP v).2.2) = 0) := by simpa using h1
  refine OW.last 11 [4, 5, 7, 35] (x' := ⟨spq11, [(spq0 s), (spq1 v), (spq2 other), (spq8 s v)]⟩) (by kernel_rfl) (by kernel_rfl) ?_
  refine EL.condT (by kernel_rfl) ?_
  refine EL.sreg ?_
  refine OW.last 1 [6] (x' := ⟨[(6, .v (.bool true))], [(spq0 s), (spq1 v), (spq2 other), (spq8 s v)]⟩) (by kernel_rfl) (by kernel_rfl) ?_
  refine EL.ret ?_
  refine thenL_ret ?_
  refine ⟨.inr rfl, .v (.bool true), by kernel_rfl, Ale.of_eq ?_⟩
  focus (first | rfl | (have e : (⟨(s.serveP v).1.promised, ⟨(s.serveP v).1.kept.at_, (s.serveP v).1.kept.data⟩⟩ : Seat) = (s.serveP v).1 := rfl; simp only [e] at *; have hp := serve_promise (s := s) (v := v) (other := other) (by assumption) (by assumption) (by assumption) (by simp_all) (by assumption); first | (rw [hp]; rfl) | (exfalso; rw [hp] at h8; simp [strEq] at h8; done)))
  rw [h1]
  have g1 : (((s.serveP v).2.2) = 0) := by simpa using h1
  refine OW.run 1 (x' := ⟨(spq12 s v), [(spq0 s), (spq1 v), (spq2 other), (spq8 s v)]⟩) (by kernel_rfl) ?_
  refine OW.ope (v := VI (List.length ((s.serveP v).2.1) : Int)) (u := []) (acc := []) (x' := ⟨(spq13 s v), [(spq0 s), (spq1 v), (spq2 other), (spq8 s v)]⟩) (by kernel_rfl) (opE_len Vote.cs ((s.serveP v).2.1) (.s 25) 6 (by kernel_rfl) (by kernel_rfl) (.inl rfl)) (by kernel_rfl) ?_
  refine OW.run 3 (x' := ⟨(29, .v (.bool ((List.length ((s.serveP v).2.1) : Int) == 0))) :: (28, .v (.bool ((List.length ((s.serveP v).2.1) : Int) == 0))) :: (27, .v (.bool ((List.length ((s.serveP v).2.1) : Int) == 0))) :: (spq13 s v), [(spq0 s), (spq1 v), (spq2 other), (spq8 s v)]⟩) (by kernel_rfl) ?_
  rcases Bool.eq_false_or_eq_true (((List.length ((s.serveP v).2.1) : Int) == 0)) with h2 | h2
  rw [h2]
  have g2 : ((List.length ((s.serveP v).2.1) : Int) = 0) := by simpa using h2
  have n2 : ((List.length ((s.serveP v).2.1)) = 0) := by omega
  refine OW.last 6 [4, 5, 7, 35] (x' := ⟨spq11, [(spq0 s), (spq1 v), (spq2 other), (spq8 s v)]⟩) (by kernel_rfl) (by kernel_rfl) ?_
  refine EL.condT (by kernel_rfl) ?_
  refine EL.sreg ?_
  refine OW.last 1 [6] (x' := ⟨[(6, .v (.bool true))], [(spq0 s), (spq1 v), (spq2 other), (spq8 s v)]⟩) (by kernel_rfl) (by kernel_rfl) ?_
  refine EL.ret ?_
  refine thenL_ret ?_
  refine ⟨.inr rfl, .v (.bool true), by kernel_rfl, Ale.of_eq ?_⟩
  focus (first | rfl | (have e : (⟨(s.serveP v).1.promised, ⟨(s.serveP v).1.kept.at_, (s.serveP v).1.kept.data⟩⟩ : Seat) = (s.serveP v).1 := rfl; simp only [e] at *; have hp := serve_promise (s := s) (v := v) (other := other) (by assumption) (by assumption) (by assumption) (by simp_all) (by assumption); first | (rw [hp]; rfl) | (exfalso; rw [hp] at h8; simp [strEq] at h8; done)))
  rw [h2]
  have g2 : ¬ ((List.length ((s.serveP v).2.1) : Int) = 0) := by simpa using h2
  have n2 : ¬ ((List.length ((s.serveP v).2.1)) = 0) := by omega
  refine OW.run 1 (x' := ⟨(spq14 s v), [(spq0 s), (spq1 v), (spq2 other), (spq8 s v)]⟩) (by kernel_rfl) ?_
  obtain ⟨a4, ha4⟩ : ∃ y, ((s.serveP v).2.1)[(0 : Int).toNat]? = some y := idx_ex ⟨by omega, by omega⟩
  refine OW.ope (v := .pim [VI a4.kind, VI a4.bid, VI a4.node, VI a4.copy.at_.time, VI a4.copy.at_.who, .v (.string a4.copy.data)] 0) (u := []) (acc := []) (x' := ⟨(spq15 a4 s v), [(spq0 s), (spq1 v), (spq2 other), (spq8 s v)]⟩) (by kernel_rfl) (opE_iad Vote.cs ((s.serveP v).2.1) (.s 30) (.c (VI 0)) 6 .i64 0 a4 (by kernel_rfl) (by kernel_rfl) (.inl rfl) rfl (by omega) ha4) (by kernel_rfl) ?_
  refine OW.last 4 [4, 5, 7, 35] (x' := ⟨(35, .v (.bool (a4.kind != 2))) :: spq16, [(spq0 s), (spq1 v), (spq2 other), (spq8 s v)]⟩) (by kernel_rfl) (by kernel_rfl) ?_
  rcases Bool.eq_false_or_eq_true ((a4.kind != 2)) with h5 | h5
  rw [h5]
  have g5 : ¬ (a4.kind = 2) := by simpa using h5
  refine EL.condT (by kernel_rfl) ?_
  refine EL.sreg ?_
  refine OW.last 1 [6] (x' := ⟨[(6, .v (.bool true))], [(spq0 s), (spq1 v), (spq2 other), (spq8 s v)]⟩) (by kernel_rfl) (by kernel_rfl) ?_
  refine EL.ret ?_
  refine thenL_ret ?_
  refine ⟨.inr rfl, .v (.bool true), by kernel_rfl, Ale.of_eq ?_⟩
  focus (first | rfl | (have e : (⟨(s.serveP v).1.promised, ⟨(s.serveP v).1.kept.at_, (s.serveP v).1.kept.data⟩⟩ : Seat) = (s.serveP v).1 := rfl; simp only [e] at *; have hp := serve_promise (s := s) (v := v) (other := other) (by assumption) (by assumption) (by assumption) (by simp_all) (by assumption); first | (rw [hp]; rfl) | (exfalso; rw [hp] at h8; simp [strEq] at h8; done)))
  rw [h5]
  have g5 : (a4.kind = 2) := by simpa using h5
  refine EL.condF (by kernel_rfl) ?_
  refine EL.skip ?_
  refine thenL_norm ?_
  refine EL.sreg ?_
  refine OW.run 2 (x' := ⟨(spq18 other s v), [(spq0 s), (spq1 v), (spq2 other), (spq8 s v)]⟩) (by kernel_rfl) ?_
  refine OW.fn (ar := [(spq6 s v), (spq17 other)]) (x' := ⟨(spq20 s v other), [(spq0 s), (spq1 v), (spq2 other), (spq8 s v)]⟩) (by kernel_rfl) (by kernel_rfl) F8_call (serve_fn (⟨(((s.serveP v).1).promised), (⟨((((s.serveP v).1).kept).at_), (((s.serveP v).1).kept).data⟩ : Copy)⟩ : Seat) other) (by kernel_rfl) (by kernel_rfl) ?_
  refine OW.last 8 [4, 5, 7, 10, 11, 12] (x' := ⟨(spq23 s v other), (spq22 s v other)⟩) (by kernel_rfl) (by kernel_rfl) ?_
  refine EL.seq ?_
  refine EL.sreg ?_
  refine OW.run 3 (x' := ⟨(45, .v (.bool ((((⟨(((s.serveP v).1).promised), (⟨((((s.serveP v).1).kept).at_), (((s.serveP v).1).kept).data⟩ : Copy)⟩ : Seat).serveP other).2.2) != 0))) :: (44, .v (.bool ((((⟨(((s.serveP v).1).promised), (⟨((((s.serveP v).1).kept).at_), (((s.serveP v).1).kept).data⟩ : Copy)⟩ : Seat).serveP other).2.2) != 0))) :: (spq24 s v other), (spq22 s v other)⟩) (by kernel_rfl) ?_
  rcases Bool.eq_false_or_eq_true (((((⟨(((s.serveP v).1).promised), (⟨((((s.serveP v).1).kept).at_), (((s.serveP v).1).kept).data⟩ : Copy)⟩ : Seat).serveP other).2.2) != 0)) with h6 | h6
  rw [h6]
  have g6 : ¬ ((((⟨(((s.serveP v).1).promised), (⟨((((s.serveP v).1).kept).at_), (((s.serveP v).1).kept).data⟩ : Copy)⟩ : Seat).serveP other).2.2) = 0) := by simpa using h6
  refine OW.last 9 [7, 10, 11, 54] (x' := ⟨(spq25 s v other), (spq22 s v other)⟩) (by kernel_rfl) (by kernel_rfl) ?_
  refine EL.condT (by kernel_rfl) ?_
  refine EL.sreg ?_
  refine OW.last 1 [6] (x' := ⟨[(6, .v (.bool true))], (spq22 s v other)⟩) (by kernel_rfl) (by kernel_rfl) ?_
  refine EL.ret ?_
  refine thenL_ret ?_
  refine ⟨.inr rfl, .v (.bool true), by kernel_rfl, Ale.of_eq ?_⟩
  focus (first | rfl | (have e : (⟨(s.serveP v).1.promised, ⟨(s.serveP v).1.kept.at_, (s.serveP v).1.kept.data⟩⟩ : Seat) = (s.serveP v).1 := rfl; simp only [e] at *; have hp := serve_promise (s := s) (v := v) (other := other) (by assumption) (by assumption) (by assumption) (by simp_all) (by assumption); first | (rw [hp]; rfl) | (exfalso; rw [hp] at h8; simp [strEq] at h8; done)))
  rw [h6]
  have g6 : ((((⟨(((s.serveP v).1).promised), (⟨((((s.serveP v).1).kept).at_), (((s.serveP v).1).kept).data⟩ : Copy)⟩ : Seat).serveP other).2.2) = 0) := by simpa using h6
  refine OW.run 6 (x' := ⟨(spq26 v other s), (spq22 s v other)⟩) (by kernel_rfl) ?_
  refine OW.fn (ar := [.agg [VI other.copy.at_.time, VI other.copy.at_.who], .agg [VI v.copy.at_.time, VI v.copy.at_.who]]) (x' := ⟨(52, .v (.bool (decide (other.copy.at_.lt v.copy.at_)))) :: (spq26 v other s), (spq22 s v other)⟩) (by kernel_rfl) (by kernel_rfl) F22_call (less_fn other.copy.at_ v.copy.at_) (by kernel_rfl) (by kernel_rfl) ?_
  refine OW.last 2 [7, 10, 11, 54] (x' := ⟨(54, .v (.bool (!(decide (other.copy.at_.lt v.copy.at_))))) :: (spq27 s v other), (spq22 s v other)⟩) (by kernel_rfl) (by kernel_rfl) ?_
  rcases Bool.eq_false_or_eq_true (decide (other.copy.at_.lt v.copy.at_)) with h7 | h7
  rw [h7]
  have g7 : (other.copy.at_.lt v.copy.at_) := of_decide_eq_true h7
  refine EL.condF (by kernel_rfl) ?_
  refine EL.skip ?_
  refine thenL_norm ?_
  refine EL.sreg ?_
  refine OW.run 4 (x' := ⟨(58, .v (.bool (((((((⟨(((s.serveP v).1).promised), (⟨((((s.serveP v).1).kept).at_), (((s.serveP v).1).kept).data⟩ : Copy)⟩ : Seat).serveP other).1).promised).time) == (((s.serveP v).1).promised).time) && (((((((⟨(((s.serveP v).1).promised), (⟨((((s.serveP v).1).kept).at_), (((s.serveP v).1).kept).data⟩ : Copy)⟩ : Seat).serveP other).1).promised).who) == (((s.serveP v).1).promised).who) && ((((((((⟨(((s.serveP v).1).promised), (⟨((((s.serveP v).1).kept).at_), (((s.serveP v).1).kept).data⟩ : Copy)⟩ : Seat).serveP other).1).kept).at_).time) == ((((s.serveP v).1).kept).at_).time) && ((((((((⟨(((s.serveP v).1).promised), (⟨((((s.serveP v).1).kept).at_), (((s.serveP v).1).kept).data⟩ : Copy)⟩ : Seat).serveP other).1).kept).at_).who) == ((((s.serveP v).1).kept).at_).who) && (strEq (((((⟨(((s.serveP v).1).promised), (⟨((((s.serveP v).1).kept).at_), (((s.serveP v).1).kept).data⟩ : Copy)⟩ : Seat).serveP other).1).kept).data) ((((s.serveP v).1).kept).data) && true))))))) :: (57, .v (.bool (((((((⟨(((s.serveP v).1).promised), (⟨((((s.serveP v).1).kept).at_), (((s.serveP v).1).kept).data⟩ : Copy)⟩ : Seat).serveP other).1).promised).time) == (((s.serveP v).1).promised).time) && (((((((⟨(((s.serveP v).1).promised), (⟨((((s.serveP v).1).kept).at_), (((s.serveP v).1).kept).data⟩ : Copy)⟩ : Seat).serveP other).1).promised).who) == (((s.serveP v).1).promised).who) && ((((((((⟨(((s.serveP v).1).promised), (⟨((((s.serveP v).1).kept).at_), (((s.serveP v).1).kept).data⟩ : Copy)⟩ : Seat).serveP other).1).kept).at_).time) == ((((s.serveP v).1).kept).at_).time) && ((((((((⟨(((s.serveP v).1).promised), (⟨((((s.serveP v).1).kept).at_), (((s.serveP v).1).kept).data⟩ : Copy)⟩ : Seat).serveP other).1).kept).at_).who) == ((((s.serveP v).1).kept).at_).who) && (strEq (((((⟨(((s.serveP v).1).promised), (⟨((((s.serveP v).1).kept).at_), (((s.serveP v).1).kept).data⟩ : Copy)⟩ : Seat).serveP other).1).kept).data) ((((s.serveP v).1).kept).data) && true))))))) :: (spq28 s v other), (spq22 s v other)⟩) (by kernel_rfl) ?_
  rcases Bool.eq_false_or_eq_true ((((((((⟨(((s.serveP v).1).promised), (⟨((((s.serveP v).1).kept).at_), (((s.serveP v).1).kept).data⟩ : Copy)⟩ : Seat).serveP other).1).promised).time) == (((s.serveP v).1).promised).time) && (((((((⟨(((s.serveP v).1).promised), (⟨((((s.serveP v).1).kept).at_), (((s.serveP v).1).kept).data⟩ : Copy)⟩ : Seat).serveP other).1).promised).who) == (((s.serveP v).1).promised).who) && ((((((((⟨(((s.serveP v).1).promised), (⟨((((s.serveP v).1).kept).at_), (((s.serveP v).1).kept).data⟩ : Copy)⟩ : Seat).serveP other).1).kept).at_).time) == ((((s.serveP v).1).kept).at_).time) && ((((((((⟨(((s.serveP v).1).promised), (⟨((((s.serveP v).1).kept).at_), (((s.serveP v).1).kept).data⟩ : Copy)⟩ : Seat).serveP other).1).kept).at_).who) == ((((s.serveP v).1).kept).at_).who) && (strEq (((((⟨(((s.serveP v).1).promised), (⟨((((s.serveP v).1).kept).at_), (((s.serveP v).1).kept).data⟩ : Copy)⟩ : Seat).serveP other).1).kept).data) ((((s.serveP v).1).kept).data) && true)))))) with h8 | h8
  rw [h8]
  refine OW.run 1 (x' := ⟨(spq29 s v other), (spq22 s v other)⟩) (by kernel_rfl) ?_
  refine OW.ope (v := VI (List.length (((⟨(((s.serveP v).1).promised), (⟨((((s.serveP v).1).kept).at_), (((s.serveP v).1).kept).data⟩ : Copy)⟩ : Seat).serveP other).2.1) : Int)) (u := []) (acc := []) (x' := ⟨(spq30 s v other), (spq22 s v other)⟩) (by kernel_rfl) (opE_len Vote.cs (((⟨(((s.serveP v).1).promised), (⟨((((s.serveP v).1).kept).at_), (((s.serveP v).1).kept).data⟩ : Copy)⟩ : Seat).serveP other).2.1) (.s 59) 6 (by kernel_rfl) (by kernel_rfl) (.inl rfl)) (by kernel_rfl) ?_
  refine OW.last 3 [6] (x' := ⟨[(6, .v (.bool ((List.length (((⟨(((s.serveP v).1).promised), (⟨((((s.serveP v).1).kept).at_), (((s.serveP v).1).kept).data⟩ : Copy)⟩ : Seat).serveP other).2.1) : Int) == 0)))], (spq22 s v other)⟩) (by kernel_rfl) (by kernel_rfl) ?_
  refine EL.ret ?_
  refine ⟨.inr rfl, .v (.bool ((List.length (((⟨(((s.serveP v).1).promised), (⟨((((s.serveP v).1).kept).at_), (((s.serveP v).1).kept).data⟩ : Copy)⟩ : Seat).serveP other).2.1) : Int) == 0)), by kernel_rfl, Ale.of_eq ?_⟩
  focus (first | rfl | (have e : (⟨(s.serveP v).1.promised, ⟨(s.serveP v).1.kept.at_, (s.serveP v).1.kept.data⟩⟩ : Seat) = (s.serveP v).1 := rfl; simp only [e] at *; have hp := serve_promise (s := s) (v := v) (other := other) (by assumption) (by assumption) (by assumption) (by simp_all) (by assumption); first | (rw [hp]; rfl) | (exfalso; rw [hp] at h8; simp [strEq] at h8; done)))
  rw [h8]
  refine OW.last 5 [6] (x' := ⟨[(6, .v (.bool false))], (spq22 s v other)⟩) (by kernel_rfl) (by kernel_rfl) ?_
  refine EL.ret ?_
  refine ⟨.inr rfl, .v (.bool false), by kernel_rfl, Ale.of_eq ?_⟩
  focus (first | rfl | (have e : (⟨(s.serveP v).1.promised, ⟨(s.serveP v).1.kept.at_, (s.serveP v).1.kept.data⟩⟩ : Seat) = (s.serveP v).1 := rfl; simp only [e] at *; have hp := serve_promise (s := s) (v := v) (other := other) (by assumption) (by assumption) (by assumption) (by simp_all) (by assumption); first | (rw [hp]; rfl) | (exfalso; rw [hp] at h8; simp [strEq] at h8; done)))
  rw [h7]
  have g7 : ¬ (other.copy.at_.lt v.copy.at_) := of_decide_eq_false h7
  refine EL.condT (by kernel_rfl) ?_
  refine EL.sreg ?_
  refine OW.last 1 [6] (x' := ⟨[(6, .v (.bool true))], (spq22 s v other)⟩) (by kernel_rfl) (by kernel_rfl) ?_
  refine EL.ret ?_
  refine thenL_ret ?_
  refine ⟨.inr rfl, .v (.bool true), by kernel_rfl, Ale.of_eq ?_⟩
  focus (first | rfl | (have e : (⟨(s.serveP v).1.promised, ⟨(s.serveP v).1.kept.at_, (s.serveP v).1.kept.data⟩⟩ : Seat) = (s.serveP v).1 := rfl; simp only [e] at *; have hp := serve_promise (s := s) (v := v) (other := other) (by assumption) (by assumption) (by assumption) (by simp_all) (by assumption); first | (rw [hp]; rfl) | (exfalso; rw [hp] at h8; simp [strEq] at h8; done)))
theorem SeatPromise_walk {w : World} (hG : GlE (E0 w fun b => b < w.heap.size)) (s : Seat) (_oks : s.ok) (v : Vote) (_okv : v.ok) (other : Vote) (_okother : other.ok) : Calls Tryd.prog 6 #[s.v, v.v, other.v] w fun e w' => e = .returned (.bool true) ∧ Below w.heap.size w w' := by
  exact fn_law (vs := [s.v, v.v, other.v]) (seatPromise_fn s v other ) hG (.cons ((R2.agg (.cons (.v rfl) (.cons (.v rfl) (.cons (.v rfl) (.cons (.v rfl) (.cons (.v rfl) (.nil)))))) : Rep _ s.v _)) (.cons ((R2.agg (.cons (.v rfl) (.cons (.v rfl) (.cons (.v rfl) (.cons (.v rfl) (.cons (.v rfl) (.cons (.v rfl) (.nil))))))) : Rep _ v.v _)) (.cons ((R2.agg (.cons (.v rfl) (.cons (.v rfl) (.cons (.v rfl) (.cons (.v rfl) (.cons (.v rfl) (.cons (.v rfl) (.nil))))))) : Rep _ other.v _)) (.nil))))
theorem SeatPromise_own : ownKnob Tryd.prog.godebug = none := by kernel_rfl
theorem SeatPromise_laidOut : laidOutB Tryd.prog = true := by kernel_rfl
set_option maxRecDepth 100000 in
set_option linter.unusedVariables false in
theorem SeatPromise_lifted (os : Os) (started : os.Started) (H : Type) (enc : TypeId × Value → H) :
    ReturnsInHanded {} Tryd.checked os 6 .any (fun w args => (Rows.seatPromiseSpec.pre enc Tryd.prog Tryd.f6 [] false w args ∧ laidMetH Tryd.prog Rows.seatPromiseRow.laid w) ∧ sizedMet enc Tryd.prog Tryd.f6 (OpenSpec.ofChange Rows.seatPromiseSpec) false w args)
      (Rows.seatPromiseSpec.post enc Tryd.prog Tryd.f6 false true false false) := by
  refine returnsInHanded_of_change_and (C := Tryd.checked) (X := fun w _ => laidMetH Tryd.prog Rows.seatPromiseRow.laid w) (fun _ _ _ hh h => h.of_heap hh) SeatPromise_own started (by kernel_rfl) Tryd.func6
    (ChangeSpec.witness_shaped (enc := enc) (C := Tryd.checked) (os := os) (X := fun w _ => laidMetH Tryd.prog Rows.seatPromiseRow.laid w) false (World.doorLaid Tryd.prog 14 os) #[.agg #[.int .i64 0, .int .i64 0, .int .i64 0, .int .i64 0, .string ByteArray.empty], .agg #[.int .i64 0, .int .i64 0, .int .i64 0, .int .i64 0, .int .i64 0, .string ByteArray.empty], .agg #[.int .i64 0, .int .i64 0, .int .i64 0, .int .i64 0, .int .i64 0, .string ByteArray.empty]] 8 rfl (World.shaped_of_RefB (by kernel_rfl) (by kernel_rfl)) (by kernel_rfl) (by kernel_rfl) (by kernel_rfl) (laidMetH_of_parts3 (fuel := 8) (laidMet_of_run' 8 (by kernel_rfl) (by kernel_rfl)) (by kernel_rfl) (by kernel_rfl))) ?_
  intro W base args ds gs before hval0 hW _ _ hL _
  have hval : ∀ (j : Nat) t v, Tryd.f6.params[j]? = some t → args[j]? = some v → Value.okWide Tryd.prog W .any base t v := hval0
  have hW' := hW
  obtain ⟨p, q, hA0, hV, rfl, hfz, hnd⟩ := hW
  have hA : DataW.TrodAll enc Tryd.prog W 0 (fun _ => true) true Tryd.f6.params.toList args.toList ds p := hA0
  rw [Tryd.params6] at hA hval
  obtain ⟨v0, vs0, d0, ds0, p0, q0, hargs, rfl, rfl, h0, r0⟩ := trodAll_cons hA
  obtain ⟨v1, vs1, d1, ds1, p1, q1, rfl, rfl, rfl, h1, r1⟩ := trodAll_cons r0
  obtain ⟨v2, vs2, d2, ds2, p2, q2, rfl, rfl, rfl, h2, r2⟩ := trodAll_cons r1
  obtain ⟨rfl, rfl, rfl⟩ := trodAll_nil r2
  obtain rfl : args = #[v0, v1, v2] := by cases args; simp_all
  obtain ⟨rfl, rfl⟩ := trodVars_none hV
  have k0 := h0
  have lt0 : ∀ x ∈ p0, x.block < W.heap.size := by obtain ⟨m, hm⟩ := k0; exact DataW.trod_lt m _ _ _ hm
  obtain ⟨x0, cs0, rfl, w0⟩ := open_agg opens_Seat Tryd.underlying27 (hval 0 27 v0 rfl rfl) h0
  obtain ⟨rfl, ok0⟩ := Seat.flat w0
  have k1 := h1
  have lt1 : ∀ x ∈ p1, x.block < W.heap.size := by obtain ⟨m, hm⟩ := k1; exact DataW.trod_lt m _ _ _ hm
  obtain ⟨x1, cs1, rfl, w1⟩ := open_agg opens_Vote Tryd.underlying29 (hval 1 29 v1 rfl rfl) h1
  obtain ⟨rfl, ok1⟩ := Vote.flat w1
  have k2 := h2
  have lt2 : ∀ x ∈ p2, x.block < W.heap.size := by obtain ⟨m, hm⟩ := k2; exact DataW.trod_lt m _ _ _ hm
  obtain ⟨x2, cs2, rfl, w2⟩ := open_agg opens_Vote Tryd.underlying29 (hval 2 29 v2 rfl rfl) h2
  obtain ⟨rfl, ok2⟩ := Vote.flat w2
  clear hA0 hval0
  refine (SeatPromise_walk (w := W) (glE_of hL) x0 ok0 x1 ok1 x2 ok2).mono fun e W' ⟨he, bel⟩ => ?_
  subst he
  exact ⟨_, rfl, _, _, _, [], _, [], hW', trodAll_mk1 (shut_bool Tryd.underlying4 _), (trodAll_cons_mk (Below.trod SeatPromise_laidOut (by kernel_rfl) (of_decide_eq_true (by kernel_rfl)) k0 bel lt0) (trodAll_cons_mk (Below.trod SeatPromise_laidOut (by kernel_rfl) (of_decide_eq_true (by kernel_rfl)) k1 bel lt1) (trodAll_cons_mk (Below.trod SeatPromise_laidOut (by kernel_rfl) (of_decide_eq_true (by kernel_rfl)) k2 bel lt2) trodAll_mk0))), rfl, bel.frame _, fun h => by cases h⟩
set_option maxRecDepth 100000 in
set_option maxHeartbeats 4000000 in
theorem SeatPromise_row : Rows.SeatPromiseSaid :=
  OpenClaim.holds_of_wide 6 Tryd.f6 rfl rfl rfl rfl rfl rfl rfl ⟨rfl, rfl, rfl, rfl, rfl⟩ rfl rfl rfl rfl rfl (by kernel_rfl) Tryd.func6 (by kernel_rfl)
    (of_decide_eq_true (by kernel_rfl)) (by unfold Func.isWrapper; first | (rw [if_pos (by decide +kernel)]; kernel_rfl) | (rw [if_neg (by decide +kernel)]; exact ⟨rfl, rfl⟩))
    (fun os started H enc _ => SeatPromise_lifted os started H enc)
set_option maxRecDepth 100000 in
set_option maxHeartbeats 4000000 in
theorem SeatPromise_holds : Rows.SeatPromiseCardSaid :=
  Claim7.holds_tied_plain_at .later [] [.data] true (true, "b61f73abae45e264646c0b9802a4a2409c44329666a5012799d964ba1cee84f6") false
    SeatPromise_row (fun _ h => by cases h) (by kernel_rfl) (fun _ h => by cases h) seatPromise_row_tie rfl ⟨rfl, rfl⟩ (by kernel_rfl) rfl
    (fun f fn hf hfn => by
      obtain rfl : f = 6 := Option.some.inj ((show Tryd.prog.funcNamed "supercargo/supercargolaw.SeatPromise" = some 6 by kernel_rfl).symm.trans hf) |>.symm
      obtain rfl : fn = Tryd.f6 := (Option.some.inj (Tryd.func6.symm.trans hfn)).symm
      exact ⟨by kernel_rfl, fun j t ht => by
        rw [Tryd.params6] at ht
        have hm : t ∈ [27, 29, 29] := by simpa using Array.mem_of_getElem? ht
        have hall : ([27, 29, 29].all fun u => !Tryd.prog.wantsStandIn u) = true := by kernel_rfl
        exact (show Tryd.prog.wantsStandIn t = false by simpa using List.all_eq_true.1 hall t hm)⟩)
    (by kernel_rfl)
end Go.Proofs.YtejilglnpdjepaaDoor
