/- What the functions of package ship answer: Run and what the document says of a step and of a run. No condition. -/
import Derived.Test.YthdcanpbgaaneaaPShipN
set_option maxRecDepth 100000
set_option maxHeartbeats 4000000
set_option linter.unusedVariables false
set_option linter.unusedSimpArgs false
namespace Go.Proofs.Ythdcanpbgaaneaa
theorem Ship.runP_n {s : Ship} {l : List Act} (h : ¬ s.checkE = 0) : s.runP l = (Ship.zero, 0, s.checkE) := if_neg h
theorem Ship.runP_2 {s : Ship} {l : List Act} (h : s.checkE = 0) (h2 : 200 < l.length) : s.runP l = (Ship.zero, 0, 2) := by unfold Ship.runP; rw [if_pos h, if_pos h2]
theorem Ship.runP_0 {s : Ship} {l : List Act} (h : s.checkE = 0) (h2 : ¬ 200 < l.length) : s.runP l = ((s.runGo l 0).1, (s.runGo l 0).2, 0) := by unfold Ship.runP; rw [if_pos h, if_neg h2]
abbrev sdq0 (s : Ship) : OB := some ⟨8, [[.lst 1 (s.first.map cZ), .lst 1 (s.second.map cZ), .lst 2 (s.log.map Record.cs), VI s.sent, VI s.applied, VI s.known, .lst 1 (s.there.map cI), .lst 1 (s.back.map cI)]]⟩
abbrev sdq1 : OB := some ⟨8, [[.emp, .emp, .emp, VI 0, VI 0, VI 0, .emp, .emp]]⟩
abbrev sdq2 (l : List Act) : LS := [(4, .ref 1 8 0 0), (2, .ref 0 8 0 0), (1, .lst 3 (l.map Act.cs))]
abbrev sdq3 (s : Ship) : AV := .agg [.lst 1 (s.first.map cZ), .lst 1 (s.second.map cZ), .lst 2 (s.log.map Record.cs), VI s.sent, VI s.applied, VI s.known, .lst 1 (s.there.map cI), .lst 1 (s.back.map cI)]
abbrev sdq4 (l : List Act) (s : Ship) : LS := (18, .lst 3 (l.map Act.cs)) :: (17, .v (.bool true)) :: (16, .v (.bool true)) :: (15, VI s.checkE) :: (7, VI s.checkE) :: (sdq2 l)
abbrev sdq5 (l : List Act) : LS := [(1, .lst 3 (l.map Act.cs)), (2, .ref 0 8 0 0), (4, .ref 1 8 0 0), (7, VI 2)]
abbrev sdq6 (l : List Act) (s : Ship) : LS := [(1, .lst 3 (l.map Act.cs)), (2, .ref 0 8 0 0), (4, .ref 1 8 0 0), (7, VI s.checkE)]
abbrev sdq7 : AV := .agg [.lst 1 [], .lst 1 [], .lst 2 [], VI 0, VI 0, VI 0, .lst 1 [], .lst 1 []]
abbrev sdq8 (s : Ship) : LS := [(6, VI s.checkE), (5, VI 0), (4, .ref 1 8 0 0)]
abbrev sdq9 (s : Ship) (l : List Act) : LS := (27, (sdq3 s)) :: (26, (sdq3 s)) :: (23, .v (.bool false)) :: (sdq6 l s)
abbrev sdq10 (l : List Act) : LS := [(1, .lst 3 (l.map Act.cs)), (2, .ref 0 8 0 0), (4, .ref 1 8 0 0)]
abbrev sdq11 (l : List Act) : LS := (29, VI (List.length l : Int)) :: (28, .lst 3 (l.map Act.cs)) :: (8, VI 0) :: (sdq10 l)
abbrev sdq12 (l : List Act) : LS := [(30, VI 0), (29, VI (List.length l : Int)), (28, .lst 3 (l.map Act.cs)), (8, VI 0), (2, .ref 0 8 0 0), (4, .ref 1 8 0 0)]
abbrev sdq13 (c : Ship) : OB := some ⟨8, [[.lst 1 (c.first.map cZ), .lst 1 (c.second.map cZ), .lst 2 (c.log.map Record.cs), VI c.sent, VI c.applied, VI c.known, .lst 1 (c.there.map cI), .lst 1 (c.back.map cI)]]⟩
abbrev sdq14 (n : Int) (l : List Act) (k : Nat) : LS := [(2, .ref 0 8 0 0), (4, .ref 1 8 0 0), (8, VI n), (28, .lst 3 (l.map Act.cs)), (29, VI (List.length l : Int)), (30, VI (k : Int))]
abbrev sdq15 (a10 : Act) (n : Int) (l : List Act) (k : Nat) : LS := (32, .pim [VI a10.kind, VI a10.n, .v (.string a10.data)] 0) :: (31, .v (.bool true)) :: (sdq14 n l k)
abbrev sdq16 (c : Ship) (a10 : Act) : LB := [(sdq13 c), sdq1, some ⟨3, [[VI a10.kind, VI a10.n, .v (.string a10.data)]]⟩]
abbrev sdq17 (c : Ship) : AV := .agg [.lst 1 (c.first.map cZ), .lst 1 (c.second.map cZ), .lst 2 (c.log.map Record.cs), VI c.sent, VI c.applied, VI c.known, .lst 1 (c.there.map cI), .lst 1 (c.back.map cI)]
abbrev sdq18 (a10 : Act) (c : Ship) (n : Int) (l : List Act) (k : Nat) : LS := (36, .agg [VI a10.kind, VI a10.n, .v (.string a10.data)]) :: (35, (sdq17 c)) :: (10, .ref 2 3 0 0) :: (sdq14 n l k)
abbrev sdq19 (c : Ship) (a10 : Act) : AV := .agg [.lst 1 ((((c.stepP a10).1).first).map cZ), .lst 1 ((((c.stepP a10).1).second).map cZ), .lst 2 ((((c.stepP a10).1).log).map Record.cs), VI (((c.stepP a10).1).sent), VI (((c.stepP a10).1).applied), VI (((c.stepP a10).1).known), .lst 1 ((((c.stepP a10).1).there).map cI), .lst 1 ((((c.stepP a10).1).back).map cI)]
abbrev sdq20 (c : Ship) (a10 : Act) (n : Int) (l : List Act) (k : Nat) : LS := (37, .tup [(sdq19 c a10), VI ((c.stepP a10).2)]) :: (sdq18 a10 c n l k)
abbrev sdq21 (c : Ship) (a10 : Act) : OB := some ⟨8, [[.lst 1 ((((c.stepP a10).1).first).map cZ), .lst 1 ((((c.stepP a10).1).second).map cZ), .lst 2 ((((c.stepP a10).1).log).map Record.cs), VI (((c.stepP a10).1).sent), VI (((c.stepP a10).1).applied), VI (((c.stepP a10).1).known), .lst 1 ((((c.stepP a10).1).there).map cI), .lst 1 ((((c.stepP a10).1).back).map cI)]]⟩
abbrev sdq22 (c : Ship) (a10 : Act) : LB := [(sdq13 c), sdq1, some ⟨3, [[VI a10.kind, VI a10.n, .v (.string a10.data)]]⟩, (sdq21 c a10)]
abbrev sdq23 (c : Ship) (a10 : Act) (n : Int) (l : List Act) (k : Nat) : LS := (12, VI ((c.stepP a10).2)) :: (11, .ref 3 8 0 0) :: (sdq14 n l k)
abbrev sdq24 (c : Ship) (a10 : Act) : LB := [(sdq21 c a10), sdq1, some ⟨3, [[VI a10.kind, VI a10.n, .v (.string a10.data)]]⟩, (sdq21 c a10)]
abbrev sdq25 (n : Int) (l : List Act) (k : Nat) : LS := [(43, VI n), (2, .ref 0 8 0 0), (4, .ref 1 8 0 0), (28, .lst 3 (l.map Act.cs)), (29, VI (List.length l : Int)), (30, VI (k : Int))]
abbrev sdq26 (n : Int) (l : List Act) : LS := [(8, VI (n + 1)), (44, VI (n + 1)), (43, VI n), (2, .ref 0 8 0 0), (4, .ref 1 8 0 0), (28, .lst 3 (l.map Act.cs)), (29, VI (List.length l : Int))]
abbrev sdq27 (k : Nat) (n : Int) (l : List Act) : LS := (30, VI ((k : Int) + 1)) :: (45, VI ((k : Int) + 1)) :: (sdq26 n l)
abbrev sdq28 (n : Int) (l : List Act) : LS := [(41, .v (.bool false)), (11, .ref 3 8 0 0), (2, .ref 0 8 0 0), (4, .ref 1 8 0 0), (8, VI n), (28, .lst 3 (l.map Act.cs)), (29, VI (List.length l : Int))]
abbrev sdq29 (k : Nat) (n : Int) (l : List Act) : LS := (30, VI ((k : Int) + 1)) :: (45, VI ((k : Int) + 1)) :: (sdq28 n l)
theorem run_fn (s : Ship) (l : List Act) (hx : s.first.length ≤ 9223372036854775807 ∧ s.second.length ≤ 9223372036854775807 ∧ s.log.length ≤ 9223372036854775807 ∧ s.there.length ≤ 9223372036854775807 ∧ s.back.length ≤ 9223372036854775807) (hl : l.length ≤ 9223372036854775807) : Fn Try.prog 19 [.agg [.lst 1 (s.first.map cZ), .lst 1 (s.second.map cZ), .lst 2 (s.log.map Record.cs), VI s.sent, VI s.applied, VI s.known, .lst 1 (s.there.map cI), .lst 1 (s.back.map cI)], .lst 3 (l.map Act.cs)] (.tup [.agg [.lst 1 ((((s.runP l).1).first).map cZ), .lst 1 ((((s.runP l).1).second).map cZ), .lst 2 ((((s.runP l).1).log).map Record.cs), VI (((s.runP l).1).sent), VI (((s.runP l).1).applied), VI (((s.runP l).1).known), .lst 1 ((((s.runP l).1).there).map cI), .lst 1 ((((s.runP l).1).back).map cI)], VI ((s.runP l).2.1), VI ((s.runP l).2.2)]) := by
  refine fn_walkW F19_ok (of_decide_eq_true (by kernel_rfl)) ?_
  refine EL.sreg ?_
  refine OW.last 4 [1, 2, 4] (x' := ⟨(sdq2 l), [(sdq0 s), sdq1]⟩) (by kernel_rfl) (by kernel_rfl) ?_
  refine EL.sreg ?_
  refine OW.run 1 (x' := ⟨(13, (sdq3 s)) :: (sdq2 l), [(sdq0 s), sdq1]⟩) (by kernel_rfl) ?_
  refine OW.fn (ar := [(sdq3 s)]) (x' := ⟨(14, VI s.checkE) :: (13, (sdq3 s)) :: (sdq2 l), [(sdq0 s), sdq1]⟩) (by kernel_rfl) (by kernel_rfl) F17_call (check_fn s hx) (by kernel_rfl) (by kernel_rfl) ?_
  refine OW.last 1 [1, 2, 4, 7] (x' := ⟨(7, VI s.checkE) :: (sdq2 l), [(sdq0 s), sdq1]⟩) (by kernel_rfl) (by kernel_rfl) ?_
  refine EL.seqG [1, 2, 4, 7] (fun y => (y = ⟨(sdq5 l), [(sdq0 s), sdq1]⟩ ∧ (s.checkE == 0) = true ∧ decide ((List.length l : Int) > 200) = true) ∨ (y = ⟨(sdq6 l s), [(sdq0 s), sdq1]⟩ ∧ (((s.checkE = 0) ∧ ¬ ((List.length l : Int) > 200)) ∨ (¬ (s.checkE = 0))))) ?_ ?_
  intro IHJ1 HJ1
  refine EL.sreg ?_
  refine OW.run 3 (x' := ⟨(17, .v (.bool (s.checkE == 0))) :: (16, .v (.bool (s.checkE == 0))) :: (15, VI s.checkE) :: (7, VI s.checkE) :: (sdq2 l), [(sdq0 s), sdq1]⟩) (by kernel_rfl) ?_
  rcases Bool.eq_false_or_eq_true ((s.checkE == 0)) with h2 | h2
  rw [h2]
  have g2 : (s.checkE = 0) := by simpa using h2
  refine OW.run 1 (x' := ⟨(sdq4 l s), [(sdq0 s), sdq1]⟩) (by kernel_rfl) ?_
  refine OW.ope (v := VI (List.length l : Int)) (u := []) (acc := []) (x' := ⟨(19, VI (List.length l : Int)) :: (sdq4 l s), [(sdq0 s), sdq1]⟩) (by kernel_rfl) (opE_len Act.cs l (.s 18) 3 (by kernel_rfl) (by kernel_rfl) (.inl rfl)) (by kernel_rfl) ?_
  refine OW.last 2 [1, 2, 4, 7, 21] (x' := ⟨(21, .v (.bool (decide ((List.length l : Int) > 200)))) :: (7, VI s.checkE) :: (sdq2 l), [(sdq0 s), sdq1]⟩) (by kernel_rfl) (by kernel_rfl) ?_
  rcases Bool.eq_false_or_eq_true (decide ((List.length l : Int) > 200)) with h3 | h3
  rw [h3]
  have g3 : ((List.length l : Int) > 200) := of_decide_eq_true h3
  have n3 : ((List.length l) > 200) := by omega
  refine EL.condT (by kernel_rfl) ?_
  refine EL.reg0 ?_
  refine OW.end 1 (x' := ⟨(7, VI 2) :: (21, .v (.bool true)) :: (sdq2 l), [(sdq0 s), sdq1]⟩) (by kernel_rfl) (by kernel_rfl) ?_
  exact thenL_norm (HJ1.get (Or.inl ⟨by kernel_rfl, h2, h3⟩))
  rw [h3]
  have g3 : ¬ ((List.length l : Int) > 200) := of_decide_eq_false h3
  have n3 : ¬ ((List.length l) > 200) := by omega
  refine EL.condF (by kernel_rfl) ?_
  refine EL.skip ?_
  exact thenL_norm (HJ1.get (Or.inr ⟨by kernel_rfl, (Or.inl (by refine ⟨(by first | exact g2 | exact h2 | simp_all | omega), (by first | exact g3 | exact h3 | simp_all | omega)⟩))⟩))
  rw [h2]
  have g2 : ¬ (s.checkE = 0) := by simpa using h2
  refine OW.last 4 [1, 2, 4, 7, 21] (x' := ⟨(21, .v (.bool false)) :: (7, VI s.checkE) :: (sdq2 l), [(sdq0 s), sdq1]⟩) (by kernel_rfl) (by kernel_rfl) ?_
  refine EL.condF (by kernel_rfl) ?_
  refine EL.skip ?_
  exact thenL_norm (HJ1.get (Or.inr ⟨by kernel_rfl, (Or.inr (by first | exact g2 | exact h2 | simp_all | omega))⟩))
  rintro _ (⟨rfl, h4, h5⟩ | ⟨rfl, hD6⟩)
  have g4 : (s.checkE = 0) := by simpa using h4
  have g5 : ((List.length l : Int) > 200) := of_decide_eq_true h5
  have n5 : ((List.length l) > 200) := by omega
  refine EL.seq ?_
  refine EL.sreg ?_
  refine OW.last 2 [1, 2, 4, 7, 23] (x' := ⟨(23, .v (.bool true)) :: (sdq5 l), [(sdq0 s), sdq1]⟩) (by kernel_rfl) (by kernel_rfl) ?_
  refine EL.condT (by kernel_rfl) ?_
  refine EL.sreg ?_
  refine OW.last 5 [4, 5, 6] (x' := ⟨[(6, VI 2), (5, VI 0), (4, .ref 1 8 0 0)], [(sdq0 s), sdq1]⟩) (by kernel_rfl) (by kernel_rfl) ?_
  refine EL.ret ?_
  refine thenL_ret ?_
  refine ⟨.inr rfl, .tup [.agg [.emp, .emp, .emp, VI 0, VI 0, VI 0, .emp, .emp], VI 0, VI 2], by kernel_rfl, Ale.trans (b := .tup [sdq7, VI 0, VI 2]) (Ale.tup (.cons (Ale.agg (.cons (Ale.emp) (.cons (Ale.emp) (.cons (Ale.emp) (.cons (Ale.refl) (.cons (Ale.refl) (.cons (Ale.refl) (.cons (Ale.emp) (.cons (Ale.emp) (.nil)))))))))) (.cons (Ale.refl) (.cons (Ale.refl) (.nil))))) (Ale.of_eq ?_)⟩
  focus (first | (rw [Ship.runP_n ‹_›]; rfl) | (rw [Ship.runP_2 ‹_› (by omega)]; rfl) | (rw [Ship.runP_0 hc0 (by omega), hs, List.drop_eq_nil_of_le (by omega)]; rfl))
  refine EL.seq ?_
  refine EL.sreg ?_
  refine OW.last 2 [1, 2, 4, 7, 23] (x' := ⟨(23, .v (.bool (s.checkE != 0))) :: (sdq6 l s), [(sdq0 s), sdq1]⟩) (by kernel_rfl) (by kernel_rfl) ?_
  rcases Bool.eq_false_or_eq_true ((s.checkE != 0)) with h7 | h7
  rw [h7]
  have g7 : ¬ (s.checkE = 0) := by simpa using h7
  refine EL.condT (by kernel_rfl) ?_
  refine EL.sreg ?_
  refine OW.last 5 [4, 5, 6] (x' := ⟨(sdq8 s), [(sdq0 s), sdq1]⟩) (by kernel_rfl) (by kernel_rfl) ?_
  refine EL.ret ?_
  refine thenL_ret ?_
  refine ⟨.inr rfl, .tup [.agg [.emp, .emp, .emp, VI 0, VI 0, VI 0, .emp, .emp], VI 0, VI s.checkE], by kernel_rfl, Ale.trans (b := .tup [sdq7, VI 0, VI s.checkE]) (Ale.tup (.cons (Ale.agg (.cons (Ale.emp) (.cons (Ale.emp) (.cons (Ale.emp) (.cons (Ale.refl) (.cons (Ale.refl) (.cons (Ale.refl) (.cons (Ale.emp) (.cons (Ale.emp) (.nil)))))))))) (.cons (Ale.refl) (.cons (Ale.refl) (.nil))))) (Ale.of_eq ?_)⟩
  focus (first | (rw [Ship.runP_n ‹_›]; rfl) | (rw [Ship.runP_2 ‹_› (by omega)]; rfl) | (rw [Ship.runP_0 hc0 (by omega), hs, List.drop_eq_nil_of_le (by omega)]; rfl))
  rw [h7]
  have g7 : (s.checkE = 0) := by simpa using h7
  refine EL.condF (by kernel_rfl) ?_
  refine EL.skip ?_
  refine thenL_norm ?_
  refine EL.sreg ?_
  refine OW.run 1 (x' := ⟨(26, (sdq3 s)) :: (23, .v (.bool false)) :: (sdq6 l s), [(sdq0 s), sdq1]⟩) (by kernel_rfl) ?_
  refine OW.fn (ar := [(sdq3 s)]) (x' := ⟨(sdq9 s l), [(sdq0 s), sdq1]⟩) (by kernel_rfl) (by kernel_rfl) F42_call (own_fn s (by have hh := (Ship.checkE_0.1 ‹_›).small; omega)) (by kernel_rfl) (by kernel_rfl) ?_
  refine OW.last 1 [1, 2, 4] (x' := ⟨(sdq10 l), [(sdq0 s), sdq1]⟩) (by kernel_rfl) (by kernel_rfl) ?_
  refine EL.sreg ?_
  refine OW.last 1 [1, 2, 4, 8] (x' := ⟨(8, VI 0) :: (sdq10 l), [(sdq0 s), sdq1]⟩) (by kernel_rfl) (by kernel_rfl) ?_
  refine EL.seq ?_
  refine EL.sreg ?_
  refine OW.run 1 (x' := ⟨(28, .lst 3 (l.map Act.cs)) :: (8, VI 0) :: (sdq10 l), [(sdq0 s), sdq1]⟩) (by kernel_rfl) ?_
  refine OW.ope (v := VI (List.length l : Int)) (u := []) (acc := []) (x' := ⟨(sdq11 l), [(sdq0 s), sdq1]⟩) (by kernel_rfl) (opE_len Act.cs l (.s 28) 3 (by kernel_rfl) (by kernel_rfl) (.inl rfl)) (by kernel_rfl) ?_
  refine OW.last 1 [2, 4, 8, 28, 29, 30] (x' := ⟨(sdq12 l), [(sdq0 s), sdq1]⟩) (by kernel_rfl) (by kernel_rfl) ?_
  refine EL.block ?_
  refine EL.loopN (fun m x => ∃ (k : Nat) (c : Ship) (n : Int), m = l.length - k ∧ (k ≤ l.length ∧ l.length ≤ 200 ∧ s.checkE = 0 ∧ c.Ok ∧ 0 ≤ n ∧ n ≤ k ∧ s.runGo l 0 = c.runGo (l.drop k) n) ∧ x = ⟨(sdq14 n l k), [(sdq13 c), sdq1]⟩) (y := (fun (k : Nat) (c : Ship) (n : Int) => (⟨(sdq14 n l k), [(sdq13 c), sdq1]⟩ : L3)) 0 s 0) [2, 4, 8, 28, 29, 30] [.old 0 false, .old 1 false] [] (by kernel_rfl) trivial ⟨0, s, 0, rfl, by have hc0 : s.checkE = 0 := ‹_›; refine ⟨by omega, by omega, hc0, Ship.checkE_0.1 hc0, by omega, by omega, by simp⟩, rfl⟩ ?_
  rintro _ _ ⟨k, c, n, rfl, hI8, rfl⟩
  obtain ⟨hk, hl2, hc0, hok, hn0, hn1, hs⟩ := hI8
  refine EL.sreg ?_
  refine OW.last 1 [2, 4, 8, 28, 29, 30, 31] (x' := ⟨(31, .v (.bool (decide ((k : Int) < (List.length l : Int))))) :: (sdq14 n l k), [(sdq13 c), sdq1]⟩) (by kernel_rfl) (by kernel_rfl) ?_
  refine EL.seq ?_
  rcases Bool.eq_false_or_eq_true (decide ((k : Int) < (List.length l : Int))) with h9 | h9
  rw [h9]
  have g9 : ((k : Int) < (List.length l : Int)) := of_decide_eq_true h9
  have n9 : ((k) < (List.length l)) := by omega
  refine EL.condT (by kernel_rfl) ?_
  refine EL.skip ?_
  refine thenL_norm ?_
  refine EL.seq ?_
  refine EL.block ?_
  refine EL.sreg ?_
  obtain ⟨a10, ha10⟩ : ∃ y, l[((k : Int) : Int).toNat]? = some y := idx_ex ⟨by omega, by omega⟩
  have iha10 : l[k]? = some a10 := by simpa using ha10
  have dha10 := drop_get iha10
  refine OW.ope (v := .pim [VI a10.kind, VI a10.n, .v (.string a10.data)] 0) (u := []) (acc := []) (x' := ⟨(sdq15 a10 n l k), [(sdq13 c), sdq1]⟩) (by kernel_rfl) (opE_iad Act.cs l (.s 28) (.s 30) 3 .i64 (k : Int) a10 (by kernel_rfl) (by kernel_rfl) (.inl rfl) rfl (by omega) ha10) (by kernel_rfl) ?_
  refine OW.last 3 [2, 4, 8, 10, 28, 29, 30] (x' := ⟨(10, .ref 2 3 0 0) :: (sdq14 n l k), (sdq16 c a10)⟩) (by kernel_rfl) (by kernel_rfl) ?_
  refine EL.sreg ?_
  refine OW.run 2 (x' := ⟨(sdq18 a10 c n l k), (sdq16 c a10)⟩) (by kernel_rfl) ?_
  refine OW.fn (ar := [(sdq17 c), .agg [VI a10.kind, VI a10.n, .v (.string a10.data)]]) (x' := ⟨(sdq20 c a10 n l k), (sdq16 c a10)⟩) (by kernel_rfl) (by kernel_rfl) F32_call (step_fn c a10 (by first | assumption | exact Ship.checkE_0.1 ‹_›)) (by kernel_rfl) (by kernel_rfl) ?_
  refine OW.last 6 [2, 4, 8, 11, 12, 28, 29, 30] (x' := ⟨(sdq23 c a10 n l k), (sdq22 c a10)⟩) (by kernel_rfl) (by kernel_rfl) ?_
  refine EL.sreg ?_
  refine OW.last 2 [2, 4, 8, 11, 28, 29, 30, 41] (x' := ⟨(41, .v (.bool (((c.stepP a10).2) == 0))) :: (11, .ref 3 8 0 0) :: (sdq14 n l k), (sdq22 c a10)⟩) (by kernel_rfl) (by kernel_rfl) ?_
  rcases Bool.eq_false_or_eq_true ((((c.stepP a10).2) == 0)) with h11 | h11
  rw [h11]
  have g11 : (((c.stepP a10).2) = 0) := by simpa using h11
  refine EL.condT (by kernel_rfl) ?_
  refine EL.sreg ?_
  refine OW.last 2 [2, 4, 8, 28, 29, 30] (x' := ⟨(sdq14 n l k), (sdq24 c a10)⟩) (by kernel_rfl) (by kernel_rfl) ?_
  refine EL.reg0 ?_
  refine OW.run 3 (x' := ⟨(8, VI (IntKind.i64.wrap (n + 1))) :: (44, VI (IntKind.i64.wrap (n + 1))) :: (sdq25 n l k), (sdq24 c a10)⟩) (by kernel_rfl) ?_
  have e12 : IntKind.i64.wrap (n + 1) = n + 1 := wr64 (by omega)
  rw [e12]
  refine OW.end 0 (x' := ⟨(8, VI (n + 1)) :: (44, VI (n + 1)) :: (sdq25 n l k), (sdq24 c a10)⟩) (by kernel_rfl) (by kernel_rfl) ?_
  refine inBlk_norm ?_
  refine thenL_norm ?_
  refine EL.reg0 ?_
  refine OW.run 2 (x' := ⟨(30, VI (IntKind.i64.wrap ((k : Int) + 1))) :: (45, VI (IntKind.i64.wrap ((k : Int) + 1))) :: (sdq26 n l), (sdq24 c a10)⟩) (by kernel_rfl) ?_
  have e13 : IntKind.i64.wrap ((k : Int) + 1) = (k : Int) + 1 := wr64 (by omega)
  rw [e13]
  refine OW.end 0 (x' := ⟨(sdq27 k n l), (sdq24 c a10)⟩) (by kernel_rfl) (by kernel_rfl) ?_
  refine thenL_norm ?_
  refine round_end (live := [2, 4, 8, 28, 29, 30]) (src := [.old 0 false, .old 1 false]) (es := []) (y := (fun (k : Nat) (c : Ship) (n : Int) => (⟨(sdq14 n l k), [(sdq13 c), sdq1]⟩ : L3)) (k + 1) ((c.stepP a10).1) (n + 1)) ?_ trivial ?_ ⟨(k + 1), ((c.stepP a10).1), (n + 1), rfl, ?_, rfl⟩
  kernel_rfl
  omega
  focus (first | (refine ⟨by omega, by omega, hc0, Ship.step_ok hok ‹_›, by omega, by omega, ?_⟩; rw [hs]; simp [Ship.runGo, *]; done) | (refine ⟨by omega, by omega, hc0, hok, by omega, by omega, ?_⟩; rw [hs]; simp [Ship.runGo, *]; done))
  rw [h11]
  have g11 : ¬ (((c.stepP a10).2) = 0) := by simpa using h11
  refine EL.condF (by kernel_rfl) ?_
  refine EL.skip ?_
  refine inBlk_norm ?_
  refine thenL_norm ?_
  refine EL.reg0 ?_
  refine OW.run 2 (x' := ⟨(30, VI (IntKind.i64.wrap ((k : Int) + 1))) :: (45, VI (IntKind.i64.wrap ((k : Int) + 1))) :: (sdq28 n l), (sdq22 c a10)⟩) (by kernel_rfl) ?_
  have e14 : IntKind.i64.wrap ((k : Int) + 1) = (k : Int) + 1 := wr64 (by omega)
  rw [e14]
  refine OW.end 0 (x' := ⟨(sdq29 k n l), (sdq22 c a10)⟩) (by kernel_rfl) (by kernel_rfl) ?_
  refine thenL_norm ?_
  refine round_end (live := [2, 4, 8, 28, 29, 30]) (src := [.old 0 false, .old 1 false]) (es := []) (y := (fun (k : Nat) (c : Ship) (n : Int) => (⟨(sdq14 n l k), [(sdq13 c), sdq1]⟩ : L3)) (k + 1) c n) ?_ trivial ?_ ⟨(k + 1), c, n, rfl, ?_, rfl⟩
  kernel_rfl
  omega
  focus (first | (refine ⟨by omega, by omega, hc0, Ship.step_ok hok ‹_›, by omega, by omega, ?_⟩; rw [hs]; simp [Ship.runGo, *]; done) | (refine ⟨by omega, by omega, hc0, hok, by omega, by omega, ?_⟩; rw [hs]; simp [Ship.runGo, *]; done))
  rw [h9]
  have g9 : ¬ ((k : Int) < (List.length l : Int)) := of_decide_eq_false h9
  have n9 : ¬ ((k) < (List.length l)) := by omega
  refine EL.condF (by kernel_rfl) ?_
  refine EL.exit ?_
  refine thenL_exit ?_
  refine thenL_exit ?_
  refine inBlk_hit ?_
  refine thenL_norm ?_
  refine EL.sreg ?_
  refine OW.last 5 [4, 5, 6] (x' := ⟨[(6, VI 0), (5, VI n), (4, .ref 1 8 0 0)], [(sdq13 c), (sdq13 c)]⟩) (by kernel_rfl) (by kernel_rfl) ?_
  refine EL.ret ?_
  refine ⟨.inr rfl, .tup [(sdq17 c), VI n, VI 0], by kernel_rfl, Ale.of_eq ?_⟩
  focus (first | (rw [Ship.runP_n ‹_›]; rfl) | (rw [Ship.runP_2 ‹_› (by omega)]; rfl) | (rw [Ship.runP_0 hc0 (by omega), hs, List.drop_eq_nil_of_le (by omega)]; rfl))
end Go.Proofs.Ythdcanpbgaaneaa
