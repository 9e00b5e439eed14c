/- What the functions of package ship answer: Run and what the document says of a step and of a run. No condition. -/
import Derived.Test.YthdcanpbgaaneaaPShipN
set_option maxRecDepth 100000
set_option maxHeartbeats 4000000
set_option linter.unusedVariables false
set_option linter.unusedSimpArgs false
namespace Go.Proofs.Ythdcanpbgaaneaa
theorem ba_empty {d : ByteArray} : d = ⟨#[]⟩ ↔ d.size = 0 := by
  constructor
  · rintro rfl; rfl
  · intro h; cases d with | mk l => exact congrArg ByteArray.mk (Array.eq_empty_of_size_eq_zero h)
theorem Ship.runP_n {s : Ship} {l : List Act} (h : ¬ s.checkE = 0) : s.runP l = (Ship.zero, 0, s.checkE) := if_neg h
theorem Ship.runP_2 {s : Ship} {l : List Act} (h : s.checkE = 0) (h2 : 200 < l.length) : s.runP l = (Ship.zero, 0, 2) := by unfold Ship.runP; rw [if_pos h, if_pos h2]
theorem Ship.runP_0 {s : Ship} {l : List Act} (h : s.checkE = 0) (h2 : ¬ 200 < l.length) : s.runP l = ((s.runGo l 0).1, (s.runGo l 0).2, 0) := by unfold Ship.runP; rw [if_pos h, if_neg h2]
abbrev sdq0 (s : Ship) : OB := some ⟨8, [[.lst 1 (s.first.map cZ), .lst 1 (s.second.map cZ), .lst 2 (s.log.map Record.cs), VI s.sent, VI s.applied, VI s.known, .lst 1 (s.there.map cI), .lst 1 (s.back.map cI)]]⟩
abbrev sdq1 : OB := some ⟨8, [[.emp, .emp, .emp, VI 0, VI 0, VI 0, .emp, .emp]]⟩
abbrev sdq2 (l : List Act) : LS := [(4, .ref 1 8 0 0), (2, .ref 0 8 0 0), (1, .lst 3 (l.map Act.cs))]
abbrev sdq3 (s : Ship) : AV := .agg [.lst 1 (s.first.map cZ), .lst 1 (s.second.map cZ), .lst 2 (s.log.map Record.cs), VI s.sent, VI s.applied, VI s.known, .lst 1 (s.there.map cI), .lst 1 (s.back.map cI)]
abbrev sdq4 (l : List Act) (s : Ship) : LS := (18, .lst 3 (l.map Act.cs)) :: (17, .v (.bool true)) :: (16, .v (.bool true)) :: (15, VI s.checkE) :: (7, VI s.checkE) :: (sdq2 l)
abbrev sdq5 (l : List Act) : LS := [(1, .lst 3 (l.map Act.cs)), (2, .ref 0 8 0 0), (4, .ref 1 8 0 0), (7, VI 2)]
abbrev sdq6 (l : List Act) (s : Ship) : LS := [(1, .lst 3 (l.map Act.cs)), (2, .ref 0 8 0 0), (4, .ref 1 8 0 0), (7, VI s.checkE)]
abbrev sdq7 : AV := .agg [.lst 1 [], .lst 1 [], .lst 2 [], VI 0, VI 0, VI 0, .lst 1 [], .lst 1 []]
abbrev sdq8 (s : Ship) : LS := [(6, VI s.checkE), (5, VI 0), (4, .ref 1 8 0 0)]
abbrev sdq9 (s : Ship) (l : List Act) : LS := (27, (sdq3 s)) :: (26, (sdq3 s)) :: (23, .v (.bool false)) :: (sdq6 l s)
abbrev sdq10 (l : List Act) : LS := [(1, .lst 3 (l.map Act.cs)), (2, .ref 0 8 0 0), (4, .ref 1 8 0 0)]
abbrev sdq11 (l : List Act) : LS := (29, VI (List.length l : Int)) :: (28, .lst 3 (l.map Act.cs)) :: (8, VI 0) :: (sdq10 l)
abbrev sdq12 (l : List Act) : LS := [(30, VI 0), (29, VI (List.length l : Int)), (28, .lst 3 (l.map Act.cs)), (8, VI 0), (2, .ref 0 8 0 0), (4, .ref 1 8 0 0)]
abbrev sdq13 (c : Ship) : OB := some ⟨8, [[.lst 1 (c.first.map cZ), .lst 1 (c.second.map cZ), .lst 2 (c.log.map Record.cs), VI c.sent, VI c.applied, VI c.known, .lst 1 (c.there.map cI), .lst 1 (c.back.map cI)]]⟩
abbrev sdq14 (n : Int) (l : List Act) (k : Nat) : LS := [(2, .ref 0 8 0 0), (4, .ref 1 8 0 0), (8, VI n), (28, .lst 3 (l.map Act.cs)), (29, VI (List.length l : Int)), (30, VI (k : Int))]
abbrev sdq15 (a10 : Act) (n : Int) (l : List Act) (k : Nat) : LS := (32, .pim [VI a10.kind, VI a10.n, .v (.string a10.data)] 0) :: (31, .v (.bool true)) :: (sdq14 n l k)
abbrev sdq16 (c : Ship) (a10 : Act) : LB := [(sdq13 c), sdq1, some ⟨3, [[VI a10.kind, VI a10.n, .v (.string a10.data)]]⟩]
abbrev sdq17 (c : Ship) : AV := .agg [.lst 1 (c.first.map cZ), .lst 1 (c.second.map cZ), .lst 2 (c.log.map Record.cs), VI c.sent, VI c.applied, VI c.known, .lst 1 (c.there.map cI), .lst 1 (c.back.map cI)]
abbrev sdq18 (a10 : Act) (c : Ship) (n : Int) (l : List Act) (k : Nat) : LS := (36, .agg [VI a10.kind, VI a10.n, .v (.string a10.data)]) :: (35, (sdq17 c)) :: (10, .ref 2 3 0 0) :: (sdq14 n l k)
abbrev sdq19 (c : Ship) (a10 : Act) : AV := .agg [.lst 1 ((((c.stepP a10).1).first).map cZ), .lst 1 ((((c.stepP a10).1).second).map cZ), .lst 2 ((((c.stepP a10).1).log).map Record.cs), VI (((c.stepP a10).1).sent), VI (((c.stepP a10).1).applied), VI (((c.stepP a10).1).known), .lst 1 ((((c.stepP a10).1).there).map cI), .lst 1 ((((c.stepP a10).1).back).map cI)]
abbrev sdq20 (c : Ship) (a10 : Act) (n : Int) (l : List Act) (k : Nat) : LS := (37, .tup [(sdq19 c a10), VI ((c.stepP a10).2)]) :: (sdq18 a10 c n l k)
abbrev sdq21 (c : Ship) (a10 : Act) : OB := some ⟨8, [[.lst 1 ((((c.stepP a10).1).first).map cZ), .lst 1 ((((c.stepP a10).1).second).map cZ), .lst 2 ((((c.stepP a10).1).log).map Record.cs), VI (((c.stepP a10).1).sent), VI (((c.stepP a10).1).applied), VI (((c.stepP a10).1).known), .lst 1 ((((c.stepP a10).1).there).map cI), .lst 1 ((((c.stepP a10).1).back).map cI)]]⟩
abbrev sdq22 (c : Ship) (a10 : Act) : LB := [(sdq13 c), sdq1, some ⟨3, [[VI a10.kind, VI a10.n, .v (.string a10.data)]]⟩, (sdq21 c a10)]
abbrev sdq23 (c : Ship) (a10 : Act) (n : Int) (l : List Act) (k : Nat) : LS := (12, VI ((c.stepP a10).2)) :: (11, .ref 3 8 0 0) :: (sdq14 n l k)
abbrev sdq24 (c : Ship) (a10 : Act) : LB := [(sdq21 c a10), sdq1, some ⟨3, [[VI a10.kind, VI a10.n, .v (.string a10.data)]]⟩, (sdq21 c a10)]
abbrev sdq25 (n : Int) (l : List Act) (k : Nat) : LS := [(43, VI n), (2, .ref 0 8 0 0), (4, .ref 1 8 0 0), (28, .lst 3 (l.map Act.cs)), (29, VI (List.length l : Int)), (30, VI (k : Int))]
abbrev sdq26 (n : Int) (l : List Act) : LS := [(8, VI (n + 1)), (44, VI (n + 1)), (43, VI n), (2, .ref 0 8 0 0), (4, .ref 1 8 0 0), (28, .lst 3 (l.map Act.cs)), (29, VI (List.length l : Int))]
abbrev sdq27 (k : Nat) (n : Int) (l : List Act) : LS := (30, VI ((k : Int) + 1)) :: (45, VI ((k : Int) + 1)) :: (sdq26 n l)
abbrev sdq28 (n : Int) (l : List Act) : LS := [(41, .v (.bool false)), (11, .ref 3 8 0 0), (2, .ref 0 8 0 0), (4, .ref 1 8 0 0), (8, VI n), (28, .lst 3 (l.map Act.cs)), (29, VI (List.length l : Int))]
abbrev sdq29 (k : Nat) (n : Int) (l : List Act) : LS := (30, VI ((k : Int) + 1)) :: (45, VI ((k : Int) + 1)) :: (sdq28 n l)
theorem run_fn (s : Ship) (l : List Act) (hx : s.first.length ≤ 9223372036854775807 ∧ s.second.length ≤ 9223372036854775807 ∧ s.log.length ≤ 9223372036854775807 ∧ s.there.length ≤ 9223372036854775807 ∧ s.back.length ≤ 9223372036854775807) (hl : l.length ≤ 9223372036854775807) : Fn Try.prog 19 [.agg [.lst 1 (s.first.map cZ), .lst 1 (s.second.map cZ), .lst 2 (s.log.map Record.cs), VI s.sent, VI s.applied, VI s.known, .lst 1 (s.there.map cI), .lst 1 (s.back.map cI)], .lst 3 (l.map Act.cs)] (.tup [.agg [.lst 1 ((((s.runP l).1).first).map cZ), .lst 1 ((((s.runP l).1).second).map cZ), .lst 2 ((((s.runP l).1).log).map Record.cs), VI (((s.runP l).1).sent), VI (((s.runP l).1).applied), VI (((s.runP l).1).known), .lst 1 ((((s.runP l).1).there).map cI), .lst 1 ((((s.runP l).1).back).map cI)], VI ((s.runP l).2.1), VI ((s.runP l).2.2)]) := by
  refine fn_walkW F19_ok (of_decide_eq_true (by kernel_rfl)) ?_
  refine EL.sreg ?_
  refine OW.last 4 [1, 2, 4] (x' := ⟨(sdq2 l), [(sdq0 s), sdq1]⟩) (by kernel_rfl) (by kernel_rfl) ?_
  refine EL.sreg ?_
  refine OW.run 1 (x' := ⟨(13, (sdq3 s)) :: (sdq2 l), [(sdq0 s), sdq1]⟩) (by kernel_rfl) ?_
  refine OW.fn (ar := [(sdq3 s)]) (x' := ⟨(14, VI s.checkE) :: (13, (sdq3 s)) :: (sdq2 l), [(sdq0 s), sdq1]⟩) (by kernel_rfl) (by kernel_rfl) F17_call (check_fn s hx) (by kernel_rfl) (by kernel_rfl) ?_
  refine OW.last 1 [1, 2, 4, 7] (x' := ⟨(7, VI s.checkE) :: (sdq2 l), [(sdq0 s), sdq1]⟩) (by kernel_rfl) (by kernel_rfl) ?_
  refine EL.seqG [1, 2, 4, 7] (fun y => (y = ⟨(sdq5 l), [(sdq0 s), sdq1]⟩ ∧ (s.checkE == 0) = true ∧ decide ((List.length l : Int) > 200) = true) ∨ (y = ⟨(sdq6 l s), [(sdq0 s), sdq1]⟩ ∧ (((s.checkE = 0) ∧ ¬ ((List.length l : Int) > 200)) ∨ (¬ (s.checkE = 0))))) ?_ ?_
  intro IHJ1 HJ1
  refine EL.sreg ?_
  refine OW.run 3 (x' := ⟨(17, .v (.bool (s.checkE == 0))) :: (16, .v (.bool (s.checkE == 0))) :: (15, VI s.checkE) :: (7, VI s.checkE) :: (sdq2 l), [(sdq0 s), sdq1]⟩) (by kernel_rfl) ?_
  rcases Bool.eq_false_or_eq_true ((s.checkE == 0)) with h2 | h2
  rw [h2]
  have g2 : (s.checkE = 0) := by simpa using h2
  refine OW.run 1 (x' := ⟨(sdq4 l s), [(sdq0 s), sdq1]⟩) (by kernel_rfl) ?_
  refine OW.ope (v := VI (List.length l : Int)) (u := []) (acc := []) (x' := ⟨(19, VI (List.length l : Int)) :: (sdq4 l s), [(sdq0 s), sdq1]⟩) (by kernel_rfl) (opE_len Act.cs l (.s 18) 3 (by kernel_rfl) (by kernel_rfl) (.inl rfl)) (by kernel_rfl) ?_
  refine OW.last 2 [1, 2, 4, 7, 21] (x' := ⟨(21, .v (.bool (decide ((List.length l : Int) > 200)))) :: (7, VI s.checkE) :: (sdq2 l), [(sdq0 s), sdq1]⟩) (by kernel_rfl) (by kernel_rfl) ?_
  rcases Bool.eq_false_or_eq_true (decide ((List.length l : Int) > 200)) with h3 | h3
  rw [h3]
  have g3 : ((List.length l : Int) > 200) := of_decide_eq_true h3
  have n3 : ((List.length l) > 200) := by omega
  refine EL.condT (by kernel_rfl) ?_
  refine EL.reg0 ?_
  refine OW.end 1 (x' := ⟨(7, VI 2) :: (21, .v (.bool true)) :: (sdq2 l), [(sdq0 s), sdq1]⟩) (by kernel_rfl) (by kernel_rfl) ?_
  exact thenL_norm (HJ1.get (Or.inl ⟨by kernel_rfl, h2, h3⟩))
  rw [h3]
  have g3 : ¬ ((List.length l : Int) > 200) := of_decide_eq_false h3
  have n3 : ¬ ((List.length l) > 200) := by omega
  refine EL.condF (by kernel_rfl) ?_
  refine EL.skip ?_
  exact thenL_norm (HJ1.get (Or.inr ⟨by kernel_rfl, (Or.inl (by refine ⟨(by first | exact g2 | exact h2 | simp_all | omega), (by first | exact g3 | exact h3 | simp_all | omega)⟩))⟩))
  rw [h2]
  have g2 : ¬ (s.checkE = 0) := by simpa using h2
  refine OW.last 4 [1, 2, 4, 7, 21] (x' := ⟨(21, .v (.bool false)) :: (7, VI s.checkE) :: (sdq2 l), [(sdq0 s), sdq1]⟩) (by kernel_rfl) (by kernel_rfl) ?_
  refine EL.condF (by kernel_rfl) ?_
  refine EL.skip ?_
  exact thenL_norm (HJ1.get (Or.inr ⟨by kernel_rfl, (Or.inr (by first | exact g2 | exact h2 | simp_all | omega))⟩))
  rintro _ (⟨rfl, h4, h5⟩ | ⟨rfl, hD6⟩)
  have g4 : (s.checkE = 0) := by simpa using h4
  have g5 : ((List.length l : Int) > 200) := of_decide_eq_true h5
  have n5 : ((List.length l) > 200) := by omega
  refine EL.seq ?_
  refine EL.sreg ?_
  refine OW.last 2 [1, 2, 4, 7, 23] (x' := ⟨(23, .v (.bool true)) :: (sdq5 l), [(sdq0 s), sdq1]⟩) (by kernel_rfl) (by kernel_rfl) ?_
  refine EL.condT (by kernel_rfl) ?_
  refine EL.sreg ?_
  refine OW.last 5 [4, 5, 6] (x' := ⟨[(6, VI 2), (5, VI 0), (4, .ref 1 8 0 0)], [(sdq0 s), sdq1]⟩) (by kernel_rfl) (by kernel_rfl) ?_
  refine EL.ret ?_
  refine thenL_ret ?_
  refine ⟨.inr rfl, .tup [.agg [.emp, .emp, .emp, VI 0, VI 0, VI 0, .emp, .emp], VI 0, VI 2], by kernel_rfl, Ale.trans (b := .tup [sdq7, VI 0, VI 2]) (Ale.tup (.cons (Ale.agg (.cons (Ale.emp) (.cons (Ale.emp) (.cons (Ale.emp) (.cons (Ale.refl) (.cons (Ale.refl) (.cons (Ale.refl) (.cons (Ale.emp) (.cons (Ale.emp) (.nil)))))))))) (.cons (Ale.refl) (.cons (Ale.refl) (.nil))))) (Ale.of_eq ?_)⟩
  focus (first | (rw [Ship.runP_n ‹_›]; rfl) | (rw [Ship.runP_2 ‹_› (by omega)]; rfl) | (rw [Ship.runP_0 hc0 (by omega), hs, List.drop_eq_nil_of_le (by omega)]; rfl))
  refine EL.seq ?_
  refine EL.sreg ?_
  refine OW.last 2 [1, 2, 4, 7, 23] (x' := ⟨(23, .v (.bool (s.checkE != 0))) :: (sdq6 l s), [(sdq0 s), sdq1]⟩) (by kernel_rfl) (by kernel_rfl) ?_
  rcases Bool.eq_false_or_eq_true ((s.checkE != 0)) with h7 | h7
  rw [h7]
  have g7 : ¬ (s.checkE = 0) := by simpa using h7
  refine EL.condT (by kernel_rfl) ?_
  refine EL.sreg ?_
  refine OW.last 5 [4, 5, 6] (x' := ⟨(sdq8 s), [(sdq0 s), sdq1]⟩) (by kernel_rfl) (by kernel_rfl) ?_
  refine EL.ret ?_
  refine thenL_ret ?_
  refine ⟨.inr rfl, .tup [.agg [.emp, .emp, .emp, VI 0, VI 0, VI 0, .emp, .emp], VI 0, VI s.checkE], by kernel_rfl, Ale.trans (b := .tup [sdq7, VI 0, VI s.checkE]) (Ale.tup (.cons (Ale.agg (.cons (Ale.emp) (.cons (Ale.emp) (.cons (Ale.emp) (.cons (Ale.refl) (.cons (Ale.refl) (.cons (Ale.refl) (.cons (Ale.emp) (.cons (Ale.emp) (.nil)))))))))) (.cons (Ale.refl) (.cons (Ale.refl) (.nil))))) (Ale.of_eq ?_)⟩
  focus (first | (rw [Ship.runP_n ‹_›]; rfl) | (rw [Ship.runP_2 ‹_› (by omega)]; rfl) | (rw [Ship.runP_0 hc0 (by omega), hs, List.drop_eq_nil_of_le (by omega)]; rfl))
  rw [h7]
  have g7 : (s.checkE = 0) := by simpa using h7
  refine EL.condF (by kernel_rfl) ?_
  refine EL.skip ?_
  refine thenL_norm ?_
  refine EL.sreg ?_
  refine OW.run 1 (x' := ⟨(26, (sdq3 s)) :: (23, .v (.bool false)) :: (sdq6 l s), [(sdq0 s), sdq1]⟩) (by kernel_rfl) ?_
  refine OW.fn (ar := [(sdq3 s)]) (x' := ⟨(sdq9 s l), [(sdq0 s), sdq1]⟩) (by kernel_rfl) (by kernel_rfl) F42_call (own_fn s (by have hh := (Ship.checkE_0.1 ‹_›).small; omega)) (by kernel_rfl) (by kernel_rfl) ?_
  refine OW.last 1 [1, 2, 4] (x' := ⟨(sdq10 l), [(sdq0 s), sdq1]⟩) (by kernel_rfl) (by kernel_rfl) ?_
  refine EL.sreg ?_
  refine OW.last 1 [1, 2, 4, 8] (x' := ⟨(8, VI 0) :: (sdq10 l), [(sdq0 s), sdq1]⟩) (by kernel_rfl) (by kernel_rfl) ?_
  refine EL.seq ?_
  refine EL.sreg ?_
  refine OW.run 1 (x' := ⟨(28, .lst 3 (l.map Act.cs)) :: (8, VI 0) :: (sdq10 l), [(sdq0 s), sdq1]⟩) (by kernel_rfl) ?_
  refine OW.ope (v := VI (List.length l : Int)) (u := []) (acc := []) (x' := ⟨(sdq11 l), [(sdq0 s), sdq1]⟩) (by kernel_rfl) (opE_len Act.cs l (.s 28) 3 (by kernel_rfl) (by kernel_rfl) (.inl rfl)) (by kernel_rfl) ?_
  refine OW.last 1 [2, 4, 8, 28, 29, 30] (x' := ⟨(sdq12 l), [(sdq0 s), sdq1]⟩) (by kernel_rfl) (by kernel_rfl) ?_
  refine EL.block ?_
  refine EL.loopN (fun m x => ∃ (k : Nat) (c : Ship) (n : Int), m = l.length - k ∧ (k ≤ l.length ∧ l.length ≤ 200 ∧ s.checkE = 0 ∧ c.Ok ∧ 0 ≤ n ∧ n ≤ k ∧ s.runGo l 0 = c.runGo (l.drop k) n) ∧ x = ⟨(sdq14 n l k), [(sdq13 c), sdq1]⟩) (y := (fun (k : Nat) (c : Ship) (n : Int) => (⟨(sdq14 n l k), [(sdq13 c), sdq1]⟩ : L3)) 0 s 0) [2, 4, 8, 28, 29, 30] [.old 0 false, .old 1 false] [] (by kernel_rfl) trivial ⟨0, s, 0, rfl, by have hc0 : s.checkE = 0 := ‹_›; refine ⟨by omega, by omega, hc0, Ship.checkE_0.1 hc0, by omega, by omega, by simp⟩, rfl⟩ ?_
  rintro _ _ ⟨k, c, n, rfl, hI8, rfl⟩
  obtain ⟨hk, hl2, hc0, hok, hn0, hn1, hs⟩ := hI8
  refine EL.sreg ?_
  refine OW.last 1 [2, 4, 8, 28, 29, 30, 31] (x' := ⟨(31, .v (.bool (decide ((k : Int) < (List.length l : Int))))) :: (sdq14 n l k), [(sdq13 c), sdq1]⟩) (by kernel_rfl) (by kernel_rfl) ?_
  refine EL.seq ?_
  rcases Bool.eq_false_or_eq_true (decide ((k : Int) < (List.length l : Int))) with h9 | h9
  rw [h9]
  have g9 : ((k : Int) < (List.length l : Int)) := of_decide_eq_true h9
  have n9 : ((k) < (List.length l)) := by omega
  refine EL.condT (by kernel_rfl) ?_
  refine EL.skip ?_
  refine thenL_norm ?_
  refine EL.seq ?_
  refine EL.block ?_
  refine EL.sreg ?_
  obtain ⟨a10, ha10⟩ : ∃ y, l[((k : Int) : Int).toNat]? = some y := idx_ex ⟨by omega, by omega⟩
  have iha10 : l[k]? = some a10 := by simpa using ha10
  have dha10 := drop_get iha10
  refine OW.ope (v := .pim [VI a10.kind, VI a10.n, .v (.string a10.data)] 0) (u := []) (acc := []) (x' := ⟨(sdq15 a10 n l k), [(sdq13 c), sdq1]⟩) (by kernel_rfl) (opE_iad Act.cs l (.s 28) (.s 30) 3 .i64 (k : Int) a10 (by kernel_rfl) (by kernel_rfl) (.inl rfl) rfl (by omega) ha10) (by kernel_rfl) ?_
  refine OW.last 3 [2, 4, 8, 10, 28, 29, 30] (x' := ⟨(10, .ref 2 3 0 0) :: (sdq14 n l k), (sdq16 c a10)⟩) (by kernel_rfl) (by kernel_rfl) ?_
  refine EL.sreg ?_
  refine OW.run 2 (x' := ⟨(sdq18 a10 c n l k), (sdq16 c a10)⟩) (by kernel_rfl) ?_
  refine OW.fn (ar := [(sdq17 c), .agg [VI a10.kind, VI a10.n, .v (.string a10.data)]]) (x' := ⟨(sdq20 c a10 n l k), (sdq16 c a10)⟩) (by kernel_rfl) (by kernel_rfl) F32_call (step_fn c a10 (by first | assumption | exact Ship.checkE_0.1 ‹_›)) (by kernel_rfl) (by kernel_rfl) ?_
  refine OW.last 6 [2, 4, 8, 11, 12, 28, 29, 30] (x' := ⟨(sdq23 c a10 n l k), (sdq22 c a10)⟩) (by kernel_rfl) (by kernel_rfl) ?_
  refine EL.sreg ?_
  refine OW.last 2 [2, 4, 8, 11, 28, 29, 30, 41] (x' := ⟨(41, .v (.bool (((c.stepP a10).2) == 0))) :: (11, .ref 3 8 0 0) :: (sdq14 n l k), (sdq22 c a10)⟩) (by kernel_rfl) (by kernel_rfl) ?_
  rcases Bool.eq_false_or_eq_true ((((c.stepP a10).2) == 0)) with h11 | h11
  rw [h11]
  have g11 : (((c.stepP a10).2) = 0) := by simpa using h11
  refine EL.condT (by kernel_rfl) ?_
  refine EL.sreg ?_
  refine OW.last 2 [2, 4, 8, 28, 29, 30] (x' := ⟨(sdq14 n l k), (sdq24 c a10)⟩) (by kernel_rfl) (by kernel_rfl) ?_
  refine EL.reg0 ?_
  refine OW.run 3 (x' := ⟨(8, VI (IntKind.i64.wrap (n + 1))) :: (44, VI (IntKind.i64.wrap (n + 1))) :: (sdq25 n l k), (sdq24 c a10)⟩) (by kernel_rfl) ?_
  have e12 : IntKind.i64.wrap (n + 1) = n + 1 := wr64 (by omega)
  rw [e12]
  refine OW.end 0 (x' := ⟨(8, VI (n + 1)) :: (44, VI (n + 1)) :: (sdq25 n l k), (sdq24 c a10)⟩) (by kernel_rfl) (by kernel_rfl) ?_
  refine inBlk_norm ?_
  refine thenL_norm ?_
  refine EL.reg0 ?_
  refine OW.run 2 (x' := ⟨(30, VI (IntKind.i64.wrap ((k : Int) + 1))) :: (45, VI (IntKind.i64.wrap ((k : Int) + 1))) :: (sdq26 n l), (sdq24 c a10)⟩) (by kernel_rfl) ?_
  have e13 : IntKind.i64.wrap ((k : Int) + 1) = (k : Int) + 1 := wr64 (by omega)
  rw [e13]
  refine OW.end 0 (x' := ⟨(sdq27 k n l), (sdq24 c a10)⟩) (by kernel_rfl) (by kernel_rfl) ?_
  refine thenL_norm ?_
  refine round_end (live := [2, 4, 8, 28, 29, 30]) (src := [.old 0 false, .old 1 false]) (es := []) (y := (fun (k : Nat) (c : Ship) (n : Int) => (⟨(sdq14 n l k), [(sdq13 c), sdq1]⟩ : L3)) (k + 1) ((c.stepP a10).1) (n + 1)) ?_ trivial ?_ ⟨(k + 1), ((c.stepP a10).1), (n + 1), rfl, ?_, rfl⟩
  kernel_rfl
  omega
  focus (first | (refine ⟨by omega, by omega, hc0, Ship.step_ok hok ‹_›, by omega, by omega, ?_⟩; rw [hs]; simp [Ship.runGo, *]; done) | (refine ⟨by omega, by omega, hc0, hok, by omega, by omega, ?_⟩; rw [hs]; simp [Ship.runGo, *]; done))
  rw [h11]
  have g11 : ¬ (((c.stepP a10).2) = 0) := by simpa using h11
  refine EL.condF (by kernel_rfl) ?_
  refine EL.skip ?_
  refine inBlk_norm ?_
  refine thenL_norm ?_
  refine EL.reg0 ?_
  refine OW.run 2 (x' := ⟨(30, VI (IntKind.i64.wrap ((k : Int) + 1))) :: (45, VI (IntKind.i64.wrap ((k : Int) + 1))) :: (sdq28 n l), (sdq22 c a10)⟩) (by kernel_rfl) ?_
  have e14 : IntKind.i64.wrap ((k : Int) + 1) = (k : Int) + 1 := wr64 (by omega)
  rw [e14]
  refine OW.end 0 (x' := ⟨(sdq29 k n l), (sdq22 c a10)⟩) (by kernel_rfl) (by kernel_rfl) ?_
  refine thenL_norm ?_
  refine round_end (live := [2, 4, 8, 28, 29, 30]) (src := [.old 0 false, .old 1 false]) (es := []) (y := (fun (k : Nat) (c : Ship) (n : Int) => (⟨(sdq14 n l k), [(sdq13 c), sdq1]⟩ : L3)) (k + 1) c n) ?_ trivial ?_ ⟨(k + 1), c, n, rfl, ?_, rfl⟩
  kernel_rfl
  omega
  focus (first | (refine ⟨by omega, by omega, hc0, Ship.step_ok hok ‹_›, by omega, by omega, ?_⟩; rw [hs]; simp [Ship.runGo, *]; done) | (refine ⟨by omega, by omega, hc0, hok, by omega, by omega, ?_⟩; rw [hs]; simp [Ship.runGo, *]; done))
  rw [h9]
  have g9 : ¬ ((k : Int) < (List.length l : Int)) := of_decide_eq_false h9
  have n9 : ¬ ((k) < (List.length l)) := by omega
  refine EL.condF (by kernel_rfl) ?_
  refine EL.exit ?_
  refine thenL_exit ?_
  refine thenL_exit ?_
  refine inBlk_hit ?_
  refine thenL_norm ?_
  refine EL.sreg ?_
  refine OW.last 5 [4, 5, 6] (x' := ⟨[(6, VI 0), (5, VI n), (4, .ref 1 8 0 0)], [(sdq13 c), (sdq13 c)]⟩) (by kernel_rfl) (by kernel_rfl) ?_
  refine EL.ret ?_
  refine ⟨.inr rfl, .tup [(sdq17 c), VI n, VI 0], by kernel_rfl, Ale.of_eq ?_⟩
  focus (first | (rw [Ship.runP_n ‹_›]; rfl) | (rw [Ship.runP_2 ‹_› (by omega)]; rfl) | (rw [Ship.runP_0 hc0 (by omega), hs, List.drop_eq_nil_of_le (by omega)]; rfl))
abbrev sdq30 : LS := [(4, .ref 2 8 0 0), (3, .ref 1 3 0 0), (2, .ref 0 8 0 0)]
abbrev sdq31 (n : Int) : LS := (36, VI n) :: (35, .ref 1 3 0 1) :: (34, .v (.bool false)) :: (33, .v (.bool false)) :: (32, .v undef) :: (31, .v undef) :: (30, .v undef) :: (29, .v undef) :: (28, .v (.bool false)) :: (27, .v (.bool false)) :: (26, VI 1) :: (25, .ref 1 3 0 0) :: (23, .v (.bool false)) :: sdq30
abbrev sdq32 : LS := [(2, .ref 0 8 0 0), (3, .ref 1 3 0 0), (4, .ref 2 8 0 0)]
abbrev sdq33 : LS := (8, .v (.bool false)) :: (7, .v (.bool false)) :: sdq32
abbrev sdq34 (n : Int) : LS := (71, VI n) :: (70, .ref 1 3 0 1) :: (69, .v (.bool true)) :: (68, .v (.bool true)) :: (67, VI 1) :: (66, .ref 1 3 0 0) :: sdq33
abbrev sdq35 (s : Ship) (n : Int) : LS := (77, .lst 1 (s.first.map cZ)) :: (76, .ref 0 8 0 0) :: (75, VI n) :: (74, .ref 1 3 0 1) :: (73, .v (.bool false)) :: (72, .v (.bool false)) :: (sdq34 n)
abbrev sdq36 (d : ByteArray) : LS := (133, VI (ByteArray.size d : Int)) :: (132, .v (.string d)) :: (131, .ref 1 3 0 2) :: (130, .v (.bool true)) :: (129, .v (.bool true)) :: (128, VI 1) :: (127, .ref 1 3 0 0) :: (125, .v (.bool false)) :: sdq33
abbrev sdq37 (s : Ship) (d : ByteArray) : LS := (137, .lst 2 (s.log.map Record.cs)) :: (136, .ref 0 8 0 2) :: (135, .v (.bool false)) :: (134, .v (.bool false)) :: (sdq36 d)
abbrev sdq38 (d : ByteArray) (n : Int) (s : Ship) : LS := (173, .v (.string d)) :: (172, .ref 1 3 0 2) :: (171, VI n) :: (170, .ref 1 3 0 1) :: (169, .lst 1 (s.first.map cZ)) :: (168, .ref 0 8 0 0) :: (167, .v (.bool true)) :: sdq33
abbrev sdq39 (s : Ship) (n : Int) (d : ByteArray) : LS := (174, .lst 1 ((s.first.set n.toNat d).map cZ)) :: (sdq38 d n s)
abbrev sdq40 (s : Ship) (n : Int) (d : ByteArray) : OB := some ⟨8, [[.lst 1 ((s.first.set n.toNat d).map cZ), .lst 1 (s.second.map cZ), .lst 2 (s.log.map Record.cs), VI s.sent, VI s.applied, VI s.known, .lst 1 (s.there.map cI), .lst 1 (s.back.map cI)]]⟩
abbrev sdq41 (s : Ship) (n : Int) (d : ByteArray) : LB := [(sdq40 s n d), some ⟨3, [[VI 1, VI n, .v (.string d)]]⟩, sdq1]
abbrev sdq42 (s : Ship) (n : Int) (d : ByteArray) : LB := [(sdq40 s n d), some ⟨3, [[VI 1, VI n, .v (.string d)]]⟩, sdq1, some ⟨2, []⟩]
abbrev sdq43 (s : Ship) : LS := (178, .lst 2 (s.log.map Record.cs)) :: (177, .ref 0 8 0 2) :: (176, .own 3 2 0 0) :: sdq33
abbrev sdq44 (s : Ship) (n : Int) (d : ByteArray) : LB := [(sdq40 s n d), some ⟨3, [[VI 1, VI n, .v (.string d)]]⟩, sdq1, none, some ⟨2, (s.log.map Record.cs)⟩]
abbrev sdq45 (s : Ship) (n : Int) (d : ByteArray) : LB := [(sdq40 s n d), some ⟨3, [[VI 1, VI n, .v (.string d)]]⟩, sdq1, none, some ⟨2, (s.log.map Record.cs)⟩, some ⟨2, [[VI n, .v (.string d)]]⟩]
abbrev sdq46 (n : Int) (d : ByteArray) (s : Ship) : LS := (185, .own 5 2 0 1) :: (184, .agg [VI n, .v (.string d)]) :: (183, .v (.string d)) :: (182, .ref 1 3 0 2) :: (181, VI n) :: (180, .ref 1 3 0 1) :: (179, .own 4 2 0 (List.length s.log)) :: (sdq43 s)
abbrev sdq47 (s : Ship) (n : Int) (d : ByteArray) : LB := [(sdq40 s n d), some ⟨3, [[VI 1, VI n, .v (.string d)]]⟩, sdq1, none, none, some ⟨2, [[VI n, .v (.string d)]]⟩, some ⟨2, ((s.log ++ ([(⟨n, d⟩ : Record)])).map Record.cs)⟩]
abbrev sdq48 (s : Ship) (n : Int) (d : ByteArray) : LS := (186, .own 6 2 0 (List.length (s.log ++ ([(⟨n, d⟩ : Record)])))) :: (sdq46 n d s)
abbrev sdq49 (s : Ship) (n : Int) (d : ByteArray) : OB := some ⟨8, [[.lst 1 ((s.first.set n.toNat d).map cZ), .lst 1 (s.second.map cZ), .own 6 2 0 (List.length (s.log ++ ([(⟨n, d⟩ : Record)]))), VI s.sent, VI s.applied, VI s.known, .lst 1 (s.there.map cI), .lst 1 (s.back.map cI)]]⟩
abbrev sdq50 (s : Ship) (n : Int) (d : ByteArray) : LB := [(sdq49 s n d), some ⟨3, [[VI 1, VI n, .v (.string d)]]⟩, sdq1, none, none, some ⟨2, [[VI n, .v (.string d)]]⟩, some ⟨2, ((s.log ++ ([(⟨n, d⟩ : Record)])).map Record.cs)⟩]
abbrev sdq51 : LS := (244, .v (.bool false)) :: (8, .v (.bool false)) :: sdq32
abbrev sdq52 : LS := (264, .v (.bool false)) :: (8, .v (.bool false)) :: sdq32
abbrev sdq53 : LS := [(295, .v (.bool false)), (2, .ref 0 8 0 0), (4, .ref 2 8 0 0)]
abbrev sdq54 (s : Ship) (n : Int) (d : ByteArray) : LB := [(sdq49 s n d), some ⟨3, [[VI 1, VI n, .v (.string d)]]⟩, (sdq49 s n d), none, none, some ⟨2, [[VI n, .v (.string d)]]⟩, some ⟨2, ((s.log ++ ([(⟨n, d⟩ : Record)])).map Record.cs)⟩]
theorem rdo1_fn (s : Ship) (n : Int) (d : ByteArray) (ok : s.Ok) : Fn Try.prog 14 [.agg [.lst 1 (s.first.map cZ), .lst 1 (s.second.map cZ), .lst 2 (s.log.map Record.cs), VI s.sent, VI s.applied, VI s.known, .lst 1 (s.there.map cI), .lst 1 (s.back.map cI)], .agg [VI 1, VI n, .v (.string d)]] (.tup [.agg [.lst 1 ((((s.stepP ⟨1, n, d⟩).1).first).map cZ), .lst 1 ((((s.stepP ⟨1, n, d⟩).1).second).map cZ), .lst 2 ((((s.stepP ⟨1, n, d⟩).1).log).map Record.cs), VI (((s.stepP ⟨1, n, d⟩).1).sent), VI (((s.stepP ⟨1, n, d⟩).1).applied), VI (((s.stepP ⟨1, n, d⟩).1).known), .lst 1 ((((s.stepP ⟨1, n, d⟩).1).there).map cI), .lst 1 ((((s.stepP ⟨1, n, d⟩).1).back).map cI)], VI ((s.stepP ⟨1, n, d⟩).2)]) := by
  have hx : s.first.length ≤ 9223372036854775807 ∧ s.second.length ≤ 9223372036854775807 ∧ s.log.length ≤ 9223372036854775807 ∧ s.there.length ≤ 9223372036854775807 ∧ s.back.length ≤ 9223372036854775807 := by have hh := ok.small; omega
  have hc0 := Ship.checkE_0.2 ok
  have hc : (s.checkE != 0) = false := by rw [hc0]; rfl
  obtain ⟨⟨a1, a2⟩, b1, c1, c2, ⟨d1, d2, d3⟩, ee, ⟨k1, k2, k3, k4, k5⟩, tt, bb⟩ := ok
  refine fn_walkW F14_ok (of_decide_eq_true (by kernel_rfl)) ?_
  refine EL.sreg ?_
  refine OW.last 4 [2, 3, 4] (x' := ⟨sdq30, [(sdq0 s), some ⟨3, [[VI 1, VI n, .v (.string d)]]⟩, sdq1]⟩) (by kernel_rfl) (by kernel_rfl) ?_
  refine EL.sreg ?_
  refine OW.run 1 (x' := ⟨(10, (sdq3 s)) :: sdq30, [(sdq0 s), some ⟨3, [[VI 1, VI n, .v (.string d)]]⟩, sdq1]⟩) (by kernel_rfl) ?_
  refine OW.fn (ar := [(sdq3 s)]) (x' := ⟨(11, VI s.checkE) :: (10, (sdq3 s)) :: sdq30, [(sdq0 s), some ⟨3, [[VI 1, VI n, .v (.string d)]]⟩, sdq1]⟩) (by kernel_rfl) (by kernel_rfl) F18_call (rcheck_fn s hx) (by kernel_rfl) (by kernel_rfl) ?_
  refine OW.last 1 [2, 3, 4, 6] (x' := ⟨(6, VI s.checkE) :: sdq30, [(sdq0 s), some ⟨3, [[VI 1, VI n, .v (.string d)]]⟩, sdq1]⟩) (by kernel_rfl) (by kernel_rfl) ?_
  refine EL.seq ?_
  refine EL.sreg ?_
  refine OW.last 2 [2, 3, 4, 6, 13] (x' := ⟨(13, .v (.bool (s.checkE != 0))) :: (6, VI s.checkE) :: sdq30, [(sdq0 s), some ⟨3, [[VI 1, VI n, .v (.string d)]]⟩, sdq1]⟩) (by kernel_rfl) (by kernel_rfl) ?_
  rw [hc]
  refine EL.condF (by kernel_rfl) ?_
  refine EL.skip ?_
  refine thenL_norm ?_
  refine EL.seq ?_
  refine EL.sreg ?_
  refine OW.last 8 [2, 3, 4, 23] (x' := ⟨(23, .v (.bool false)) :: sdq30, [(sdq0 s), some ⟨3, [[VI 1, VI n, .v (.string d)]]⟩, sdq1]⟩) (by kernel_rfl) (by kernel_rfl) ?_
  refine EL.condF (by kernel_rfl) ?_
  refine EL.skip ?_
  refine thenL_norm ?_
  refine EL.seqG [2, 3, 4] (fun y => (y = ⟨sdq32, [(sdq0 s), some ⟨3, [[VI 1, VI n, .v (.string d)]]⟩, sdq1]⟩ ∧ ((¬ (n = 0)) ∨ ((n = 0))))) ?_ ?_
  intro IHJ1 HJ1
  refine EL.sreg ?_
  refine OW.run 14 (x' := ⟨(38, .v (.bool (n != 0))) :: (37, .v (.bool (n != 0))) :: (sdq31 n), [(sdq0 s), some ⟨3, [[VI 1, VI n, .v (.string d)]]⟩, sdq1]⟩) (by kernel_rfl) ?_
  rcases Bool.eq_false_or_eq_true ((n != 0)) with h2 | h2
  rw [h2]
  have g2 : ¬ (n = 0) := by simpa using h2
  refine OW.last 10 [2, 3, 4, 48] (x' := ⟨(48, .v (.bool false)) :: sdq30, [(sdq0 s), some ⟨3, [[VI 1, VI n, .v (.string d)]]⟩, sdq1]⟩) (by kernel_rfl) (by kernel_rfl) ?_
  refine EL.condF (by kernel_rfl) ?_
  refine EL.skip ?_
  exact thenL_norm (HJ1.get ⟨by kernel_rfl, (Or.inl (by first | exact g2 | exact h2 | simp_all | omega))⟩)
  rw [h2]
  have g2 : (n = 0) := by simpa using h2
  refine OW.last 10 [2, 3, 4, 48] (x' := ⟨(48, .v (.bool false)) :: sdq30, [(sdq0 s), some ⟨3, [[VI 1, VI n, .v (.string d)]]⟩, sdq1]⟩) (by kernel_rfl) (by kernel_rfl) ?_
  refine EL.condF (by kernel_rfl) ?_
  refine EL.skip ?_
  exact thenL_norm (HJ1.get ⟨by kernel_rfl, (Or.inr (by first | exact g2 | exact h2 | simp_all | omega))⟩)
  rintro _ (⟨rfl, hD3⟩)
  refine EL.sreg ?_
  refine OW.last 9 [2, 3, 4, 7] (x' := ⟨(7, .v (.bool false)) :: sdq32, [(sdq0 s), some ⟨3, [[VI 1, VI n, .v (.string d)]]⟩, sdq1]⟩) (by kernel_rfl) (by kernel_rfl) ?_
  refine EL.sreg ?_
  refine OW.last 9 [2, 3, 4, 7, 8] (x' := ⟨sdq33, [(sdq0 s), some ⟨3, [[VI 1, VI n, .v (.string d)]]⟩, sdq1]⟩) (by kernel_rfl) (by kernel_rfl) ?_
  refine EL.seq ?_
  refine EL.sreg ?_
  refine OW.run 8 (x' := ⟨(73, .v (.bool (decide (n < 0)))) :: (72, .v (.bool (decide (n < 0)))) :: (sdq34 n), [(sdq0 s), some ⟨3, [[VI 1, VI n, .v (.string d)]]⟩, sdq1]⟩) (by kernel_rfl) ?_
  rcases Bool.eq_false_or_eq_true (decide (n < 0)) with h4 | h4
  rw [h4]
  have g4 : (n < 0) := of_decide_eq_true h4
  refine OW.last 40 [2, 3, 4, 7, 8, 113] (x' := ⟨(113, .v (.bool true)) :: sdq33, [(sdq0 s), some ⟨3, [[VI 1, VI n, .v (.string d)]]⟩, sdq1]⟩) (by kernel_rfl) (by kernel_rfl) ?_
  refine EL.condT (by kernel_rfl) ?_
  refine EL.sreg ?_
  refine OW.last 3 [4, 5] (x' := ⟨[(5, VI 3), (4, .ref 2 8 0 0)], [(sdq0 s), some ⟨3, [[VI 1, VI n, .v (.string d)]]⟩, sdq1]⟩) (by kernel_rfl) (by kernel_rfl) ?_
  refine EL.ret ?_
  refine thenL_ret ?_
  refine ⟨.inr rfl, .tup [.agg [.emp, .emp, .emp, VI 0, VI 0, VI 0, .emp, .emp], VI 3], by kernel_rfl, Ale.trans (b := .tup [.agg [.lst 1 [], .lst 1 [], .lst 2 [], VI 0, VI 0, VI 0, .lst 1 [], .lst 1 []], VI 3]) (Ale.tup (.cons (Ale.agg (.cons (Ale.emp) (.cons (Ale.emp) (.cons (Ale.emp) (.cons (Ale.refl) (.cons (Ale.refl) (.cons (Ale.refl) (.cons (Ale.emp) (.cons (Ale.emp) (.nil)))))))))) (.cons (Ale.refl) (.nil)))) (Ale.of_eq ?_)⟩
  focus ((first | (exfalso; omega) | (clear ee tt bb; (try simp only [← List.eraseIdx_eq_take_drop_succ]); rw [Ship.step_1]; (try simp only [ba_empty]); (try split) <;> first | rfl | contradiction | (exfalso; omega) | (exfalso; simp_all; done) | (simp only [Ship.writeP, wi_iff]; (repeat' split) <;> first | rfl | (exfalso; omega) | (simp; done) | (simp; omega) | (simp_all; done) | (simp_all; omega)))))
  rw [h4]
  have g4 : ¬ (n < 0) := of_decide_eq_false h4
  refine OW.run 4 (x' := ⟨(sdq35 s n), [(sdq0 s), some ⟨3, [[VI 1, VI n, .v (.string d)]]⟩, sdq1]⟩) (by kernel_rfl) ?_
  refine OW.ope (v := VI (List.length s.first : Int)) (u := []) (acc := []) (x' := ⟨(78, VI (List.length s.first : Int)) :: (sdq35 s n), [(sdq0 s), some ⟨3, [[VI 1, VI n, .v (.string d)]]⟩, sdq1]⟩) (by kernel_rfl) (opE_len cZ s.first (.s 77) 1 (by kernel_rfl) (by kernel_rfl) (.inl rfl)) (by kernel_rfl) ?_
  refine OW.run 4 (x' := ⟨(82, .v (.bool (decide (n ≥ (List.length s.first : Int))))) :: (81, .v (.bool (decide (n ≥ (List.length s.first : Int))))) :: (80, .v (.bool (decide (n ≥ (List.length s.first : Int))))) :: (79, .v (.bool (decide (n ≥ (List.length s.first : Int))))) :: (78, VI (List.length s.first : Int)) :: (sdq35 s n), [(sdq0 s), some ⟨3, [[VI 1, VI n, .v (.string d)]]⟩, sdq1]⟩) (by kernel_rfl) ?_
  rcases Bool.eq_false_or_eq_true (decide (n ≥ (List.length s.first : Int))) with h5 | h5
  rw [h5]
  have g5 : (n ≥ (List.length s.first : Int)) := of_decide_eq_true h5
  refine OW.last 31 [2, 3, 4, 7, 8, 113] (x' := ⟨(113, .v (.bool true)) :: sdq33, [(sdq0 s), some ⟨3, [[VI 1, VI n, .v (.string d)]]⟩, sdq1]⟩) (by kernel_rfl) (by kernel_rfl) ?_
  refine EL.condT (by kernel_rfl) ?_
  refine EL.sreg ?_
  refine OW.last 3 [4, 5] (x' := ⟨[(5, VI 3), (4, .ref 2 8 0 0)], [(sdq0 s), some ⟨3, [[VI 1, VI n, .v (.string d)]]⟩, sdq1]⟩) (by kernel_rfl) (by kernel_rfl) ?_
  refine EL.ret ?_
  refine thenL_ret ?_
  refine ⟨.inr rfl, .tup [.agg [.emp, .emp, .emp, VI 0, VI 0, VI 0, .emp, .emp], VI 3], by kernel_rfl, Ale.trans (b := .tup [.agg [.lst 1 [], .lst 1 [], .lst 2 [], VI 0, VI 0, VI 0, .lst 1 [], .lst 1 []], VI 3]) (Ale.tup (.cons (Ale.agg (.cons (Ale.emp) (.cons (Ale.emp) (.cons (Ale.emp) (.cons (Ale.refl) (.cons (Ale.refl) (.cons (Ale.refl) (.cons (Ale.emp) (.cons (Ale.emp) (.nil)))))))))) (.cons (Ale.refl) (.nil)))) (Ale.of_eq ?_)⟩
  focus ((first | (exfalso; omega) | (clear ee tt bb; (try simp only [← List.eraseIdx_eq_take_drop_succ]); rw [Ship.step_1]; (try simp only [ba_empty]); (try split) <;> first | rfl | contradiction | (exfalso; omega) | (exfalso; simp_all; done) | (simp only [Ship.writeP, wi_iff]; (repeat' split) <;> first | rfl | (exfalso; omega) | (simp; done) | (simp; omega) | (simp_all; done) | (simp_all; omega)))))
  rw [h5]
  have g5 : ¬ (n ≥ (List.length s.first : Int)) := of_decide_eq_false h5
  refine OW.last 31 [2, 3, 4, 7, 8, 113] (x' := ⟨(113, .v (.bool false)) :: sdq33, [(sdq0 s), some ⟨3, [[VI 1, VI n, .v (.string d)]]⟩, sdq1]⟩) (by kernel_rfl) (by kernel_rfl) ?_
  refine EL.condF (by kernel_rfl) ?_
  refine EL.skip ?_
  refine thenL_norm ?_
  refine EL.seq ?_
  refine EL.sreg ?_
  refine OW.last 11 [2, 3, 4, 7, 8, 125] (x' := ⟨(125, .v (.bool false)) :: sdq33, [(sdq0 s), some ⟨3, [[VI 1, VI n, .v (.string d)]]⟩, sdq1]⟩) (by kernel_rfl) (by kernel_rfl) ?_
  refine EL.condF (by kernel_rfl) ?_
  refine EL.skip ?_
  refine thenL_norm ?_
  refine EL.seq ?_
  refine EL.sreg ?_
  refine OW.run 9 (x' := ⟨(135, .v (.bool (decide ((ByteArray.size d : Int) > 64)))) :: (134, .v (.bool (decide ((ByteArray.size d : Int) > 64)))) :: (sdq36 d), [(sdq0 s), some ⟨3, [[VI 1, VI n, .v (.string d)]]⟩, sdq1]⟩) (by kernel_rfl) ?_
  rcases Bool.eq_false_or_eq_true (decide ((ByteArray.size d : Int) > 64)) with h6 | h6
  rw [h6]
  have g6 : ((ByteArray.size d : Int) > 64) := of_decide_eq_true h6
  have n6 : ((ByteArray.size d) > 64) := by omega
  refine OW.last 28 [2, 3, 4, 7, 8, 163] (x' := ⟨(163, .v (.bool true)) :: sdq33, [(sdq0 s), some ⟨3, [[VI 1, VI n, .v (.string d)]]⟩, sdq1]⟩) (by kernel_rfl) (by kernel_rfl) ?_
  refine EL.condT (by kernel_rfl) ?_
  refine EL.sreg ?_
  refine OW.last 3 [4, 5] (x' := ⟨[(5, VI 2), (4, .ref 2 8 0 0)], [(sdq0 s), some ⟨3, [[VI 1, VI n, .v (.string d)]]⟩, sdq1]⟩) (by kernel_rfl) (by kernel_rfl) ?_
  refine EL.ret ?_
  refine thenL_ret ?_
  refine ⟨.inr rfl, .tup [.agg [.emp, .emp, .emp, VI 0, VI 0, VI 0, .emp, .emp], VI 2], by kernel_rfl, Ale.trans (b := .tup [.agg [.lst 1 [], .lst 1 [], .lst 2 [], VI 0, VI 0, VI 0, .lst 1 [], .lst 1 []], VI 2]) (Ale.tup (.cons (Ale.agg (.cons (Ale.emp) (.cons (Ale.emp) (.cons (Ale.emp) (.cons (Ale.refl) (.cons (Ale.refl) (.cons (Ale.refl) (.cons (Ale.emp) (.cons (Ale.emp) (.nil)))))))))) (.cons (Ale.refl) (.nil)))) (Ale.of_eq ?_)⟩
  focus ((first | (exfalso; omega) | (clear ee tt bb; (try simp only [← List.eraseIdx_eq_take_drop_succ]); rw [Ship.step_1]; (try simp only [ba_empty]); (try split) <;> first | rfl | contradiction | (exfalso; omega) | (exfalso; simp_all; done) | (simp only [Ship.writeP, wi_iff]; (repeat' split) <;> first | rfl | (exfalso; omega) | (simp; done) | (simp; omega) | (simp_all; done) | (simp_all; omega)))))
  rw [h6]
  have g6 : ¬ ((ByteArray.size d : Int) > 64) := of_decide_eq_false h6
  have n6 : ¬ ((ByteArray.size d) > 64) := by omega
  refine OW.run 2 (x' := ⟨(sdq37 s d), [(sdq0 s), some ⟨3, [[VI 1, VI n, .v (.string d)]]⟩, sdq1]⟩) (by kernel_rfl) ?_
  refine OW.ope (v := VI (List.length s.log : Int)) (u := []) (acc := []) (x' := ⟨(138, VI (List.length s.log : Int)) :: (sdq37 s d), [(sdq0 s), some ⟨3, [[VI 1, VI n, .v (.string d)]]⟩, sdq1]⟩) (by kernel_rfl) (opE_len Record.cs s.log (.s 137) 2 (by kernel_rfl) (by kernel_rfl) (.inl rfl)) (by kernel_rfl) ?_
  refine OW.run 4 (x' := ⟨(142, .v (.bool ((List.length s.log : Int) == 60))) :: (141, .v (.bool ((List.length s.log : Int) == 60))) :: (140, .v (.bool ((List.length s.log : Int) == 60))) :: (139, .v (.bool ((List.length s.log : Int) == 60))) :: (138, VI (List.length s.log : Int)) :: (sdq37 s d), [(sdq0 s), some ⟨3, [[VI 1, VI n, .v (.string d)]]⟩, sdq1]⟩) (by kernel_rfl) ?_
  rcases Bool.eq_false_or_eq_true (((List.length s.log : Int) == 60)) with h7 | h7
  rw [h7]
  have g7 : ((List.length s.log : Int) = 60) := by simpa using h7
  have n7 : ((List.length s.log) = 60) := by omega
  refine OW.last 21 [2, 3, 4, 7, 8, 163] (x' := ⟨(163, .v (.bool true)) :: sdq33, [(sdq0 s), some ⟨3, [[VI 1, VI n, .v (.string d)]]⟩, sdq1]⟩) (by kernel_rfl) (by kernel_rfl) ?_
  refine EL.condT (by kernel_rfl) ?_
  refine EL.sreg ?_
  refine OW.last 3 [4, 5] (x' := ⟨[(5, VI 2), (4, .ref 2 8 0 0)], [(sdq0 s), some ⟨3, [[VI 1, VI n, .v (.string d)]]⟩, sdq1]⟩) (by kernel_rfl) (by kernel_rfl) ?_
  refine EL.ret ?_
  refine thenL_ret ?_
  refine ⟨.inr rfl, .tup [.agg [.emp, .emp, .emp, VI 0, VI 0, VI 0, .emp, .emp], VI 2], by kernel_rfl, Ale.trans (b := .tup [.agg [.lst 1 [], .lst 1 [], .lst 2 [], VI 0, VI 0, VI 0, .lst 1 [], .lst 1 []], VI 2]) (Ale.tup (.cons (Ale.agg (.cons (Ale.emp) (.cons (Ale.emp) (.cons (Ale.emp) (.cons (Ale.refl) (.cons (Ale.refl) (.cons (Ale.refl) (.cons (Ale.emp) (.cons (Ale.emp) (.nil)))))))))) (.cons (Ale.refl) (.nil)))) (Ale.of_eq ?_)⟩
  focus ((first | (exfalso; omega) | (clear ee tt bb; (try simp only [← List.eraseIdx_eq_take_drop_succ]); rw [Ship.step_1]; (try simp only [ba_empty]); (try split) <;> first | rfl | contradiction | (exfalso; omega) | (exfalso; simp_all; done) | (simp only [Ship.writeP, wi_iff]; (repeat' split) <;> first | rfl | (exfalso; omega) | (simp; done) | (simp; omega) | (simp_all; done) | (simp_all; omega)))))
  rw [h7]
  have g7 : ¬ ((List.length s.log : Int) = 60) := by simpa using h7
  have n7 : ¬ ((List.length s.log) = 60) := by omega
  refine OW.last 21 [2, 3, 4, 7, 8, 163] (x' := ⟨(163, .v (.bool false)) :: sdq33, [(sdq0 s), some ⟨3, [[VI 1, VI n, .v (.string d)]]⟩, sdq1]⟩) (by kernel_rfl) (by kernel_rfl) ?_
  refine EL.condF (by kernel_rfl) ?_
  refine EL.skip ?_
  refine thenL_norm ?_
  refine EL.seq ?_
  refine EL.sreg ?_
  refine OW.last 3 [2, 3, 4, 7, 8, 167] (x' := ⟨(167, .v (.bool true)) :: sdq33, [(sdq0 s), some ⟨3, [[VI 1, VI n, .v (.string d)]]⟩, sdq1]⟩) (by kernel_rfl) (by kernel_rfl) ?_
  refine EL.condT (by kernel_rfl) ?_
  refine EL.sreg ?_
  refine OW.run 6 (x' := ⟨(sdq38 d n s), [(sdq0 s), some ⟨3, [[VI 1, VI n, .v (.string d)]]⟩, sdq1]⟩) (by kernel_rfl) ?_
  refine OW.fn (ar := [.lst 1 (s.first.map cZ), VI n, .v (.string d)]) (x' := ⟨(sdq39 s n d), [(sdq0 s), some ⟨3, [[VI 1, VI n, .v (.string d)]]⟩, sdq1]⟩) (by kernel_rfl) (by kernel_rfl) F33_call (setText_fn s.first n d (by omega) (by omega)) (by kernel_rfl) (by kernel_rfl) ?_
  refine OW.last 2 [2, 3, 4, 7, 8] (x' := ⟨sdq33, (sdq41 s n d)⟩) (by kernel_rfl) (by kernel_rfl) ?_
  refine EL.draw0 ?_
  refine DW.run 3 (x' := ⟨(sdq43 s), (sdq42 s n d)⟩) (by kernel_rfl) ?_
  refine DW.ope (v := .own 4 2 0 (List.length s.log)) (u := [(3, none), (4, some ⟨2, (s.log.map Record.cs)⟩)]) (acc := [3]) (x' := ⟨(179, .own 4 2 0 (List.length s.log)) :: (sdq43 s), (sdq44 s n d)⟩) (by kernel_rfl) (opE_appO Record.cs ([] : List Record) s.log (.s 176) (.s 178) 2 24 3 (.lst 2 (s.log.map Record.cs)) _ (by kernel_rfl) (by kernel_rfl) rfl (by kernel_rfl) rfl .lst (by simp; omega)) (by kernel_rfl) ?_
  refine DW.run 6 (x' := ⟨(sdq46 n d s), (sdq45 s n d)⟩) (by kernel_rfl) ?_
  refine DW.ope (v := .own 6 2 0 (List.length (s.log ++ ([(⟨n, d⟩ : Record)])))) (u := [(4, none), (6, some ⟨2, ((s.log ++ ([(⟨n, d⟩ : Record)])).map Record.cs)⟩)]) (acc := [5, 4]) (x' := ⟨(sdq48 s n d), (sdq47 s n d)⟩) (by kernel_rfl) (opE_appO Record.cs s.log ([(⟨n, d⟩ : Record)]) (.s 179) (.s 185) 2 24 4 (.own 5 2 0 1) _ (by kernel_rfl) (by kernel_rfl) rfl (by kernel_rfl) rfl (.own (els := [[VI n, .v (.string d)]]) (by kernel_rfl) (by kernel_rfl) (of_decide_eq_true (by kernel_rfl))) (by simp; omega)) (by kernel_rfl) ?_
  refine DW.end 2 (x' := ⟨(187, .ref 0 8 0 2) :: (sdq48 s n d), (sdq50 s n d)⟩) (by kernel_rfl) (by kernel_rfl) ?_
  refine thenL_norm ?_
  refine EL.seq ?_
  refine EL.sreg ?_
  refine OW.last 3 [2, 3, 4, 7, 8, 190] (x' := ⟨(190, .v (.bool false)) :: sdq33, (sdq50 s n d)⟩) (by kernel_rfl) (by kernel_rfl) ?_
  refine EL.condF (by kernel_rfl) ?_
  refine EL.skip ?_
  refine thenL_norm ?_
  refine EL.seq ?_
  refine EL.sreg ?_
  refine OW.last 3 [2, 3, 4, 7, 8, 206] (x' := ⟨(206, .v (.bool false)) :: sdq33, (sdq50 s n d)⟩) (by kernel_rfl) (by kernel_rfl) ?_
  refine EL.condF (by kernel_rfl) ?_
  refine EL.skip ?_
  refine thenL_norm ?_
  refine EL.seq ?_
  refine EL.sreg ?_
  refine OW.last 1 [2, 3, 4, 8, 244] (x' := ⟨sdq51, (sdq50 s n d)⟩) (by kernel_rfl) (by kernel_rfl) ?_
  refine EL.condF (by kernel_rfl) ?_
  refine EL.skip ?_
  refine thenL_norm ?_
  refine EL.seq ?_
  refine EL.sdraw ?_
  refine DW.last 14 [2, 3, 4, 8, 264] (x' := ⟨sdq52, (sdq50 s n d)⟩) (by kernel_rfl) (by kernel_rfl) ?_
  refine EL.condF (by kernel_rfl) ?_
  refine EL.skip ?_
  refine thenL_norm ?_
  refine EL.seq ?_
  refine EL.sreg ?_
  refine OW.last 1 [2, 3, 4, 280] (x' := ⟨(280, .v (.bool false)) :: sdq32, (sdq50 s n d)⟩) (by kernel_rfl) (by kernel_rfl) ?_
  refine EL.condF (by kernel_rfl) ?_
  refine EL.skip ?_
  refine thenL_norm ?_
  refine EL.seq ?_
  refine EL.sreg ?_
  refine OW.last 3 [2, 3, 4, 289] (x' := ⟨(289, .v (.bool false)) :: sdq32, (sdq50 s n d)⟩) (by kernel_rfl) (by kernel_rfl) ?_
  refine EL.condF (by kernel_rfl) ?_
  refine EL.skip ?_
  refine thenL_norm ?_
  refine EL.seq ?_
  refine EL.sreg ?_
  refine OW.last 3 [2, 4, 295] (x' := ⟨sdq53, (sdq50 s n d)⟩) (by kernel_rfl) (by kernel_rfl) ?_
  refine EL.condF (by kernel_rfl) ?_
  refine EL.skip ?_
  refine thenL_norm ?_
  refine EL.sreg ?_
  refine OW.last 3 [4, 5] (x' := ⟨[(5, VI 0), (4, .ref 2 8 0 0)], (sdq54 s n d)⟩) (by kernel_rfl) (by kernel_rfl) ?_
  refine EL.ret ?_
  refine ⟨.inr rfl, .tup [.agg [.lst 1 ((s.first.set n.toNat d).map cZ), .lst 1 (s.second.map cZ), .lst 2 ((s.log ++ ([(⟨n, d⟩ : Record)])).map Record.cs), VI s.sent, VI s.applied, VI s.known, .lst 1 (s.there.map cI), .lst 1 (s.back.map cI)], VI 0], run_snap (r0 := .tup [.agg [.lst 1 ((s.first.set n.toNat d).map cZ), .lst 1 (s.second.map cZ), .own 6 2 0 (List.length (s.log ++ ([(⟨n, d⟩ : Record)]))), VI s.sent, VI s.applied, VI s.known, .lst 1 (s.there.map cI), .lst 1 (s.back.map cI)], VI 0]) (by kernel_rfl) (snapR_tup (snapAs_cons (snapA_agg (snapL_cons (by kernel_rfl) (snapL_cons (by kernel_rfl) (snapL_cons (snap1_map Record.cs (s.log ++ ([(⟨n, d⟩ : Record)])) (by kernel_rfl) (by intro y; kernel_rfl) (by simp)) (snapL_cons (by kernel_rfl) (snapL_cons (by kernel_rfl) (snapL_cons (by kernel_rfl) (snapL_cons (by kernel_rfl) (snapL_cons (by kernel_rfl) (rfl)))))))))) (snapAs_cons (by kernel_rfl) (snapAs_nil)))), Ale.of_eq ?_⟩
  focus ((first | (exfalso; omega) | (clear ee tt bb; (try simp only [← List.eraseIdx_eq_take_drop_succ]); rw [Ship.step_1]; (try simp only [ba_empty]); (try split) <;> first | rfl | contradiction | (exfalso; omega) | (exfalso; simp_all; done) | (simp only [Ship.writeP, wi_iff]; (repeat' split) <;> first | rfl | (exfalso; omega) | (simp; done) | (simp; omega) | (simp_all; done) | (simp_all; omega)))))
abbrev sdq55 (d : ByteArray) : LS := (31, VI (ByteArray.size d : Int)) :: (30, .v (.string d)) :: (29, .ref 1 3 0 2) :: (28, .v (.bool true)) :: (27, .v (.bool true)) :: (26, VI 2) :: (25, .ref 1 3 0 0) :: (23, .v (.bool false)) :: sdq30
abbrev sdq56 (n : Int) (d : ByteArray) : LS := (36, VI n) :: (35, .ref 1 3 0 1) :: (34, .v (.bool false)) :: (33, .v (.bool false)) :: (32, .v (.bool false)) :: (sdq55 d)
abbrev sdq57 : LS := (8, .v (.bool false)) :: (7, .v (.bool false)) :: sdq30
abbrev sdq58 (s : Ship) : LS := (122, .lst 2 (s.log.map Record.cs)) :: (121, .ref 0 8 0 2) :: (120, VI s.sent) :: (119, .ref 0 8 0 3) :: (118, .v (.bool true)) :: (117, .v (.bool true)) :: (116, VI 2) :: (115, .ref 1 3 0 0) :: (113, .v (.bool false)) :: sdq57
abbrev sdq59 (s : Ship) : LS := (148, .lst 1 (s.there.map cI)) :: (147, .ref 0 8 0 6) :: (146, .v (.bool true)) :: (145, .v (.bool true)) :: (144, VI 2) :: (143, .ref 1 3 0 0) :: (142, .v (.bool false)) :: (141, .v (.bool false)) :: (140, .v undef) :: (139, .v undef) :: (138, .v undef) :: (137, .v undef) :: (136, .v undef) :: (135, .v undef) :: (134, .v undef) :: (133, .v undef) :: (132, .v undef) :: (131, .v undef) :: (130, .v (.bool false)) :: (129, .v (.bool false)) :: (128, VI 2) :: (127, .ref 1 3 0 0) :: (125, .v (.bool false)) :: sdq57
abbrev sdq60 (s : Ship) : LS := (192, VI s.sent) :: (191, .ref 0 8 0 3) :: (190, .v (.bool true)) :: sdq57
abbrev sdq61 (s : Ship) : OB := some ⟨8, [[.lst 1 (s.first.map cZ), .lst 1 (s.second.map cZ), .lst 2 (s.log.map Record.cs), VI (s.sent + 1), VI s.applied, VI s.known, .lst 1 (s.there.map cI), .lst 1 (s.back.map cI)]]⟩
abbrev sdq62 (s : Ship) (n : Int) (d : ByteArray) : LB := [(sdq61 s), some ⟨3, [[VI 2, VI n, .v (.string d)]]⟩, sdq1, some ⟨1, []⟩]
abbrev sdq63 (s : Ship) : LS := (197, .lst 1 (s.there.map cI)) :: (196, .ref 0 8 0 6) :: (195, .own 3 1 0 0) :: sdq57
abbrev sdq64 (s : Ship) (n : Int) (d : ByteArray) : LB := [(sdq61 s), some ⟨3, [[VI 2, VI n, .v (.string d)]]⟩, sdq1, none, some ⟨1, (s.there.map cI)⟩]
abbrev sdq65 (s : Ship) (n : Int) (d : ByteArray) : LB := [(sdq61 s), some ⟨3, [[VI 2, VI n, .v (.string d)]]⟩, sdq1, none, some ⟨1, (s.there.map cI)⟩, some ⟨1, [[VI (s.sent + 1)]]⟩]
abbrev sdq66 (s : Ship) : LS := (201, .own 5 1 0 1) :: (200, VI (s.sent + 1)) :: (199, .ref 0 8 0 3) :: (198, .own 4 1 0 (List.length s.there)) :: (sdq63 s)
abbrev sdq67 (s : Ship) (n : Int) (d : ByteArray) : LB := [(sdq61 s), some ⟨3, [[VI 2, VI n, .v (.string d)]]⟩, sdq1, none, none, some ⟨1, [[VI (s.sent + 1)]]⟩, some ⟨1, ((s.there ++ ([(s.sent + 1)])).map cI)⟩]
abbrev sdq68 (s : Ship) : LS := (202, .own 6 1 0 (List.length (s.there ++ ([(s.sent + 1)])))) :: (sdq66 s)
abbrev sdq69 (s : Ship) : OB := some ⟨8, [[.lst 1 (s.first.map cZ), .lst 1 (s.second.map cZ), .lst 2 (s.log.map Record.cs), VI (s.sent + 1), VI s.applied, VI s.known, .own 6 1 0 (List.length (s.there ++ ([(s.sent + 1)]))), .lst 1 (s.back.map cI)]]⟩
abbrev sdq70 (s : Ship) (n : Int) (d : ByteArray) : LB := [(sdq69 s), some ⟨3, [[VI 2, VI n, .v (.string d)]]⟩, sdq1, none, none, some ⟨1, [[VI (s.sent + 1)]]⟩, some ⟨1, ((s.there ++ ([(s.sent + 1)])).map cI)⟩]
abbrev sdq71 : LS := (244, .v (.bool false)) :: (8, .v (.bool false)) :: sdq30
abbrev sdq72 : LS := (264, .v (.bool false)) :: (8, .v (.bool false)) :: sdq30
abbrev sdq73 : LS := [(295, .v (.bool false)), (4, .ref 2 8 0 0), (2, .ref 0 8 0 0)]
abbrev sdq74 (s : Ship) (n : Int) (d : ByteArray) : LB := [(sdq69 s), some ⟨3, [[VI 2, VI n, .v (.string d)]]⟩, (sdq69 s), none, none, some ⟨1, [[VI (s.sent + 1)]]⟩, some ⟨1, ((s.there ++ ([(s.sent + 1)])).map cI)⟩]
theorem rdo2_fn (s : Ship) (n : Int) (d : ByteArray) (ok : s.Ok) : Fn Try.prog 14 [.agg [.lst 1 (s.first.map cZ), .lst 1 (s.second.map cZ), .lst 2 (s.log.map Record.cs), VI s.sent, VI s.applied, VI s.known, .lst 1 (s.there.map cI), .lst 1 (s.back.map cI)], .agg [VI 2, VI n, .v (.string d)]] (.tup [.agg [.lst 1 ((((s.stepP ⟨2, n, d⟩).1).first).map cZ), .lst 1 ((((s.stepP ⟨2, n, d⟩).1).second).map cZ), .lst 2 ((((s.stepP ⟨2, n, d⟩).1).log).map Record.cs), VI (((s.stepP ⟨2, n, d⟩).1).sent), VI (((s.stepP ⟨2, n, d⟩).1).applied), VI (((s.stepP ⟨2, n, d⟩).1).known), .lst 1 ((((s.stepP ⟨2, n, d⟩).1).there).map cI), .lst 1 ((((s.stepP ⟨2, n, d⟩).1).back).map cI)], VI ((s.stepP ⟨2, n, d⟩).2)]) := by
  have hx : s.first.length ≤ 9223372036854775807 ∧ s.second.length ≤ 9223372036854775807 ∧ s.log.length ≤ 9223372036854775807 ∧ s.there.length ≤ 9223372036854775807 ∧ s.back.length ≤ 9223372036854775807 := by have hh := ok.small; omega
  have hc0 := Ship.checkE_0.2 ok
  have hc : (s.checkE != 0) = false := by rw [hc0]; rfl
  obtain ⟨⟨a1, a2⟩, b1, c1, c2, ⟨d1, d2, d3⟩, ee, ⟨k1, k2, k3, k4, k5⟩, tt, bb⟩ := ok
  refine fn_walkW F14_ok (of_decide_eq_true (by kernel_rfl)) ?_
  refine EL.sreg ?_
  refine OW.last 4 [2, 3, 4] (x' := ⟨sdq30, [(sdq0 s), some ⟨3, [[VI 2, VI n, .v (.string d)]]⟩, sdq1]⟩) (by kernel_rfl) (by kernel_rfl) ?_
  refine EL.sreg ?_
  refine OW.run 1 (x' := ⟨(10, (sdq3 s)) :: sdq30, [(sdq0 s), some ⟨3, [[VI 2, VI n, .v (.string d)]]⟩, sdq1]⟩) (by kernel_rfl) ?_
  refine OW.fn (ar := [(sdq3 s)]) (x' := ⟨(11, VI s.checkE) :: (10, (sdq3 s)) :: sdq30, [(sdq0 s), some ⟨3, [[VI 2, VI n, .v (.string d)]]⟩, sdq1]⟩) (by kernel_rfl) (by kernel_rfl) F18_call (rcheck_fn s hx) (by kernel_rfl) (by kernel_rfl) ?_
  refine OW.last 1 [2, 3, 4, 6] (x' := ⟨(6, VI s.checkE) :: sdq30, [(sdq0 s), some ⟨3, [[VI 2, VI n, .v (.string d)]]⟩, sdq1]⟩) (by kernel_rfl) (by kernel_rfl) ?_
  refine EL.seq ?_
  refine EL.sreg ?_
  refine OW.last 2 [2, 3, 4, 6, 13] (x' := ⟨(13, .v (.bool (s.checkE != 0))) :: (6, VI s.checkE) :: sdq30, [(sdq0 s), some ⟨3, [[VI 2, VI n, .v (.string d)]]⟩, sdq1]⟩) (by kernel_rfl) (by kernel_rfl) ?_
  rw [hc]
  refine EL.condF (by kernel_rfl) ?_
  refine EL.skip ?_
  refine thenL_norm ?_
  refine EL.seq ?_
  refine EL.sreg ?_
  refine OW.last 8 [2, 3, 4, 23] (x' := ⟨(23, .v (.bool false)) :: sdq30, [(sdq0 s), some ⟨3, [[VI 2, VI n, .v (.string d)]]⟩, sdq1]⟩) (by kernel_rfl) (by kernel_rfl) ?_
  refine EL.condF (by kernel_rfl) ?_
  refine EL.skip ?_
  refine thenL_norm ?_
  refine EL.seq ?_
  refine EL.sreg ?_
  refine OW.run 10 (x' := ⟨(34, .v (.bool (decide ((ByteArray.size d : Int) > 0)))) :: (33, .v (.bool (decide ((ByteArray.size d : Int) > 0)))) :: (32, .v (.bool (decide ((ByteArray.size d : Int) > 0)))) :: (sdq55 d), [(sdq0 s), some ⟨3, [[VI 2, VI n, .v (.string d)]]⟩, sdq1]⟩) (by kernel_rfl) ?_
  rcases Bool.eq_false_or_eq_true (decide ((ByteArray.size d : Int) > 0)) with h1 | h1
  rw [h1]
  have g1 : ((ByteArray.size d : Int) > 0) := of_decide_eq_true h1
  have n1 : ((ByteArray.size d) > 0) := by omega
  refine OW.last 14 [2, 3, 4, 48] (x' := ⟨(48, .v (.bool true)) :: sdq30, [(sdq0 s), some ⟨3, [[VI 2, VI n, .v (.string d)]]⟩, sdq1]⟩) (by kernel_rfl) (by kernel_rfl) ?_
  refine EL.condT (by kernel_rfl) ?_
  refine EL.sreg ?_
  refine OW.last 3 [4, 5] (x' := ⟨[(5, VI 1), (4, .ref 2 8 0 0)], [(sdq0 s), some ⟨3, [[VI 2, VI n, .v (.string d)]]⟩, sdq1]⟩) (by kernel_rfl) (by kernel_rfl) ?_
  refine EL.ret ?_
  refine thenL_ret ?_
  refine ⟨.inr rfl, .tup [.agg [.emp, .emp, .emp, VI 0, VI 0, VI 0, .emp, .emp], VI 1], by kernel_rfl, Ale.trans (b := .tup [.agg [.lst 1 [], .lst 1 [], .lst 2 [], VI 0, VI 0, VI 0, .lst 1 [], .lst 1 []], VI 1]) (Ale.tup (.cons (Ale.agg (.cons (Ale.emp) (.cons (Ale.emp) (.cons (Ale.emp) (.cons (Ale.refl) (.cons (Ale.refl) (.cons (Ale.refl) (.cons (Ale.emp) (.cons (Ale.emp) (.nil)))))))))) (.cons (Ale.refl) (.nil)))) (Ale.of_eq ?_)⟩
  focus ((first | (exfalso; omega) | (clear ee tt bb; (try simp only [← List.eraseIdx_eq_take_drop_succ]); rw [Ship.step_2]; (try simp only [ba_empty]); (try split) <;> first | rfl | contradiction | (exfalso; omega) | (exfalso; simp_all; done) | (simp only [Ship.sendP, wi_iff]; (repeat' split) <;> first | rfl | (exfalso; omega) | (simp; done) | (simp; omega) | (simp_all; done) | (simp_all; omega)))))
  rw [h1]
  have g1 : ¬ ((ByteArray.size d : Int) > 0) := of_decide_eq_false h1
  have n1 : ¬ ((ByteArray.size d) > 0) := by omega
  refine OW.run 4 (x' := ⟨(38, .v (.bool (n != 0))) :: (37, .v (.bool (n != 0))) :: (sdq56 n d), [(sdq0 s), some ⟨3, [[VI 2, VI n, .v (.string d)]]⟩, sdq1]⟩) (by kernel_rfl) ?_
  rcases Bool.eq_false_or_eq_true ((n != 0)) with h2 | h2
  rw [h2]
  have g2 : ¬ (n = 0) := by simpa using h2
  refine OW.last 10 [2, 3, 4, 48] (x' := ⟨(48, .v (.bool true)) :: sdq30, [(sdq0 s), some ⟨3, [[VI 2, VI n, .v (.string d)]]⟩, sdq1]⟩) (by kernel_rfl) (by kernel_rfl) ?_
  refine EL.condT (by kernel_rfl) ?_
  refine EL.sreg ?_
  refine OW.last 3 [4, 5] (x' := ⟨[(5, VI 1), (4, .ref 2 8 0 0)], [(sdq0 s), some ⟨3, [[VI 2, VI n, .v (.string d)]]⟩, sdq1]⟩) (by kernel_rfl) (by kernel_rfl) ?_
  refine EL.ret ?_
  refine thenL_ret ?_
  refine ⟨.inr rfl, .tup [.agg [.emp, .emp, .emp, VI 0, VI 0, VI 0, .emp, .emp], VI 1], by kernel_rfl, Ale.trans (b := .tup [.agg [.lst 1 [], .lst 1 [], .lst 2 [], VI 0, VI 0, VI 0, .lst 1 [], .lst 1 []], VI 1]) (Ale.tup (.cons (Ale.agg (.cons (Ale.emp) (.cons (Ale.emp) (.cons (Ale.emp) (.cons (Ale.refl) (.cons (Ale.refl) (.cons (Ale.refl) (.cons (Ale.emp) (.cons (Ale.emp) (.nil)))))))))) (.cons (Ale.refl) (.nil)))) (Ale.of_eq ?_)⟩
  focus ((first | (exfalso; omega) | (clear ee tt bb; (try simp only [← List.eraseIdx_eq_take_drop_succ]); rw [Ship.step_2]; (try simp only [ba_empty]); (try split) <;> first | rfl | contradiction | (exfalso; omega) | (exfalso; simp_all; done) | (simp only [Ship.sendP, wi_iff]; (repeat' split) <;> first | rfl | (exfalso; omega) | (simp; done) | (simp; omega) | (simp_all; done) | (simp_all; omega)))))
  rw [h2]
  have g2 : (n = 0) := by simpa using h2
  refine OW.last 10 [2, 3, 4, 48] (x' := ⟨(48, .v (.bool false)) :: sdq30, [(sdq0 s), some ⟨3, [[VI 2, VI n, .v (.string d)]]⟩, sdq1]⟩) (by kernel_rfl) (by kernel_rfl) ?_
  refine EL.condF (by kernel_rfl) ?_
  refine EL.skip ?_
  refine thenL_norm ?_
  refine EL.sreg ?_
  refine OW.last 9 [2, 3, 4, 7] (x' := ⟨(7, .v (.bool false)) :: sdq30, [(sdq0 s), some ⟨3, [[VI 2, VI n, .v (.string d)]]⟩, sdq1]⟩) (by kernel_rfl) (by kernel_rfl) ?_
  refine EL.sreg ?_
  refine OW.last 9 [2, 3, 4, 7, 8] (x' := ⟨sdq57, [(sdq0 s), some ⟨3, [[VI 2, VI n, .v (.string d)]]⟩, sdq1]⟩) (by kernel_rfl) (by kernel_rfl) ?_
  refine EL.seq ?_
  refine EL.sreg ?_
  refine OW.last 48 [2, 3, 4, 7, 8, 113] (x' := ⟨(113, .v (.bool false)) :: sdq57, [(sdq0 s), some ⟨3, [[VI 2, VI n, .v (.string d)]]⟩, sdq1]⟩) (by kernel_rfl) (by kernel_rfl) ?_
  refine EL.condF (by kernel_rfl) ?_
  refine EL.skip ?_
  refine thenL_norm ?_
  refine EL.seq ?_
  refine EL.sreg ?_
  refine OW.run 8 (x' := ⟨(sdq58 s), [(sdq0 s), some ⟨3, [[VI 2, VI n, .v (.string d)]]⟩, sdq1]⟩) (by kernel_rfl) ?_
  refine OW.ope (v := VI (List.length s.log : Int)) (u := []) (acc := []) (x' := ⟨(123, VI (List.length s.log : Int)) :: (sdq58 s), [(sdq0 s), some ⟨3, [[VI 2, VI n, .v (.string d)]]⟩, sdq1]⟩) (by kernel_rfl) (opE_len Record.cs s.log (.s 122) 2 (by kernel_rfl) (by kernel_rfl) (.inl rfl)) (by kernel_rfl) ?_
  refine OW.last 2 [2, 3, 4, 7, 8, 125] (x' := ⟨(125, .v (.bool (s.sent == (List.length s.log : Int)))) :: sdq57, [(sdq0 s), some ⟨3, [[VI 2, VI n, .v (.string d)]]⟩, sdq1]⟩) (by kernel_rfl) (by kernel_rfl) ?_
  rcases Bool.eq_false_or_eq_true ((s.sent == (List.length s.log : Int))) with h3 | h3
  rw [h3]
  have g3 : (s.sent = (List.length s.log : Int)) := by simpa using h3
  refine EL.condT (by kernel_rfl) ?_
  refine EL.sreg ?_
  refine OW.last 3 [4, 5] (x' := ⟨[(5, VI 5), (4, .ref 2 8 0 0)], [(sdq0 s), some ⟨3, [[VI 2, VI n, .v (.string d)]]⟩, sdq1]⟩) (by kernel_rfl) (by kernel_rfl) ?_
  refine EL.ret ?_
  refine thenL_ret ?_
  refine ⟨.inr rfl, .tup [.agg [.emp, .emp, .emp, VI 0, VI 0, VI 0, .emp, .emp], VI 5], by kernel_rfl, Ale.trans (b := .tup [.agg [.lst 1 [], .lst 1 [], .lst 2 [], VI 0, VI 0, VI 0, .lst 1 [], .lst 1 []], VI 5]) (Ale.tup (.cons (Ale.agg (.cons (Ale.emp) (.cons (Ale.emp) (.cons (Ale.emp) (.cons (Ale.refl) (.cons (Ale.refl) (.cons (Ale.refl) (.cons (Ale.emp) (.cons (Ale.emp) (.nil)))))))))) (.cons (Ale.refl) (.nil)))) (Ale.of_eq ?_)⟩
  focus ((first | (exfalso; omega) | (clear ee tt bb; (try simp only [← List.eraseIdx_eq_take_drop_succ]); rw [Ship.step_2]; (try simp only [ba_empty]); (try split) <;> first | rfl | contradiction | (exfalso; omega) | (exfalso; simp_all; done) | (simp only [Ship.sendP, wi_iff]; (repeat' split) <;> first | rfl | (exfalso; omega) | (simp; done) | (simp; omega) | (simp_all; done) | (simp_all; omega)))))
  rw [h3]
  have g3 : ¬ (s.sent = (List.length s.log : Int)) := by simpa using h3
  refine EL.condF (by kernel_rfl) ?_
  refine EL.skip ?_
  refine thenL_norm ?_
  refine EL.seq ?_
  refine EL.sreg ?_
  refine OW.run 22 (x' := ⟨(sdq59 s), [(sdq0 s), some ⟨3, [[VI 2, VI n, .v (.string d)]]⟩, sdq1]⟩) (by kernel_rfl) ?_
  refine OW.ope (v := VI (List.length s.there : Int)) (u := []) (acc := []) (x' := ⟨(149, VI (List.length s.there : Int)) :: (sdq59 s), [(sdq0 s), some ⟨3, [[VI 2, VI n, .v (.string d)]]⟩, sdq1]⟩) (by kernel_rfl) (opE_len cI s.there (.s 148) 1 (by kernel_rfl) (by kernel_rfl) (.inl rfl)) (by kernel_rfl) ?_
  refine OW.run 4 (x' := ⟨(153, .v (.bool ((List.length s.there : Int) == 60))) :: (152, .v (.bool ((List.length s.there : Int) == 60))) :: (151, .v (.bool ((List.length s.there : Int) == 60))) :: (150, .v (.bool ((List.length s.there : Int) == 60))) :: (149, VI (List.length s.there : Int)) :: (sdq59 s), [(sdq0 s), some ⟨3, [[VI 2, VI n, .v (.string d)]]⟩, sdq1]⟩) (by kernel_rfl) ?_
  rcases Bool.eq_false_or_eq_true (((List.length s.there : Int) == 60)) with h4 | h4
  rw [h4]
  have g4 : ((List.length s.there : Int) = 60) := by simpa using h4
  have n4 : ((List.length s.there) = 60) := by omega
  refine OW.last 10 [2, 3, 4, 7, 8, 163] (x' := ⟨(163, .v (.bool true)) :: sdq57, [(sdq0 s), some ⟨3, [[VI 2, VI n, .v (.string d)]]⟩, sdq1]⟩) (by kernel_rfl) (by kernel_rfl) ?_
  refine EL.condT (by kernel_rfl) ?_
  refine EL.sreg ?_
  refine OW.last 3 [4, 5] (x' := ⟨[(5, VI 2), (4, .ref 2 8 0 0)], [(sdq0 s), some ⟨3, [[VI 2, VI n, .v (.string d)]]⟩, sdq1]⟩) (by kernel_rfl) (by kernel_rfl) ?_
  refine EL.ret ?_
  refine thenL_ret ?_
  refine ⟨.inr rfl, .tup [.agg [.emp, .emp, .emp, VI 0, VI 0, VI 0, .emp, .emp], VI 2], by kernel_rfl, Ale.trans (b := .tup [.agg [.lst 1 [], .lst 1 [], .lst 2 [], VI 0, VI 0, VI 0, .lst 1 [], .lst 1 []], VI 2]) (Ale.tup (.cons (Ale.agg (.cons (Ale.emp) (.cons (Ale.emp) (.cons (Ale.emp) (.cons (Ale.refl) (.cons (Ale.refl) (.cons (Ale.refl) (.cons (Ale.emp) (.cons (Ale.emp) (.nil)))))))))) (.cons (Ale.refl) (.nil)))) (Ale.of_eq ?_)⟩
  focus ((first | (exfalso; omega) | (clear ee tt bb; (try simp only [← List.eraseIdx_eq_take_drop_succ]); rw [Ship.step_2]; (try simp only [ba_empty]); (try split) <;> first | rfl | contradiction | (exfalso; omega) | (exfalso; simp_all; done) | (simp only [Ship.sendP, wi_iff]; (repeat' split) <;> first | rfl | (exfalso; omega) | (simp; done) | (simp; omega) | (simp_all; done) | (simp_all; omega)))))
  rw [h4]
  have g4 : ¬ ((List.length s.there : Int) = 60) := by simpa using h4
  have n4 : ¬ ((List.length s.there) = 60) := by omega
  refine OW.last 10 [2, 3, 4, 7, 8, 163] (x' := ⟨(163, .v (.bool false)) :: sdq57, [(sdq0 s), some ⟨3, [[VI 2, VI n, .v (.string d)]]⟩, sdq1]⟩) (by kernel_rfl) (by kernel_rfl) ?_
  refine EL.condF (by kernel_rfl) ?_
  refine EL.skip ?_
  refine thenL_norm ?_
  refine EL.seq ?_
  refine EL.sreg ?_
  refine OW.last 3 [2, 3, 4, 7, 8, 167] (x' := ⟨(167, .v (.bool false)) :: sdq57, [(sdq0 s), some ⟨3, [[VI 2, VI n, .v (.string d)]]⟩, sdq1]⟩) (by kernel_rfl) (by kernel_rfl) ?_
  refine EL.condF (by kernel_rfl) ?_
  refine EL.skip ?_
  refine thenL_norm ?_
  refine EL.seq ?_
  refine EL.sreg ?_
  refine OW.last 3 [2, 3, 4, 7, 8, 190] (x' := ⟨(190, .v (.bool true)) :: sdq57, [(sdq0 s), some ⟨3, [[VI 2, VI n, .v (.string d)]]⟩, sdq1]⟩) (by kernel_rfl) (by kernel_rfl) ?_
  refine EL.condT (by kernel_rfl) ?_
  refine EL.sreg ?_
  refine OW.run 5 (x' := ⟨(194, .ref 0 8 0 3) :: (193, VI (IntKind.i64.wrap (s.sent + 1))) :: (sdq60 s), [some ⟨8, [[.lst 1 (s.first.map cZ), .lst 1 (s.second.map cZ), .lst 2 (s.log.map Record.cs), VI (IntKind.i64.wrap (s.sent + 1)), VI s.applied, VI s.known, .lst 1 (s.there.map cI), .lst 1 (s.back.map cI)]]⟩, some ⟨3, [[VI 2, VI n, .v (.string d)]]⟩, sdq1]⟩) (by kernel_rfl) ?_
  have e5 : IntKind.i64.wrap (s.sent + 1) = s.sent + 1 := wr64 (by omega)
  rw [e5]
  refine OW.last 0 [2, 3, 4, 7, 8] (x' := ⟨sdq57, [(sdq61 s), some ⟨3, [[VI 2, VI n, .v (.string d)]]⟩, sdq1]⟩) (by kernel_rfl) (by kernel_rfl) ?_
  refine EL.draw0 ?_
  refine DW.run 3 (x' := ⟨(sdq63 s), (sdq62 s n d)⟩) (by kernel_rfl) ?_
  refine DW.ope (v := .own 4 1 0 (List.length s.there)) (u := [(3, none), (4, some ⟨1, (s.there.map cI)⟩)]) (acc := [3]) (x' := ⟨(198, .own 4 1 0 (List.length s.there)) :: (sdq63 s), (sdq64 s n d)⟩) (by kernel_rfl) (opE_appO cI ([] : List Int) s.there (.s 195) (.s 197) 1 8 3 (.lst 1 (s.there.map cI)) _ (by kernel_rfl) (by kernel_rfl) rfl (by kernel_rfl) rfl .lst (by simp; omega)) (by kernel_rfl) ?_
  refine DW.run 3 (x' := ⟨(sdq66 s), (sdq65 s n d)⟩) (by kernel_rfl) ?_
  refine DW.ope (v := .own 6 1 0 (List.length (s.there ++ ([(s.sent + 1)])))) (u := [(4, none), (6, some ⟨1, ((s.there ++ ([(s.sent + 1)])).map cI)⟩)]) (acc := [5, 4]) (x' := ⟨(sdq68 s), (sdq67 s n d)⟩) (by kernel_rfl) (opE_appO cI s.there ([(s.sent + 1)]) (.s 198) (.s 201) 1 8 4 (.own 5 1 0 1) _ (by kernel_rfl) (by kernel_rfl) rfl (by kernel_rfl) rfl (.own (els := [[VI (s.sent + 1)]]) (by kernel_rfl) (by kernel_rfl) (of_decide_eq_true (by kernel_rfl))) (by simp; omega)) (by kernel_rfl) ?_
  refine DW.end 2 (x' := ⟨(203, .ref 0 8 0 6) :: (sdq68 s), (sdq70 s n d)⟩) (by kernel_rfl) (by kernel_rfl) ?_
  refine thenL_norm ?_
  refine EL.seq ?_
  refine EL.sreg ?_
  refine OW.last 3 [2, 3, 4, 7, 8, 206] (x' := ⟨(206, .v (.bool false)) :: sdq57, (sdq70 s n d)⟩) (by kernel_rfl) (by kernel_rfl) ?_
  refine EL.condF (by kernel_rfl) ?_
  refine EL.skip ?_
  refine thenL_norm ?_
  refine EL.seq ?_
  refine EL.sreg ?_
  refine OW.last 1 [2, 3, 4, 8, 244] (x' := ⟨sdq71, (sdq70 s n d)⟩) (by kernel_rfl) (by kernel_rfl) ?_
  refine EL.condF (by kernel_rfl) ?_
  refine EL.skip ?_
  refine thenL_norm ?_
  refine EL.seq ?_
  refine EL.sdraw ?_
  refine DW.last 14 [2, 3, 4, 8, 264] (x' := ⟨sdq72, (sdq70 s n d)⟩) (by kernel_rfl) (by kernel_rfl) ?_
  refine EL.condF (by kernel_rfl) ?_
  refine EL.skip ?_
  refine thenL_norm ?_
  refine EL.seq ?_
  refine EL.sreg ?_
  refine OW.last 1 [2, 3, 4, 280] (x' := ⟨(280, .v (.bool false)) :: sdq30, (sdq70 s n d)⟩) (by kernel_rfl) (by kernel_rfl) ?_
  refine EL.condF (by kernel_rfl) ?_
  refine EL.skip ?_
  refine thenL_norm ?_
  refine EL.seq ?_
  refine EL.sreg ?_
  refine OW.last 3 [2, 3, 4, 289] (x' := ⟨(289, .v (.bool false)) :: sdq30, (sdq70 s n d)⟩) (by kernel_rfl) (by kernel_rfl) ?_
  refine EL.condF (by kernel_rfl) ?_
  refine EL.skip ?_
  refine thenL_norm ?_
  refine EL.seq ?_
  refine EL.sreg ?_
  refine OW.last 3 [2, 4, 295] (x' := ⟨sdq73, (sdq70 s n d)⟩) (by kernel_rfl) (by kernel_rfl) ?_
  refine EL.condF (by kernel_rfl) ?_
  refine EL.skip ?_
  refine thenL_norm ?_
  refine EL.sreg ?_
  refine OW.last 3 [4, 5] (x' := ⟨[(5, VI 0), (4, .ref 2 8 0 0)], (sdq74 s n d)⟩) (by kernel_rfl) (by kernel_rfl) ?_
  refine EL.ret ?_
  refine ⟨.inr rfl, .tup [.agg [.lst 1 (s.first.map cZ), .lst 1 (s.second.map cZ), .lst 2 (s.log.map Record.cs), VI (s.sent + 1), VI s.applied, VI s.known, .lst 1 ((s.there ++ ([(s.sent + 1)])).map cI), .lst 1 (s.back.map cI)], VI 0], run_snap (r0 := .tup [.agg [.lst 1 (s.first.map cZ), .lst 1 (s.second.map cZ), .lst 2 (s.log.map Record.cs), VI (s.sent + 1), VI s.applied, VI s.known, .own 6 1 0 (List.length (s.there ++ ([(s.sent + 1)]))), .lst 1 (s.back.map cI)], VI 0]) (by kernel_rfl) (snapR_tup (snapAs_cons (snapA_agg (snapL_cons (by kernel_rfl) (snapL_cons (by kernel_rfl) (snapL_cons (by kernel_rfl) (snapL_cons (by kernel_rfl) (snapL_cons (by kernel_rfl) (snapL_cons (by kernel_rfl) (snapL_cons (snap1_map cI (s.there ++ ([(s.sent + 1)])) (by kernel_rfl) (by intro y; kernel_rfl) (by simp)) (snapL_cons (by kernel_rfl) (rfl)))))))))) (snapAs_cons (by kernel_rfl) (snapAs_nil)))), Ale.of_eq ?_⟩
  focus ((first | (exfalso; omega) | (clear ee tt bb; (try simp only [← List.eraseIdx_eq_take_drop_succ]); rw [Ship.step_2]; (try simp only [ba_empty]); (try split) <;> first | rfl | contradiction | (exfalso; omega) | (exfalso; simp_all; done) | (simp only [Ship.sendP, wi_iff]; (repeat' split) <;> first | rfl | (exfalso; omega) | (simp; done) | (simp; omega) | (simp_all; done) | (simp_all; omega)))))
abbrev sdq75 (d : ByteArray) : LS := (31, VI (ByteArray.size d : Int)) :: (30, .v (.string d)) :: (29, .ref 1 3 0 2) :: (28, .v (.bool true)) :: (27, .v (.bool true)) :: (26, VI 3) :: (25, .ref 1 3 0 0) :: (23, .v (.bool false)) :: sdq30
abbrev sdq76 (n : Int) (d : ByteArray) : LS := (36, VI n) :: (35, .ref 1 3 0 1) :: (34, .v (.bool false)) :: (33, .v (.bool false)) :: (32, .v (.bool false)) :: (sdq75 d)
abbrev sdq77 : LS := (8, .v (.bool false)) :: (7, .v (.bool true)) :: sdq32
abbrev sdq78 (n : Int) : LS := (86, VI n) :: (85, .ref 1 3 0 1) :: (84, .v (.bool true)) :: (83, .v (.bool true)) :: (82, .v (.bool false)) :: (81, .v (.bool false)) :: (80, .v undef) :: (79, .v undef) :: (78, .v undef) :: (77, .v undef) :: (76, .v undef) :: (75, .v undef) :: (74, .v undef) :: (73, .v undef) :: (72, .v undef) :: (71, .v undef) :: (70, .v undef) :: (69, .v (.bool false)) :: (68, .v (.bool false)) :: (67, VI 3) :: (66, .ref 1 3 0 0) :: sdq77
abbrev sdq79 (s : Ship) (n : Int) : LS := (92, .lst 1 (s.there.map cI)) :: (91, .ref 0 8 0 6) :: (90, VI n) :: (89, .ref 1 3 0 1) :: (88, .v (.bool false)) :: (87, .v (.bool false)) :: (sdq78 n)
abbrev sdq80 (s : Ship) : LS := (159, .lst 1 (s.back.map cI)) :: (158, .ref 0 8 0 7) :: (157, .v (.bool true)) :: (156, .v (.bool true)) :: (155, VI 3) :: (154, .ref 1 3 0 0) :: (153, .v (.bool false)) :: (152, .v (.bool false)) :: (151, .v (.bool false)) :: (150, .v undef) :: (149, .v undef) :: (148, .v undef) :: (147, .v undef) :: (146, .v (.bool false)) :: (145, .v (.bool false)) :: (144, VI 3) :: (143, .ref 1 3 0 0) :: (142, .v (.bool false)) :: (141, .v (.bool false)) :: (140, .v undef) :: (139, .v undef) :: (138, .v undef) :: (137, .v undef) :: (136, .v undef) :: (135, .v undef) :: (134, .v undef) :: (133, .v undef) :: (132, .v undef) :: (131, .v undef) :: (130, .v (.bool false)) :: (129, .v (.bool false)) :: (128, VI 3) :: (127, .ref 1 3 0 0) :: (125, .v (.bool false)) :: sdq77
abbrev sdq81 (n : Int) (s : Ship) : LS := (210, VI n) :: (209, .ref 1 3 0 1) :: (208, .lst 1 (s.there.map cI)) :: (207, .ref 0 8 0 6) :: (206, .v (.bool true)) :: sdq77
abbrev sdq82 (s : Ship) (a10 : Int) (n : Int) : LS := (214, VI s.applied) :: (213, .ref 0 8 0 4) :: (212, VI a10) :: (211, .pim [VI a10] 0) :: (sdq81 n s)
abbrev sdq83 (s : Ship) : LS := (220, VI s.applied) :: (219, .ref 0 8 0 4) :: (218, .lst 2 (s.log.map Record.cs)) :: (217, .ref 0 8 0 2) :: (216, .v (.bool true)) :: sdq77
abbrev sdq84 (a14 : Record) (s : Ship) : LS := (221, .pim [VI a14.block, .v (.string a14.data)] 0) :: (sdq83 s)
abbrev sdq85 (s : Ship) (n : Int) (d : ByteArray) (a14 : Record) : LB := [(sdq0 s), some ⟨3, [[VI 3, VI n, .v (.string d)]]⟩, sdq1, some ⟨2, [[VI a14.block, .v (.string a14.data)]]⟩]
abbrev sdq86 (a14 : Record) (s : Ship) : LS := (228, .v (.string a14.data)) :: (227, .ref 3 2 0 1) :: (226, VI a14.block) :: (225, .ref 3 2 0 0) :: (224, .lst 1 (s.second.map cZ)) :: (223, .ref 0 8 0 1) :: (9, .ref 3 2 0 0) :: sdq77
abbrev sdq87 (s : Ship) (a14 : Record) : LS := (229, .lst 1 ((s.second.set a14.block.toNat a14.data).map cZ)) :: (sdq86 a14 s)
abbrev sdq88 (s : Ship) (a14 : Record) : OB := some ⟨8, [[.lst 1 (s.first.map cZ), .lst 1 ((s.second.set a14.block.toNat a14.data).map cZ), .lst 2 (s.log.map Record.cs), VI s.sent, VI s.applied, VI s.known, .lst 1 (s.there.map cI), .lst 1 (s.back.map cI)]]⟩
abbrev sdq89 (s : Ship) (a14 : Record) (n : Int) (d : ByteArray) : LB := [(sdq88 s a14), some ⟨3, [[VI 3, VI n, .v (.string d)]]⟩, sdq1, some ⟨2, [[VI a14.block, .v (.string a14.data)]]⟩]
abbrev sdq90 (s : Ship) (a14 : Record) : OB := some ⟨8, [[.lst 1 (s.first.map cZ), .lst 1 ((s.second.set a14.block.toNat a14.data).map cZ), .lst 2 (s.log.map Record.cs), VI s.sent, VI (s.applied + 1), VI s.known, .lst 1 (s.there.map cI), .lst 1 (s.back.map cI)]]⟩
abbrev sdq91 (s : Ship) (a14 : Record) (n : Int) (d : ByteArray) : LB := [(sdq90 s a14), some ⟨3, [[VI 3, VI n, .v (.string d)]]⟩, sdq1, some ⟨2, [[VI a14.block, .v (.string a14.data)]]⟩]
abbrev sdq92 (s : Ship) : LS := (234, .ref 0 8 0 4) :: (233, VI (s.applied + 1)) :: (232, VI s.applied) :: (231, .ref 0 8 0 4) :: sdq77
abbrev sdq93 (s : Ship) (a14 : Record) (n : Int) (d : ByteArray) : LB := [(sdq90 s a14), some ⟨3, [[VI 3, VI n, .v (.string d)]]⟩, sdq1, some ⟨2, [[VI a14.block, .v (.string a14.data)]]⟩, some ⟨1, []⟩]
abbrev sdq94 (s : Ship) : LS := (237, .lst 1 (s.back.map cI)) :: (236, .ref 0 8 0 7) :: (235, .own 4 1 0 0) :: (sdq92 s)
abbrev sdq95 (s : Ship) (a14 : Record) (n : Int) (d : ByteArray) : LB := [(sdq90 s a14), some ⟨3, [[VI 3, VI n, .v (.string d)]]⟩, sdq1, some ⟨2, [[VI a14.block, .v (.string a14.data)]]⟩, none, some ⟨1, (s.back.map cI)⟩]
abbrev sdq96 (s : Ship) (a14 : Record) (n : Int) (d : ByteArray) : LB := [(sdq90 s a14), some ⟨3, [[VI 3, VI n, .v (.string d)]]⟩, sdq1, some ⟨2, [[VI a14.block, .v (.string a14.data)]]⟩, none, some ⟨1, (s.back.map cI)⟩, some ⟨1, [[VI (s.applied + 1)]]⟩]
abbrev sdq97 (s : Ship) : LS := (241, .own 6 1 0 1) :: (240, VI (s.applied + 1)) :: (239, .ref 0 8 0 4) :: (238, .own 5 1 0 (List.length s.back)) :: (sdq94 s)
abbrev sdq98 (s : Ship) (a14 : Record) (n : Int) (d : ByteArray) : LB := [(sdq90 s a14), some ⟨3, [[VI 3, VI n, .v (.string d)]]⟩, sdq1, some ⟨2, [[VI a14.block, .v (.string a14.data)]]⟩, none, none, some ⟨1, [[VI (s.applied + 1)]]⟩, some ⟨1, ((s.back ++ ([(s.applied + 1)])).map cI)⟩]
abbrev sdq99 (s : Ship) : LS := (242, .own 7 1 0 (List.length (s.back ++ ([(s.applied + 1)])))) :: (sdq97 s)
abbrev sdq100 (s : Ship) (a14 : Record) : OB := some ⟨8, [[.lst 1 (s.first.map cZ), .lst 1 ((s.second.set a14.block.toNat a14.data).map cZ), .lst 2 (s.log.map Record.cs), VI s.sent, VI (s.applied + 1), VI s.known, .lst 1 (s.there.map cI), .own 7 1 0 (List.length (s.back ++ ([(s.applied + 1)])))]]⟩
abbrev sdq101 (s : Ship) (a14 : Record) (n : Int) (d : ByteArray) : LB := [(sdq100 s a14), some ⟨3, [[VI 3, VI n, .v (.string d)]]⟩, sdq1, some ⟨2, [[VI a14.block, .v (.string a14.data)]]⟩, none, none, some ⟨1, [[VI (s.applied + 1)]]⟩, some ⟨1, ((s.back ++ ([(s.applied + 1)])).map cI)⟩]
abbrev sdq102 (s : Ship) (n : Int) (d : ByteArray) : LB := [(sdq0 s), some ⟨3, [[VI 3, VI n, .v (.string d)]]⟩, sdq1, some ⟨1, []⟩]
abbrev sdq103 (s : Ship) : LS := (237, .lst 1 (s.back.map cI)) :: (236, .ref 0 8 0 7) :: (235, .own 3 1 0 0) :: (216, .v (.bool false)) :: sdq77
abbrev sdq104 (s : Ship) (n : Int) (d : ByteArray) : LB := [(sdq0 s), some ⟨3, [[VI 3, VI n, .v (.string d)]]⟩, sdq1, none, some ⟨1, (s.back.map cI)⟩]
abbrev sdq105 (s : Ship) (n : Int) (d : ByteArray) : LB := [(sdq0 s), some ⟨3, [[VI 3, VI n, .v (.string d)]]⟩, sdq1, none, some ⟨1, (s.back.map cI)⟩, some ⟨1, [[VI s.applied]]⟩]
abbrev sdq106 (s : Ship) : LS := (241, .own 5 1 0 1) :: (240, VI s.applied) :: (239, .ref 0 8 0 4) :: (238, .own 4 1 0 (List.length s.back)) :: (sdq103 s)
abbrev sdq107 (s : Ship) (n : Int) (d : ByteArray) : LB := [(sdq0 s), some ⟨3, [[VI 3, VI n, .v (.string d)]]⟩, sdq1, none, none, some ⟨1, [[VI s.applied]]⟩, some ⟨1, ((s.back ++ ([s.applied])).map cI)⟩]
abbrev sdq108 (s : Ship) : LS := (242, .own 6 1 0 (List.length (s.back ++ ([s.applied])))) :: (sdq106 s)
abbrev sdq109 (s : Ship) : OB := some ⟨8, [[.lst 1 (s.first.map cZ), .lst 1 (s.second.map cZ), .lst 2 (s.log.map Record.cs), VI s.sent, VI s.applied, VI s.known, .lst 1 (s.there.map cI), .own 6 1 0 (List.length (s.back ++ ([s.applied])))]]⟩
abbrev sdq110 (s : Ship) (n : Int) (d : ByteArray) : LB := [(sdq109 s), some ⟨3, [[VI 3, VI n, .v (.string d)]]⟩, sdq1, none, none, some ⟨1, [[VI s.applied]]⟩, some ⟨1, ((s.back ++ ([s.applied])).map cI)⟩]
abbrev sdq111 : LS := (244, .v (.bool true)) :: (8, .v (.bool false)) :: sdq32
abbrev sdq112 (n : Int) (s : Ship) : LS := (248, VI n) :: (247, .ref 1 3 0 1) :: (246, .lst 1 (s.there.map cI)) :: (245, .ref 0 8 0 6) :: sdq111
abbrev sdq113 (s : Ship) (n : Int) : LS := (249, .lst 1 ((s.there.take n.toNat ++ s.there.drop (n.toNat + 1)).map cI)) :: (sdq112 n s)
abbrev sdq114 (s : Ship) (a14 : Record) (n : Int) : OB := some ⟨8, [[.lst 1 (s.first.map cZ), .lst 1 ((s.second.set a14.block.toNat a14.data).map cZ), .lst 2 (s.log.map Record.cs), VI s.sent, VI (s.applied + 1), VI s.known, .lst 1 ((s.there.take n.toNat ++ s.there.drop (n.toNat + 1)).map cI), .own 7 1 0 (List.length (s.back ++ ([(s.applied + 1)])))]]⟩
abbrev sdq115 (s : Ship) (a14 : Record) (n : Int) (d : ByteArray) : LB := [(sdq114 s a14 n), some ⟨3, [[VI 3, VI n, .v (.string d)]]⟩, sdq1, some ⟨2, [[VI a14.block, .v (.string a14.data)]]⟩, none, none, some ⟨1, [[VI (s.applied + 1)]]⟩, some ⟨1, ((s.back ++ ([(s.applied + 1)])).map cI)⟩]
abbrev sdq116 (s : Ship) (a14 : Record) (n : Int) (d : ByteArray) : LB := [(sdq114 s a14 n), some ⟨3, [[VI 3, VI n, .v (.string d)]]⟩, (sdq114 s a14 n), some ⟨2, [[VI a14.block, .v (.string a14.data)]]⟩, none, none, some ⟨1, [[VI (s.applied + 1)]]⟩, some ⟨1, ((s.back ++ ([(s.applied + 1)])).map cI)⟩]
abbrev sdq117 (s : Ship) (n : Int) : OB := some ⟨8, [[.lst 1 (s.first.map cZ), .lst 1 (s.second.map cZ), .lst 2 (s.log.map Record.cs), VI s.sent, VI s.applied, VI s.known, .lst 1 ((s.there.take n.toNat ++ s.there.drop (n.toNat + 1)).map cI), .own 6 1 0 (List.length (s.back ++ ([s.applied])))]]⟩
abbrev sdq118 (s : Ship) (n : Int) (d : ByteArray) : LB := [(sdq117 s n), some ⟨3, [[VI 3, VI n, .v (.string d)]]⟩, sdq1, none, none, some ⟨1, [[VI s.applied]]⟩, some ⟨1, ((s.back ++ ([s.applied])).map cI)⟩]
abbrev sdq119 (s : Ship) (n : Int) (d : ByteArray) : LB := [(sdq117 s n), some ⟨3, [[VI 3, VI n, .v (.string d)]]⟩, (sdq117 s n), none, none, some ⟨1, [[VI s.applied]]⟩, some ⟨1, ((s.back ++ ([s.applied])).map cI)⟩]
theorem rdo3_fn (s : Ship) (n : Int) (d : ByteArray) (ok : s.Ok) : Fn Try.prog 14 [.agg [.lst 1 (s.first.map cZ), .lst 1 (s.second.map cZ), .lst 2 (s.log.map Record.cs), VI s.sent, VI s.applied, VI s.known, .lst 1 (s.there.map cI), .lst 1 (s.back.map cI)], .agg [VI 3, VI n, .v (.string d)]] (.tup [.agg [.lst 1 ((((s.stepP ⟨3, n, d⟩).1).first).map cZ), .lst 1 ((((s.stepP ⟨3, n, d⟩).1).second).map cZ), .lst 2 ((((s.stepP ⟨3, n, d⟩).1).log).map Record.cs), VI (((s.stepP ⟨3, n, d⟩).1).sent), VI (((s.stepP ⟨3, n, d⟩).1).applied), VI (((s.stepP ⟨3, n, d⟩).1).known), .lst 1 ((((s.stepP ⟨3, n, d⟩).1).there).map cI), .lst 1 ((((s.stepP ⟨3, n, d⟩).1).back).map cI)], VI ((s.stepP ⟨3, n, d⟩).2)]) := by
  have hx : s.first.length ≤ 9223372036854775807 ∧ s.second.length ≤ 9223372036854775807 ∧ s.log.length ≤ 9223372036854775807 ∧ s.there.length ≤ 9223372036854775807 ∧ s.back.length ≤ 9223372036854775807 := by have hh := ok.small; omega
  have hc0 := Ship.checkE_0.2 ok
  have hc : (s.checkE != 0) = false := by rw [hc0]; rfl
  obtain ⟨⟨a1, a2⟩, b1, c1, c2, ⟨d1, d2, d3⟩, ee, ⟨k1, k2, k3, k4, k5⟩, tt, bb⟩ := ok
  refine fn_walkW F14_ok (of_decide_eq_true (by kernel_rfl)) ?_
  refine EL.sreg ?_
  refine OW.last 4 [2, 3, 4] (x' := ⟨sdq30, [(sdq0 s), some ⟨3, [[VI 3, VI n, .v (.string d)]]⟩, sdq1]⟩) (by kernel_rfl) (by kernel_rfl) ?_
  refine EL.sreg ?_
  refine OW.run 1 (x' := ⟨(10, (sdq3 s)) :: sdq30, [(sdq0 s), some ⟨3, [[VI 3, VI n, .v (.string d)]]⟩, sdq1]⟩) (by kernel_rfl) ?_
  refine OW.fn (ar := [(sdq3 s)]) (x' := ⟨(11, VI s.checkE) :: (10, (sdq3 s)) :: sdq30, [(sdq0 s), some ⟨3, [[VI 3, VI n, .v (.string d)]]⟩, sdq1]⟩) (by kernel_rfl) (by kernel_rfl) F18_call (rcheck_fn s hx) (by kernel_rfl) (by kernel_rfl) ?_
  refine OW.last 1 [2, 3, 4, 6] (x' := ⟨(6, VI s.checkE) :: sdq30, [(sdq0 s), some ⟨3, [[VI 3, VI n, .v (.string d)]]⟩, sdq1]⟩) (by kernel_rfl) (by kernel_rfl) ?_
  refine EL.seq ?_
  refine EL.sreg ?_
  refine OW.last 2 [2, 3, 4, 6, 13] (x' := ⟨(13, .v (.bool (s.checkE != 0))) :: (6, VI s.checkE) :: sdq30, [(sdq0 s), some ⟨3, [[VI 3, VI n, .v (.string d)]]⟩, sdq1]⟩) (by kernel_rfl) (by kernel_rfl) ?_
  rw [hc]
  refine EL.condF (by kernel_rfl) ?_
  refine EL.skip ?_
  refine thenL_norm ?_
  refine EL.seq ?_
  refine EL.sreg ?_
  refine OW.last 8 [2, 3, 4, 23] (x' := ⟨(23, .v (.bool false)) :: sdq30, [(sdq0 s), some ⟨3, [[VI 3, VI n, .v (.string d)]]⟩, sdq1]⟩) (by kernel_rfl) (by kernel_rfl) ?_
  refine EL.condF (by kernel_rfl) ?_
  refine EL.skip ?_
  refine thenL_norm ?_
  refine EL.seqG [2, 3, 4] (fun y => (y = ⟨sdq32, [(sdq0 s), some ⟨3, [[VI 3, VI n, .v (.string d)]]⟩, sdq1]⟩ ∧ decide ((ByteArray.size d : Int) > 0) = false ∧ ((¬ (n = 0)) ∨ ((n = 0))))) ?_ ?_
  intro IHJ1 HJ1
  refine EL.sreg ?_
  refine OW.run 10 (x' := ⟨(34, .v (.bool (decide ((ByteArray.size d : Int) > 0)))) :: (33, .v (.bool (decide ((ByteArray.size d : Int) > 0)))) :: (32, .v (.bool (decide ((ByteArray.size d : Int) > 0)))) :: (sdq75 d), [(sdq0 s), some ⟨3, [[VI 3, VI n, .v (.string d)]]⟩, sdq1]⟩) (by kernel_rfl) ?_
  rcases Bool.eq_false_or_eq_true (decide ((ByteArray.size d : Int) > 0)) with h2 | h2
  rw [h2]
  have g2 : ((ByteArray.size d : Int) > 0) := of_decide_eq_true h2
  have n2 : ((ByteArray.size d) > 0) := by omega
  refine OW.last 14 [2, 3, 4, 48] (x' := ⟨(48, .v (.bool true)) :: sdq30, [(sdq0 s), some ⟨3, [[VI 3, VI n, .v (.string d)]]⟩, sdq1]⟩) (by kernel_rfl) (by kernel_rfl) ?_
  refine EL.condT (by kernel_rfl) ?_
  refine EL.sreg ?_
  refine OW.last 3 [4, 5] (x' := ⟨[(5, VI 1), (4, .ref 2 8 0 0)], [(sdq0 s), some ⟨3, [[VI 3, VI n, .v (.string d)]]⟩, sdq1]⟩) (by kernel_rfl) (by kernel_rfl) ?_
  refine EL.ret ?_
  refine thenL_ret ?_
  refine ⟨.inr rfl, .tup [.agg [.emp, .emp, .emp, VI 0, VI 0, VI 0, .emp, .emp], VI 1], by kernel_rfl, Ale.trans (b := .tup [.agg [.lst 1 [], .lst 1 [], .lst 2 [], VI 0, VI 0, VI 0, .lst 1 [], .lst 1 []], VI 1]) (Ale.tup (.cons (Ale.agg (.cons (Ale.emp) (.cons (Ale.emp) (.cons (Ale.emp) (.cons (Ale.refl) (.cons (Ale.refl) (.cons (Ale.refl) (.cons (Ale.emp) (.cons (Ale.emp) (.nil)))))))))) (.cons (Ale.refl) (.nil)))) (Ale.of_eq ?_)⟩
  focus ((first | (exfalso; omega) | (clear ee tt bb; (try simp only [← List.eraseIdx_eq_take_drop_succ]); rw [Ship.step_3]; simp only [ba_empty]; split <;> first | rfl | contradiction | (simp only [Ship.passP, wi_iff]; first | (rw [‹s.there[n.toNat]? = some _›, ‹s.log[s.applied.toNat]? = some _›]; (repeat' split) <;> first | rfl | (exfalso; omega) | (simp; done) | (simp; omega) | (simp_all; done) | (simp_all; omega)) | (rw [‹s.there[n.toNat]? = some _›]; (repeat' split) <;> first | rfl | (exfalso; omega) | (simp; done) | (simp; omega) | (simp_all; done) | (simp_all; omega)) | ((repeat' split) <;> first | rfl | (exfalso; omega) | (simp; done) | (simp; omega) | (simp_all; done) | (simp_all; omega))))))
  rw [h2]
  have g2 : ¬ ((ByteArray.size d : Int) > 0) := of_decide_eq_false h2
  have n2 : ¬ ((ByteArray.size d) > 0) := by omega
  refine OW.run 4 (x' := ⟨(38, .v (.bool (n != 0))) :: (37, .v (.bool (n != 0))) :: (sdq76 n d), [(sdq0 s), some ⟨3, [[VI 3, VI n, .v (.string d)]]⟩, sdq1]⟩) (by kernel_rfl) ?_
  rcases Bool.eq_false_or_eq_true ((n != 0)) with h3 | h3
  rw [h3]
  have g3 : ¬ (n = 0) := by simpa using h3
  refine OW.last 10 [2, 3, 4, 48] (x' := ⟨(48, .v (.bool false)) :: sdq30, [(sdq0 s), some ⟨3, [[VI 3, VI n, .v (.string d)]]⟩, sdq1]⟩) (by kernel_rfl) (by kernel_rfl) ?_
  refine EL.condF (by kernel_rfl) ?_
  refine EL.skip ?_
  exact thenL_norm (HJ1.get ⟨by kernel_rfl, h2, (Or.inl (by first | exact g3 | exact h3 | simp_all | omega))⟩)
  rw [h3]
  have g3 : (n = 0) := by simpa using h3
  refine OW.last 10 [2, 3, 4, 48] (x' := ⟨(48, .v (.bool false)) :: sdq30, [(sdq0 s), some ⟨3, [[VI 3, VI n, .v (.string d)]]⟩, sdq1]⟩) (by kernel_rfl) (by kernel_rfl) ?_
  refine EL.condF (by kernel_rfl) ?_
  refine EL.skip ?_
  exact thenL_norm (HJ1.get ⟨by kernel_rfl, h2, (Or.inr (by first | exact g3 | exact h3 | simp_all | omega))⟩)
  rintro _ (⟨rfl, h4, hD5⟩)
  have g4 : ¬ ((ByteArray.size d : Int) > 0) := of_decide_eq_false h4
  have n4 : ¬ ((ByteArray.size d) > 0) := by omega
  refine EL.sreg ?_
  refine OW.last 9 [2, 3, 4, 7] (x' := ⟨(7, .v (.bool true)) :: sdq32, [(sdq0 s), some ⟨3, [[VI 3, VI n, .v (.string d)]]⟩, sdq1]⟩) (by kernel_rfl) (by kernel_rfl) ?_
  refine EL.sreg ?_
  refine OW.last 9 [2, 3, 4, 7, 8] (x' := ⟨sdq77, [(sdq0 s), some ⟨3, [[VI 3, VI n, .v (.string d)]]⟩, sdq1]⟩) (by kernel_rfl) (by kernel_rfl) ?_
  refine EL.seq ?_
  refine EL.sreg ?_
  refine OW.run 23 (x' := ⟨(88, .v (.bool (decide (n < 0)))) :: (87, .v (.bool (decide (n < 0)))) :: (sdq78 n), [(sdq0 s), some ⟨3, [[VI 3, VI n, .v (.string d)]]⟩, sdq1]⟩) (by kernel_rfl) ?_
  rcases Bool.eq_false_or_eq_true (decide (n < 0)) with h6 | h6
  rw [h6]
  have g6 : (n < 0) := of_decide_eq_true h6
  refine OW.last 25 [2, 3, 4, 7, 8, 113] (x' := ⟨(113, .v (.bool true)) :: sdq77, [(sdq0 s), some ⟨3, [[VI 3, VI n, .v (.string d)]]⟩, sdq1]⟩) (by kernel_rfl) (by kernel_rfl) ?_
  refine EL.condT (by kernel_rfl) ?_
  refine EL.sreg ?_
  refine OW.last 3 [4, 5] (x' := ⟨[(5, VI 3), (4, .ref 2 8 0 0)], [(sdq0 s), some ⟨3, [[VI 3, VI n, .v (.string d)]]⟩, sdq1]⟩) (by kernel_rfl) (by kernel_rfl) ?_
  refine EL.ret ?_
  refine thenL_ret ?_
  refine ⟨.inr rfl, .tup [.agg [.emp, .emp, .emp, VI 0, VI 0, VI 0, .emp, .emp], VI 3], by kernel_rfl, Ale.trans (b := .tup [.agg [.lst 1 [], .lst 1 [], .lst 2 [], VI 0, VI 0, VI 0, .lst 1 [], .lst 1 []], VI 3]) (Ale.tup (.cons (Ale.agg (.cons (Ale.emp) (.cons (Ale.emp) (.cons (Ale.emp) (.cons (Ale.refl) (.cons (Ale.refl) (.cons (Ale.refl) (.cons (Ale.emp) (.cons (Ale.emp) (.nil)))))))))) (.cons (Ale.refl) (.nil)))) (Ale.of_eq ?_)⟩
  focus ((first | (exfalso; omega) | (clear ee tt bb; (try simp only [← List.eraseIdx_eq_take_drop_succ]); rw [Ship.step_3]; simp only [ba_empty]; split <;> first | rfl | contradiction | (simp only [Ship.passP, wi_iff]; first | (rw [‹s.there[n.toNat]? = some _›, ‹s.log[s.applied.toNat]? = some _›]; (repeat' split) <;> first | rfl | (exfalso; omega) | (simp; done) | (simp; omega) | (simp_all; done) | (simp_all; omega)) | (rw [‹s.there[n.toNat]? = some _›]; (repeat' split) <;> first | rfl | (exfalso; omega) | (simp; done) | (simp; omega) | (simp_all; done) | (simp_all; omega)) | ((repeat' split) <;> first | rfl | (exfalso; omega) | (simp; done) | (simp; omega) | (simp_all; done) | (simp_all; omega))))))
  rw [h6]
  have g6 : ¬ (n < 0) := of_decide_eq_false h6
  refine OW.run 4 (x' := ⟨(sdq79 s n), [(sdq0 s), some ⟨3, [[VI 3, VI n, .v (.string d)]]⟩, sdq1]⟩) (by kernel_rfl) ?_
  refine OW.ope (v := VI (List.length s.there : Int)) (u := []) (acc := []) (x' := ⟨(93, VI (List.length s.there : Int)) :: (sdq79 s n), [(sdq0 s), some ⟨3, [[VI 3, VI n, .v (.string d)]]⟩, sdq1]⟩) (by kernel_rfl) (opE_len cI s.there (.s 92) 1 (by kernel_rfl) (by kernel_rfl) (.inl rfl)) (by kernel_rfl) ?_
  refine OW.run 5 (x' := ⟨(98, .v (.bool (decide (n ≥ (List.length s.there : Int))))) :: (97, .v (.bool (decide (n ≥ (List.length s.there : Int))))) :: (96, .v (.bool (decide (n ≥ (List.length s.there : Int))))) :: (95, .v (.bool (decide (n ≥ (List.length s.there : Int))))) :: (94, .v (.bool (decide (n ≥ (List.length s.there : Int))))) :: (93, VI (List.length s.there : Int)) :: (sdq79 s n), [(sdq0 s), some ⟨3, [[VI 3, VI n, .v (.string d)]]⟩, sdq1]⟩) (by kernel_rfl) ?_
  rcases Bool.eq_false_or_eq_true (decide (n ≥ (List.length s.there : Int))) with h7 | h7
  rw [h7]
  have g7 : (n ≥ (List.length s.there : Int)) := of_decide_eq_true h7
  refine OW.last 15 [2, 3, 4, 7, 8, 113] (x' := ⟨(113, .v (.bool true)) :: sdq77, [(sdq0 s), some ⟨3, [[VI 3, VI n, .v (.string d)]]⟩, sdq1]⟩) (by kernel_rfl) (by kernel_rfl) ?_
  refine EL.condT (by kernel_rfl) ?_
  refine EL.sreg ?_
  refine OW.last 3 [4, 5] (x' := ⟨[(5, VI 3), (4, .ref 2 8 0 0)], [(sdq0 s), some ⟨3, [[VI 3, VI n, .v (.string d)]]⟩, sdq1]⟩) (by kernel_rfl) (by kernel_rfl) ?_
  refine EL.ret ?_
  refine thenL_ret ?_
  refine ⟨.inr rfl, .tup [.agg [.emp, .emp, .emp, VI 0, VI 0, VI 0, .emp, .emp], VI 3], by kernel_rfl, Ale.trans (b := .tup [.agg [.lst 1 [], .lst 1 [], .lst 2 [], VI 0, VI 0, VI 0, .lst 1 [], .lst 1 []], VI 3]) (Ale.tup (.cons (Ale.agg (.cons (Ale.emp) (.cons (Ale.emp) (.cons (Ale.emp) (.cons (Ale.refl) (.cons (Ale.refl) (.cons (Ale.refl) (.cons (Ale.emp) (.cons (Ale.emp) (.nil)))))))))) (.cons (Ale.refl) (.nil)))) (Ale.of_eq ?_)⟩
  focus ((first | (exfalso; omega) | (clear ee tt bb; (try simp only [← List.eraseIdx_eq_take_drop_succ]); rw [Ship.step_3]; simp only [ba_empty]; split <;> first | rfl | contradiction | (simp only [Ship.passP, wi_iff]; first | (rw [‹s.there[n.toNat]? = some _›, ‹s.log[s.applied.toNat]? = some _›]; (repeat' split) <;> first | rfl | (exfalso; omega) | (simp; done) | (simp; omega) | (simp_all; done) | (simp_all; omega)) | (rw [‹s.there[n.toNat]? = some _›]; (repeat' split) <;> first | rfl | (exfalso; omega) | (simp; done) | (simp; omega) | (simp_all; done) | (simp_all; omega)) | ((repeat' split) <;> first | rfl | (exfalso; omega) | (simp; done) | (simp; omega) | (simp_all; done) | (simp_all; omega))))))
  rw [h7]
  have g7 : ¬ (n ≥ (List.length s.there : Int)) := of_decide_eq_false h7
  refine OW.last 15 [2, 3, 4, 7, 8, 113] (x' := ⟨(113, .v (.bool false)) :: sdq77, [(sdq0 s), some ⟨3, [[VI 3, VI n, .v (.string d)]]⟩, sdq1]⟩) (by kernel_rfl) (by kernel_rfl) ?_
  refine EL.condF (by kernel_rfl) ?_
  refine EL.skip ?_
  refine thenL_norm ?_
  refine EL.seq ?_
  refine EL.sreg ?_
  refine OW.last 11 [2, 3, 4, 7, 8, 125] (x' := ⟨(125, .v (.bool false)) :: sdq77, [(sdq0 s), some ⟨3, [[VI 3, VI n, .v (.string d)]]⟩, sdq1]⟩) (by kernel_rfl) (by kernel_rfl) ?_
  refine EL.condF (by kernel_rfl) ?_
  refine EL.skip ?_
  refine thenL_norm ?_
  refine EL.seq ?_
  refine EL.sreg ?_
  refine OW.run 33 (x' := ⟨(sdq80 s), [(sdq0 s), some ⟨3, [[VI 3, VI n, .v (.string d)]]⟩, sdq1]⟩) (by kernel_rfl) ?_
  refine OW.ope (v := VI (List.length s.back : Int)) (u := []) (acc := []) (x' := ⟨(160, VI (List.length s.back : Int)) :: (sdq80 s), [(sdq0 s), some ⟨3, [[VI 3, VI n, .v (.string d)]]⟩, sdq1]⟩) (by kernel_rfl) (opE_len cI s.back (.s 159) 1 (by kernel_rfl) (by kernel_rfl) (.inl rfl)) (by kernel_rfl) ?_
  refine OW.last 3 [2, 3, 4, 7, 8, 163] (x' := ⟨(163, .v (.bool ((List.length s.back : Int) == 60))) :: sdq77, [(sdq0 s), some ⟨3, [[VI 3, VI n, .v (.string d)]]⟩, sdq1]⟩) (by kernel_rfl) (by kernel_rfl) ?_
  rcases Bool.eq_false_or_eq_true (((List.length s.back : Int) == 60)) with h8 | h8
  rw [h8]
  have g8 : ((List.length s.back : Int) = 60) := by simpa using h8
  have n8 : ((List.length s.back) = 60) := by omega
  refine EL.condT (by kernel_rfl) ?_
  refine EL.sreg ?_
  refine OW.last 3 [4, 5] (x' := ⟨[(5, VI 2), (4, .ref 2 8 0 0)], [(sdq0 s), some ⟨3, [[VI 3, VI n, .v (.string d)]]⟩, sdq1]⟩) (by kernel_rfl) (by kernel_rfl) ?_
  refine EL.ret ?_
  refine thenL_ret ?_
  refine ⟨.inr rfl, .tup [.agg [.emp, .emp, .emp, VI 0, VI 0, VI 0, .emp, .emp], VI 2], by kernel_rfl, Ale.trans (b := .tup [.agg [.lst 1 [], .lst 1 [], .lst 2 [], VI 0, VI 0, VI 0, .lst 1 [], .lst 1 []], VI 2]) (Ale.tup (.cons (Ale.agg (.cons (Ale.emp) (.cons (Ale.emp) (.cons (Ale.emp) (.cons (Ale.refl) (.cons (Ale.refl) (.cons (Ale.refl) (.cons (Ale.emp) (.cons (Ale.emp) (.nil)))))))))) (.cons (Ale.refl) (.nil)))) (Ale.of_eq ?_)⟩
  focus ((first | (exfalso; omega) | (clear ee tt bb; (try simp only [← List.eraseIdx_eq_take_drop_succ]); rw [Ship.step_3]; simp only [ba_empty]; split <;> first | rfl | contradiction | (simp only [Ship.passP, wi_iff]; first | (rw [‹s.there[n.toNat]? = some _›, ‹s.log[s.applied.toNat]? = some _›]; (repeat' split) <;> first | rfl | (exfalso; omega) | (simp; done) | (simp; omega) | (simp_all; done) | (simp_all; omega)) | (rw [‹s.there[n.toNat]? = some _›]; (repeat' split) <;> first | rfl | (exfalso; omega) | (simp; done) | (simp; omega) | (simp_all; done) | (simp_all; omega)) | ((repeat' split) <;> first | rfl | (exfalso; omega) | (simp; done) | (simp; omega) | (simp_all; done) | (simp_all; omega))))))
  rw [h8]
  have g8 : ¬ ((List.length s.back : Int) = 60) := by simpa using h8
  have n8 : ¬ ((List.length s.back) = 60) := by omega
  refine EL.condF (by kernel_rfl) ?_
  refine EL.skip ?_
  refine thenL_norm ?_
  refine EL.seq ?_
  refine EL.sreg ?_
  refine OW.last 3 [2, 3, 4, 7, 8, 167] (x' := ⟨(167, .v (.bool false)) :: sdq77, [(sdq0 s), some ⟨3, [[VI 3, VI n, .v (.string d)]]⟩, sdq1]⟩) (by kernel_rfl) (by kernel_rfl) ?_
  refine EL.condF (by kernel_rfl) ?_
  refine EL.skip ?_
  refine thenL_norm ?_
  refine EL.seq ?_
  refine EL.sreg ?_
  refine OW.last 3 [2, 3, 4, 7, 8, 190] (x' := ⟨(190, .v (.bool false)) :: sdq77, [(sdq0 s), some ⟨3, [[VI 3, VI n, .v (.string d)]]⟩, sdq1]⟩) (by kernel_rfl) (by kernel_rfl) ?_
  refine EL.condF (by kernel_rfl) ?_
  refine EL.skip ?_
  refine thenL_norm ?_
  refine EL.seq ?_
  refine EL.sreg ?_
  refine OW.last 3 [2, 3, 4, 7, 8, 206] (x' := ⟨(206, .v (.bool true)) :: sdq77, [(sdq0 s), some ⟨3, [[VI 3, VI n, .v (.string d)]]⟩, sdq1]⟩) (by kernel_rfl) (by kernel_rfl) ?_
  refine EL.condT (by kernel_rfl) ?_
  refine EL.seq ?_
  refine EL.sdraw ?_
  refine DW.run 4 (x' := ⟨(sdq81 n s), [(sdq0 s), some ⟨3, [[VI 3, VI n, .v (.string d)]]⟩, sdq1]⟩) (by kernel_rfl) ?_
  obtain ⟨a10, ha10⟩ : ∃ y, s.there[(n : Int).toNat]? = some y := idx_ex ⟨by omega, by omega⟩
  have ma10 := tt _ (List.mem_of_getElem? ha10)
  refine DW.ope (v := .pim [VI a10] 0) (u := []) (acc := []) (x' := ⟨(211, .pim [VI a10] 0) :: (sdq81 n s), [(sdq0 s), some ⟨3, [[VI 3, VI n, .v (.string d)]]⟩, sdq1]⟩) (by kernel_rfl) (opE_iad cI s.there (.s 208) (.s 210) 1 .i64 n a10 (by kernel_rfl) (by kernel_rfl) (.inl rfl) rfl (by omega) ha10) (by kernel_rfl) ?_
  refine DW.run 5 (x' := ⟨(216, .v (.bool (a10 == IntKind.i64.wrap (s.applied + 1)))) :: (215, VI (IntKind.i64.wrap (s.applied + 1))) :: (sdq82 s a10 n), [(sdq0 s), some ⟨3, [[VI 3, VI n, .v (.string d)]]⟩, sdq1]⟩) (by kernel_rfl) ?_
  have e11 : IntKind.i64.wrap (s.applied + 1) = s.applied + 1 := wr64 (by omega)
  rw [e11]
  refine DW.last 0 [2, 3, 4, 7, 8, 216] (x' := ⟨(216, .v (.bool (a10 == (s.applied + 1)))) :: sdq77, [(sdq0 s), some ⟨3, [[VI 3, VI n, .v (.string d)]]⟩, sdq1]⟩) (by kernel_rfl) (by kernel_rfl) ?_
  rcases Bool.eq_false_or_eq_true ((a10 == (s.applied + 1))) with h12 | h12
  rw [h12]
  have g12 : (a10 = (s.applied + 1)) := by simpa using h12
  refine EL.condT (by kernel_rfl) ?_
  refine EL.sreg ?_
  refine OW.run 4 (x' := ⟨(sdq83 s), [(sdq0 s), some ⟨3, [[VI 3, VI n, .v (.string d)]]⟩, sdq1]⟩) (by kernel_rfl) ?_
  obtain ⟨a14, ha14⟩ : ∃ y, s.log[(s.applied : Int).toNat]? = some y := idx_ex ⟨by omega, by omega⟩
  have ma14 := ee _ (List.mem_of_getElem? ha14)
  refine OW.ope (v := .pim [VI a14.block, .v (.string a14.data)] 0) (u := []) (acc := []) (x' := ⟨(sdq84 a14 s), [(sdq0 s), some ⟨3, [[VI 3, VI n, .v (.string d)]]⟩, sdq1]⟩) (by kernel_rfl) (opE_iad Record.cs s.log (.s 218) (.s 220) 2 .i64 s.applied a14 (by kernel_rfl) (by kernel_rfl) (.inl rfl) rfl (by omega) ha14) (by kernel_rfl) ?_
  refine OW.last 3 [2, 3, 4, 7, 8, 9] (x' := ⟨(9, .ref 3 2 0 0) :: sdq77, (sdq85 s n d a14)⟩) (by kernel_rfl) (by kernel_rfl) ?_
  refine EL.sreg ?_
  refine OW.run 6 (x' := ⟨(sdq86 a14 s), (sdq85 s n d a14)⟩) (by kernel_rfl) ?_
  refine OW.fn (ar := [.lst 1 (s.second.map cZ), VI a14.block, .v (.string a14.data)]) (x' := ⟨(sdq87 s a14), (sdq85 s n d a14)⟩) (by kernel_rfl) (by kernel_rfl) F33_call (setText_fn s.second a14.block a14.data (by omega) (by omega)) (by kernel_rfl) (by kernel_rfl) ?_
  refine OW.last 2 [2, 3, 4, 7, 8] (x' := ⟨sdq77, (sdq89 s a14 n d)⟩) (by kernel_rfl) (by kernel_rfl) ?_
  refine EL.reg0 ?_
  refine OW.run 5 (x' := ⟨(234, .ref 0 8 0 4) :: (233, VI (IntKind.i64.wrap (s.applied + 1))) :: (232, VI s.applied) :: (231, .ref 0 8 0 4) :: sdq77, [some ⟨8, [[.lst 1 (s.first.map cZ), .lst 1 ((s.second.set a14.block.toNat a14.data).map cZ), .lst 2 (s.log.map Record.cs), VI s.sent, VI (IntKind.i64.wrap (s.applied + 1)), VI s.known, .lst 1 (s.there.map cI), .lst 1 (s.back.map cI)]]⟩, some ⟨3, [[VI 3, VI n, .v (.string d)]]⟩, sdq1, some ⟨2, [[VI a14.block, .v (.string a14.data)]]⟩]⟩) (by kernel_rfl) ?_
  have e15 : IntKind.i64.wrap (s.applied + 1) = s.applied + 1 := wr64 (by omega)
  rw [e15]
  refine OW.end 0 (x' := ⟨(sdq92 s), (sdq91 s a14 n d)⟩) (by kernel_rfl) (by kernel_rfl) ?_
  refine thenL_norm ?_
  refine EL.draw0 ?_
  refine DW.run 3 (x' := ⟨(sdq94 s), (sdq93 s a14 n d)⟩) (by kernel_rfl) ?_
  refine DW.ope (v := .own 5 1 0 (List.length s.back)) (u := [(4, none), (5, some ⟨1, (s.back.map cI)⟩)]) (acc := [4]) (x' := ⟨(238, .own 5 1 0 (List.length s.back)) :: (sdq94 s), (sdq95 s a14 n d)⟩) (by kernel_rfl) (opE_appO cI ([] : List Int) s.back (.s 235) (.s 237) 1 8 4 (.lst 1 (s.back.map cI)) _ (by kernel_rfl) (by kernel_rfl) rfl (by kernel_rfl) rfl .lst (by simp; omega)) (by kernel_rfl) ?_
  refine DW.run 3 (x' := ⟨(sdq97 s), (sdq96 s a14 n d)⟩) (by kernel_rfl) ?_
  refine DW.ope (v := .own 7 1 0 (List.length (s.back ++ ([(s.applied + 1)])))) (u := [(5, none), (7, some ⟨1, ((s.back ++ ([(s.applied + 1)])).map cI)⟩)]) (acc := [6, 5]) (x' := ⟨(sdq99 s), (sdq98 s a14 n d)⟩) (by kernel_rfl) (opE_appO cI s.back ([(s.applied + 1)]) (.s 238) (.s 241) 1 8 5 (.own 6 1 0 1) _ (by kernel_rfl) (by kernel_rfl) rfl (by kernel_rfl) rfl (.own (els := [[VI (s.applied + 1)]]) (by kernel_rfl) (by kernel_rfl) (of_decide_eq_true (by kernel_rfl))) (by simp; omega)) (by kernel_rfl) ?_
  refine DW.end 2 (x' := ⟨(243, .ref 0 8 0 7) :: (sdq99 s), (sdq101 s a14 n d)⟩) (by kernel_rfl) (by kernel_rfl) ?_
  refine thenL_norm ?_
  refine EL.seq ?_
  refine EL.sreg ?_
  refine OW.last 1 [2, 3, 4, 8, 244] (x' := ⟨sdq111, (sdq101 s a14 n d)⟩) (by kernel_rfl) (by kernel_rfl) ?_
  refine EL.condT (by kernel_rfl) ?_
  refine EL.reg0 ?_
  refine OW.run 4 (x' := ⟨(sdq112 n s), (sdq101 s a14 n d)⟩) (by kernel_rfl) ?_
  refine OW.fn (ar := [.lst 1 (s.there.map cI), VI n]) (x' := ⟨(sdq113 s n), (sdq101 s a14 n d)⟩) (by kernel_rfl) (by kernel_rfl) F34_call (without_fn s.there n (by omega) (by omega)) (by kernel_rfl) (by kernel_rfl) ?_
  refine OW.end 2 (x' := ⟨(250, .ref 0 8 0 6) :: (sdq113 s n), (sdq115 s a14 n d)⟩) (by kernel_rfl) (by kernel_rfl) ?_
  refine thenL_norm ?_
  refine EL.seq ?_
  refine EL.sdraw ?_
  refine DW.last 14 [2, 3, 4, 8, 264] (x' := ⟨sdq52, (sdq115 s a14 n d)⟩) (by kernel_rfl) (by kernel_rfl) ?_
  refine EL.condF (by kernel_rfl) ?_
  refine EL.skip ?_
  refine thenL_norm ?_
  refine EL.seq ?_
  refine EL.sreg ?_
  refine OW.last 1 [2, 3, 4, 280] (x' := ⟨(280, .v (.bool false)) :: sdq32, (sdq115 s a14 n d)⟩) (by kernel_rfl) (by kernel_rfl) ?_
  refine EL.condF (by kernel_rfl) ?_
  refine EL.skip ?_
  refine thenL_norm ?_
  refine EL.seq ?_
  refine EL.sreg ?_
  refine OW.last 3 [2, 3, 4, 289] (x' := ⟨(289, .v (.bool false)) :: sdq32, (sdq115 s a14 n d)⟩) (by kernel_rfl) (by kernel_rfl) ?_
  refine EL.condF (by kernel_rfl) ?_
  refine EL.skip ?_
  refine thenL_norm ?_
  refine EL.seq ?_
  refine EL.sreg ?_
  refine OW.last 3 [2, 4, 295] (x' := ⟨sdq53, (sdq115 s a14 n d)⟩) (by kernel_rfl) (by kernel_rfl) ?_
  refine EL.condF (by kernel_rfl) ?_
  refine EL.skip ?_
  refine thenL_norm ?_
  refine EL.sreg ?_
  refine OW.last 3 [4, 5] (x' := ⟨[(5, VI 0), (4, .ref 2 8 0 0)], (sdq116 s a14 n d)⟩) (by kernel_rfl) (by kernel_rfl) ?_
  refine EL.ret ?_
  refine ⟨.inr rfl, .tup [.agg [.lst 1 (s.first.map cZ), .lst 1 ((s.second.set a14.block.toNat a14.data).map cZ), .lst 2 (s.log.map Record.cs), VI s.sent, VI (s.applied + 1), VI s.known, .lst 1 ((s.there.take n.toNat ++ s.there.drop (n.toNat + 1)).map cI), .lst 1 ((s.back ++ ([(s.applied + 1)])).map cI)], VI 0], run_snap (r0 := .tup [.agg [.lst 1 (s.first.map cZ), .lst 1 ((s.second.set a14.block.toNat a14.data).map cZ), .lst 2 (s.log.map Record.cs), VI s.sent, VI (s.applied + 1), VI s.known, .lst 1 ((s.there.take n.toNat ++ s.there.drop (n.toNat + 1)).map cI), .own 7 1 0 (List.length (s.back ++ ([(s.applied + 1)])))], VI 0]) (by kernel_rfl) (snapR_tup (snapAs_cons (snapA_agg (snapL_cons (by kernel_rfl) (snapL_cons (by kernel_rfl) (snapL_cons (by kernel_rfl) (snapL_cons (by kernel_rfl) (snapL_cons (by kernel_rfl) (snapL_cons (by kernel_rfl) (snapL_cons (by kernel_rfl) (snapL_cons (snap1_map cI (s.back ++ ([(s.applied + 1)])) (by kernel_rfl) (by intro y; kernel_rfl) (by simp)) (rfl)))))))))) (snapAs_cons (by kernel_rfl) (snapAs_nil)))), Ale.of_eq ?_⟩
  focus ((first | (exfalso; omega) | (clear ee tt bb; (try simp only [← List.eraseIdx_eq_take_drop_succ]); rw [Ship.step_3]; simp only [ba_empty]; split <;> first | rfl | contradiction | (simp only [Ship.passP, wi_iff]; first | (rw [‹s.there[n.toNat]? = some _›, ‹s.log[s.applied.toNat]? = some _›]; (repeat' split) <;> first | rfl | (exfalso; omega) | (simp; done) | (simp; omega) | (simp_all; done) | (simp_all; omega)) | (rw [‹s.there[n.toNat]? = some _›]; (repeat' split) <;> first | rfl | (exfalso; omega) | (simp; done) | (simp; omega) | (simp_all; done) | (simp_all; omega)) | ((repeat' split) <;> first | rfl | (exfalso; omega) | (simp; done) | (simp; omega) | (simp_all; done) | (simp_all; omega))))))
  rw [h12]
  have g12 : ¬ (a10 = (s.applied + 1)) := by simpa using h12
  refine EL.condF (by kernel_rfl) ?_
  refine EL.skip ?_
  refine thenL_norm ?_
  refine EL.draw0 ?_
  refine DW.run 3 (x' := ⟨(sdq103 s), (sdq102 s n d)⟩) (by kernel_rfl) ?_
  refine DW.ope (v := .own 4 1 0 (List.length s.back)) (u := [(3, none), (4, some ⟨1, (s.back.map cI)⟩)]) (acc := [3]) (x' := ⟨(238, .own 4 1 0 (List.length s.back)) :: (sdq103 s), (sdq104 s n d)⟩) (by kernel_rfl) (opE_appO cI ([] : List Int) s.back (.s 235) (.s 237) 1 8 3 (.lst 1 (s.back.map cI)) _ (by kernel_rfl) (by kernel_rfl) rfl (by kernel_rfl) rfl .lst (by simp; omega)) (by kernel_rfl) ?_
  refine DW.run 3 (x' := ⟨(sdq106 s), (sdq105 s n d)⟩) (by kernel_rfl) ?_
  refine DW.ope (v := .own 6 1 0 (List.length (s.back ++ ([s.applied])))) (u := [(4, none), (6, some ⟨1, ((s.back ++ ([s.applied])).map cI)⟩)]) (acc := [5, 4]) (x' := ⟨(sdq108 s), (sdq107 s n d)⟩) (by kernel_rfl) (opE_appO cI s.back ([s.applied]) (.s 238) (.s 241) 1 8 4 (.own 5 1 0 1) _ (by kernel_rfl) (by kernel_rfl) rfl (by kernel_rfl) rfl (.own (els := [[VI s.applied]]) (by kernel_rfl) (by kernel_rfl) (of_decide_eq_true (by kernel_rfl))) (by simp; omega)) (by kernel_rfl) ?_
  refine DW.end 2 (x' := ⟨(243, .ref 0 8 0 7) :: (sdq108 s), (sdq110 s n d)⟩) (by kernel_rfl) (by kernel_rfl) ?_
  refine thenL_norm ?_
  refine EL.seq ?_
  refine EL.sreg ?_
  refine OW.last 1 [2, 3, 4, 8, 244] (x' := ⟨sdq111, (sdq110 s n d)⟩) (by kernel_rfl) (by kernel_rfl) ?_
  refine EL.condT (by kernel_rfl) ?_
  refine EL.reg0 ?_
  refine OW.run 4 (x' := ⟨(sdq112 n s), (sdq110 s n d)⟩) (by kernel_rfl) ?_
  refine OW.fn (ar := [.lst 1 (s.there.map cI), VI n]) (x' := ⟨(sdq113 s n), (sdq110 s n d)⟩) (by kernel_rfl) (by kernel_rfl) F34_call (without_fn s.there n (by omega) (by omega)) (by kernel_rfl) (by kernel_rfl) ?_
  refine OW.end 2 (x' := ⟨(250, .ref 0 8 0 6) :: (sdq113 s n), (sdq118 s n d)⟩) (by kernel_rfl) (by kernel_rfl) ?_
  refine thenL_norm ?_
  refine EL.seq ?_
  refine EL.sdraw ?_
  refine DW.last 14 [2, 3, 4, 8, 264] (x' := ⟨sdq52, (sdq118 s n d)⟩) (by kernel_rfl) (by kernel_rfl) ?_
  refine EL.condF (by kernel_rfl) ?_
  refine EL.skip ?_
  refine thenL_norm ?_
  refine EL.seq ?_
  refine EL.sreg ?_
  refine OW.last 1 [2, 3, 4, 280] (x' := ⟨(280, .v (.bool false)) :: sdq32, (sdq118 s n d)⟩) (by kernel_rfl) (by kernel_rfl) ?_
  refine EL.condF (by kernel_rfl) ?_
  refine EL.skip ?_
  refine thenL_norm ?_
  refine EL.seq ?_
  refine EL.sreg ?_
  refine OW.last 3 [2, 3, 4, 289] (x' := ⟨(289, .v (.bool false)) :: sdq32, (sdq118 s n d)⟩) (by kernel_rfl) (by kernel_rfl) ?_
  refine EL.condF (by kernel_rfl) ?_
  refine EL.skip ?_
  refine thenL_norm ?_
  refine EL.seq ?_
  refine EL.sreg ?_
  refine OW.last 3 [2, 4, 295] (x' := ⟨sdq53, (sdq118 s n d)⟩) (by kernel_rfl) (by kernel_rfl) ?_
  refine EL.condF (by kernel_rfl) ?_
  refine EL.skip ?_
  refine thenL_norm ?_
  refine EL.sreg ?_
  refine OW.last 3 [4, 5] (x' := ⟨[(5, VI 0), (4, .ref 2 8 0 0)], (sdq119 s n d)⟩) (by kernel_rfl) (by kernel_rfl) ?_
  refine EL.ret ?_
  refine ⟨.inr rfl, .tup [.agg [.lst 1 (s.first.map cZ), .lst 1 (s.second.map cZ), .lst 2 (s.log.map Record.cs), VI s.sent, VI s.applied, VI s.known, .lst 1 ((s.there.take n.toNat ++ s.there.drop (n.toNat + 1)).map cI), .lst 1 ((s.back ++ ([s.applied])).map cI)], VI 0], run_snap (r0 := .tup [.agg [.lst 1 (s.first.map cZ), .lst 1 (s.second.map cZ), .lst 2 (s.log.map Record.cs), VI s.sent, VI s.applied, VI s.known, .lst 1 ((s.there.take n.toNat ++ s.there.drop (n.toNat + 1)).map cI), .own 6 1 0 (List.length (s.back ++ ([s.applied])))], VI 0]) (by kernel_rfl) (snapR_tup (snapAs_cons (snapA_agg (snapL_cons (by kernel_rfl) (snapL_cons (by kernel_rfl) (snapL_cons (by kernel_rfl) (snapL_cons (by kernel_rfl) (snapL_cons (by kernel_rfl) (snapL_cons (by kernel_rfl) (snapL_cons (by kernel_rfl) (snapL_cons (snap1_map cI (s.back ++ ([s.applied])) (by kernel_rfl) (by intro y; kernel_rfl) (by simp)) (rfl)))))))))) (snapAs_cons (by kernel_rfl) (snapAs_nil)))), Ale.of_eq ?_⟩
  focus ((first | (exfalso; omega) | (clear ee tt bb; (try simp only [← List.eraseIdx_eq_take_drop_succ]); rw [Ship.step_3]; simp only [ba_empty]; split <;> first | rfl | contradiction | (simp only [Ship.passP, wi_iff]; first | (rw [‹s.there[n.toNat]? = some _›, ‹s.log[s.applied.toNat]? = some _›]; (repeat' split) <;> first | rfl | (exfalso; omega) | (simp; done) | (simp; omega) | (simp_all; done) | (simp_all; omega)) | (rw [‹s.there[n.toNat]? = some _›]; (repeat' split) <;> first | rfl | (exfalso; omega) | (simp; done) | (simp; omega) | (simp_all; done) | (simp_all; omega)) | ((repeat' split) <;> first | rfl | (exfalso; omega) | (simp; done) | (simp; omega) | (simp_all; done) | (simp_all; omega))))))
abbrev sdq120 (d : ByteArray) : LS := (31, VI (ByteArray.size d : Int)) :: (30, .v (.string d)) :: (29, .ref 1 3 0 2) :: (28, .v (.bool true)) :: (27, .v (.bool true)) :: (26, VI 4) :: (25, .ref 1 3 0 0) :: (23, .v (.bool false)) :: sdq30
abbrev sdq121 (n : Int) (d : ByteArray) : LS := (36, VI n) :: (35, .ref 1 3 0 1) :: (34, .v (.bool false)) :: (33, .v (.bool false)) :: (32, .v (.bool false)) :: (sdq120 d)
abbrev sdq122 (n : Int) : LS := (86, VI n) :: (85, .ref 1 3 0 1) :: (84, .v (.bool true)) :: (83, .v (.bool true)) :: (82, .v (.bool false)) :: (81, .v (.bool false)) :: (80, .v undef) :: (79, .v undef) :: (78, .v undef) :: (77, .v undef) :: (76, .v undef) :: (75, .v undef) :: (74, .v undef) :: (73, .v undef) :: (72, .v undef) :: (71, .v undef) :: (70, .v undef) :: (69, .v (.bool false)) :: (68, .v (.bool false)) :: (67, VI 4) :: (66, .ref 1 3 0 0) :: sdq77
abbrev sdq123 (s : Ship) (n : Int) : LS := (92, .lst 1 (s.there.map cI)) :: (91, .ref 0 8 0 6) :: (90, VI n) :: (89, .ref 1 3 0 1) :: (88, .v (.bool false)) :: (87, .v (.bool false)) :: (sdq122 n)
abbrev sdq124 (s : Ship) (n : Int) : OB := some ⟨8, [[.lst 1 (s.first.map cZ), .lst 1 (s.second.map cZ), .lst 2 (s.log.map Record.cs), VI s.sent, VI s.applied, VI s.known, .lst 1 ((s.there.take n.toNat ++ s.there.drop (n.toNat + 1)).map cI), .lst 1 (s.back.map cI)]]⟩
abbrev sdq125 (s : Ship) (n : Int) (d : ByteArray) : LB := [(sdq124 s n), some ⟨3, [[VI 4, VI n, .v (.string d)]]⟩, sdq1]
abbrev sdq126 (s : Ship) (n : Int) (d : ByteArray) : LB := [(sdq124 s n), some ⟨3, [[VI 4, VI n, .v (.string d)]]⟩, (sdq124 s n)]
theorem rdo4_fn (s : Ship) (n : Int) (d : ByteArray) (ok : s.Ok) : Fn Try.prog 14 [.agg [.lst 1 (s.first.map cZ), .lst 1 (s.second.map cZ), .lst 2 (s.log.map Record.cs), VI s.sent, VI s.applied, VI s.known, .lst 1 (s.there.map cI), .lst 1 (s.back.map cI)], .agg [VI 4, VI n, .v (.string d)]] (.tup [.agg [.lst 1 ((((s.stepP ⟨4, n, d⟩).1).first).map cZ), .lst 1 ((((s.stepP ⟨4, n, d⟩).1).second).map cZ), .lst 2 ((((s.stepP ⟨4, n, d⟩).1).log).map Record.cs), VI (((s.stepP ⟨4, n, d⟩).1).sent), VI (((s.stepP ⟨4, n, d⟩).1).applied), VI (((s.stepP ⟨4, n, d⟩).1).known), .lst 1 ((((s.stepP ⟨4, n, d⟩).1).there).map cI), .lst 1 ((((s.stepP ⟨4, n, d⟩).1).back).map cI)], VI ((s.stepP ⟨4, n, d⟩).2)]) := by
  have hx : s.first.length ≤ 9223372036854775807 ∧ s.second.length ≤ 9223372036854775807 ∧ s.log.length ≤ 9223372036854775807 ∧ s.there.length ≤ 9223372036854775807 ∧ s.back.length ≤ 9223372036854775807 := by have hh := ok.small; omega
  have hc0 := Ship.checkE_0.2 ok
  have hc : (s.checkE != 0) = false := by rw [hc0]; rfl
  obtain ⟨⟨a1, a2⟩, b1, c1, c2, ⟨d1, d2, d3⟩, ee, ⟨k1, k2, k3, k4, k5⟩, tt, bb⟩ := ok
  refine fn_walkW F14_ok (of_decide_eq_true (by kernel_rfl)) ?_
  refine EL.sreg ?_
  refine OW.last 4 [2, 3, 4] (x' := ⟨sdq30, [(sdq0 s), some ⟨3, [[VI 4, VI n, .v (.string d)]]⟩, sdq1]⟩) (by kernel_rfl) (by kernel_rfl) ?_
  refine EL.sreg ?_
  refine OW.run 1 (x' := ⟨(10, (sdq3 s)) :: sdq30, [(sdq0 s), some ⟨3, [[VI 4, VI n, .v (.string d)]]⟩, sdq1]⟩) (by kernel_rfl) ?_
  refine OW.fn (ar := [(sdq3 s)]) (x' := ⟨(11, VI s.checkE) :: (10, (sdq3 s)) :: sdq30, [(sdq0 s), some ⟨3, [[VI 4, VI n, .v (.string d)]]⟩, sdq1]⟩) (by kernel_rfl) (by kernel_rfl) F18_call (rcheck_fn s hx) (by kernel_rfl) (by kernel_rfl) ?_
  refine OW.last 1 [2, 3, 4, 6] (x' := ⟨(6, VI s.checkE) :: sdq30, [(sdq0 s), some ⟨3, [[VI 4, VI n, .v (.string d)]]⟩, sdq1]⟩) (by kernel_rfl) (by kernel_rfl) ?_
  refine EL.seq ?_
  refine EL.sreg ?_
  refine OW.last 2 [2, 3, 4, 6, 13] (x' := ⟨(13, .v (.bool (s.checkE != 0))) :: (6, VI s.checkE) :: sdq30, [(sdq0 s), some ⟨3, [[VI 4, VI n, .v (.string d)]]⟩, sdq1]⟩) (by kernel_rfl) (by kernel_rfl) ?_
  rw [hc]
  refine EL.condF (by kernel_rfl) ?_
  refine EL.skip ?_
  refine thenL_norm ?_
  refine EL.seq ?_
  refine EL.sreg ?_
  refine OW.last 8 [2, 3, 4, 23] (x' := ⟨(23, .v (.bool false)) :: sdq30, [(sdq0 s), some ⟨3, [[VI 4, VI n, .v (.string d)]]⟩, sdq1]⟩) (by kernel_rfl) (by kernel_rfl) ?_
  refine EL.condF (by kernel_rfl) ?_
  refine EL.skip ?_
  refine thenL_norm ?_
  refine EL.seqG [2, 3, 4] (fun y => (y = ⟨sdq32, [(sdq0 s), some ⟨3, [[VI 4, VI n, .v (.string d)]]⟩, sdq1]⟩ ∧ decide ((ByteArray.size d : Int) > 0) = false ∧ ((¬ (n = 0)) ∨ ((n = 0))))) ?_ ?_
  intro IHJ1 HJ1
  refine EL.sreg ?_
  refine OW.run 10 (x' := ⟨(34, .v (.bool (decide ((ByteArray.size d : Int) > 0)))) :: (33, .v (.bool (decide ((ByteArray.size d : Int) > 0)))) :: (32, .v (.bool (decide ((ByteArray.size d : Int) > 0)))) :: (sdq120 d), [(sdq0 s), some ⟨3, [[VI 4, VI n, .v (.string d)]]⟩, sdq1]⟩) (by kernel_rfl) ?_
  rcases Bool.eq_false_or_eq_true (decide ((ByteArray.size d : Int) > 0)) with h2 | h2
  rw [h2]
  have g2 : ((ByteArray.size d : Int) > 0) := of_decide_eq_true h2
  have n2 : ((ByteArray.size d) > 0) := by omega
  refine OW.last 14 [2, 3, 4, 48] (x' := ⟨(48, .v (.bool true)) :: sdq30, [(sdq0 s), some ⟨3, [[VI 4, VI n, .v (.string d)]]⟩, sdq1]⟩) (by kernel_rfl) (by kernel_rfl) ?_
  refine EL.condT (by kernel_rfl) ?_
  refine EL.sreg ?_
  refine OW.last 3 [4, 5] (x' := ⟨[(5, VI 1), (4, .ref 2 8 0 0)], [(sdq0 s), some ⟨3, [[VI 4, VI n, .v (.string d)]]⟩, sdq1]⟩) (by kernel_rfl) (by kernel_rfl) ?_
  refine EL.ret ?_
  refine thenL_ret ?_
  refine ⟨.inr rfl, .tup [.agg [.emp, .emp, .emp, VI 0, VI 0, VI 0, .emp, .emp], VI 1], by kernel_rfl, Ale.trans (b := .tup [.agg [.lst 1 [], .lst 1 [], .lst 2 [], VI 0, VI 0, VI 0, .lst 1 [], .lst 1 []], VI 1]) (Ale.tup (.cons (Ale.agg (.cons (Ale.emp) (.cons (Ale.emp) (.cons (Ale.emp) (.cons (Ale.refl) (.cons (Ale.refl) (.cons (Ale.refl) (.cons (Ale.emp) (.cons (Ale.emp) (.nil)))))))))) (.cons (Ale.refl) (.nil)))) (Ale.of_eq ?_)⟩
  focus ((first | (exfalso; omega) | (clear ee tt bb; (try simp only [← List.eraseIdx_eq_take_drop_succ]); rw [Ship.step_4]; (try simp only [ba_empty]); (try split) <;> first | rfl | contradiction | (exfalso; omega) | (exfalso; simp_all; done) | (simp only [Ship.loseP, wi_iff]; (repeat' split) <;> first | rfl | (exfalso; omega) | (simp; done) | (simp; omega) | (simp_all; done) | (simp_all; omega)))))
  rw [h2]
  have g2 : ¬ ((ByteArray.size d : Int) > 0) := of_decide_eq_false h2
  have n2 : ¬ ((ByteArray.size d) > 0) := by omega
  refine OW.run 4 (x' := ⟨(38, .v (.bool (n != 0))) :: (37, .v (.bool (n != 0))) :: (sdq121 n d), [(sdq0 s), some ⟨3, [[VI 4, VI n, .v (.string d)]]⟩, sdq1]⟩) (by kernel_rfl) ?_
  rcases Bool.eq_false_or_eq_true ((n != 0)) with h3 | h3
  rw [h3]
  have g3 : ¬ (n = 0) := by simpa using h3
  refine OW.last 10 [2, 3, 4, 48] (x' := ⟨(48, .v (.bool false)) :: sdq30, [(sdq0 s), some ⟨3, [[VI 4, VI n, .v (.string d)]]⟩, sdq1]⟩) (by kernel_rfl) (by kernel_rfl) ?_
  refine EL.condF (by kernel_rfl) ?_
  refine EL.skip ?_
  exact thenL_norm (HJ1.get ⟨by kernel_rfl, h2, (Or.inl (by first | exact g3 | exact h3 | simp_all | omega))⟩)
  rw [h3]
  have g3 : (n = 0) := by simpa using h3
  refine OW.last 10 [2, 3, 4, 48] (x' := ⟨(48, .v (.bool false)) :: sdq30, [(sdq0 s), some ⟨3, [[VI 4, VI n, .v (.string d)]]⟩, sdq1]⟩) (by kernel_rfl) (by kernel_rfl) ?_
  refine EL.condF (by kernel_rfl) ?_
  refine EL.skip ?_
  exact thenL_norm (HJ1.get ⟨by kernel_rfl, h2, (Or.inr (by first | exact g3 | exact h3 | simp_all | omega))⟩)
  rintro _ (⟨rfl, h4, hD5⟩)
  have g4 : ¬ ((ByteArray.size d : Int) > 0) := of_decide_eq_false h4
  have n4 : ¬ ((ByteArray.size d) > 0) := by omega
  refine EL.sreg ?_
  refine OW.last 9 [2, 3, 4, 7] (x' := ⟨(7, .v (.bool true)) :: sdq32, [(sdq0 s), some ⟨3, [[VI 4, VI n, .v (.string d)]]⟩, sdq1]⟩) (by kernel_rfl) (by kernel_rfl) ?_
  refine EL.sreg ?_
  refine OW.last 9 [2, 3, 4, 7, 8] (x' := ⟨sdq77, [(sdq0 s), some ⟨3, [[VI 4, VI n, .v (.string d)]]⟩, sdq1]⟩) (by kernel_rfl) (by kernel_rfl) ?_
  refine EL.seq ?_
  refine EL.sreg ?_
  refine OW.run 23 (x' := ⟨(88, .v (.bool (decide (n < 0)))) :: (87, .v (.bool (decide (n < 0)))) :: (sdq122 n), [(sdq0 s), some ⟨3, [[VI 4, VI n, .v (.string d)]]⟩, sdq1]⟩) (by kernel_rfl) ?_
  rcases Bool.eq_false_or_eq_true (decide (n < 0)) with h6 | h6
  rw [h6]
  have g6 : (n < 0) := of_decide_eq_true h6
  refine OW.last 25 [2, 3, 4, 7, 8, 113] (x' := ⟨(113, .v (.bool true)) :: sdq77, [(sdq0 s), some ⟨3, [[VI 4, VI n, .v (.string d)]]⟩, sdq1]⟩) (by kernel_rfl) (by kernel_rfl) ?_
  refine EL.condT (by kernel_rfl) ?_
  refine EL.sreg ?_
  refine OW.last 3 [4, 5] (x' := ⟨[(5, VI 3), (4, .ref 2 8 0 0)], [(sdq0 s), some ⟨3, [[VI 4, VI n, .v (.string d)]]⟩, sdq1]⟩) (by kernel_rfl) (by kernel_rfl) ?_
  refine EL.ret ?_
  refine thenL_ret ?_
  refine ⟨.inr rfl, .tup [.agg [.emp, .emp, .emp, VI 0, VI 0, VI 0, .emp, .emp], VI 3], by kernel_rfl, Ale.trans (b := .tup [.agg [.lst 1 [], .lst 1 [], .lst 2 [], VI 0, VI 0, VI 0, .lst 1 [], .lst 1 []], VI 3]) (Ale.tup (.cons (Ale.agg (.cons (Ale.emp) (.cons (Ale.emp) (.cons (Ale.emp) (.cons (Ale.refl) (.cons (Ale.refl) (.cons (Ale.refl) (.cons (Ale.emp) (.cons (Ale.emp) (.nil)))))))))) (.cons (Ale.refl) (.nil)))) (Ale.of_eq ?_)⟩
  focus ((first | (exfalso; omega) | (clear ee tt bb; (try simp only [← List.eraseIdx_eq_take_drop_succ]); rw [Ship.step_4]; (try simp only [ba_empty]); (try split) <;> first | rfl | contradiction | (exfalso; omega) | (exfalso; simp_all; done) | (simp only [Ship.loseP, wi_iff]; (repeat' split) <;> first | rfl | (exfalso; omega) | (simp; done) | (simp; omega) | (simp_all; done) | (simp_all; omega)))))
  rw [h6]
  have g6 : ¬ (n < 0) := of_decide_eq_false h6
  refine OW.run 4 (x' := ⟨(sdq123 s n), [(sdq0 s), some ⟨3, [[VI 4, VI n, .v (.string d)]]⟩, sdq1]⟩) (by kernel_rfl) ?_
  refine OW.ope (v := VI (List.length s.there : Int)) (u := []) (acc := []) (x' := ⟨(93, VI (List.length s.there : Int)) :: (sdq123 s n), [(sdq0 s), some ⟨3, [[VI 4, VI n, .v (.string d)]]⟩, sdq1]⟩) (by kernel_rfl) (opE_len cI s.there (.s 92) 1 (by kernel_rfl) (by kernel_rfl) (.inl rfl)) (by kernel_rfl) ?_
  refine OW.run 5 (x' := ⟨(98, .v (.bool (decide (n ≥ (List.length s.there : Int))))) :: (97, .v (.bool (decide (n ≥ (List.length s.there : Int))))) :: (96, .v (.bool (decide (n ≥ (List.length s.there : Int))))) :: (95, .v (.bool (decide (n ≥ (List.length s.there : Int))))) :: (94, .v (.bool (decide (n ≥ (List.length s.there : Int))))) :: (93, VI (List.length s.there : Int)) :: (sdq123 s n), [(sdq0 s), some ⟨3, [[VI 4, VI n, .v (.string d)]]⟩, sdq1]⟩) (by kernel_rfl) ?_
  rcases Bool.eq_false_or_eq_true (decide (n ≥ (List.length s.there : Int))) with h7 | h7
  rw [h7]
  have g7 : (n ≥ (List.length s.there : Int)) := of_decide_eq_true h7
  refine OW.last 15 [2, 3, 4, 7, 8, 113] (x' := ⟨(113, .v (.bool true)) :: sdq77, [(sdq0 s), some ⟨3, [[VI 4, VI n, .v (.string d)]]⟩, sdq1]⟩) (by kernel_rfl) (by kernel_rfl) ?_
  refine EL.condT (by kernel_rfl) ?_
  refine EL.sreg ?_
  refine OW.last 3 [4, 5] (x' := ⟨[(5, VI 3), (4, .ref 2 8 0 0)], [(sdq0 s), some ⟨3, [[VI 4, VI n, .v (.string d)]]⟩, sdq1]⟩) (by kernel_rfl) (by kernel_rfl) ?_
  refine EL.ret ?_
  refine thenL_ret ?_
  refine ⟨.inr rfl, .tup [.agg [.emp, .emp, .emp, VI 0, VI 0, VI 0, .emp, .emp], VI 3], by kernel_rfl, Ale.trans (b := .tup [.agg [.lst 1 [], .lst 1 [], .lst 2 [], VI 0, VI 0, VI 0, .lst 1 [], .lst 1 []], VI 3]) (Ale.tup (.cons (Ale.agg (.cons (Ale.emp) (.cons (Ale.emp) (.cons (Ale.emp) (.cons (Ale.refl) (.cons (Ale.refl) (.cons (Ale.refl) (.cons (Ale.emp) (.cons (Ale.emp) (.nil)))))))))) (.cons (Ale.refl) (.nil)))) (Ale.of_eq ?_)⟩
  focus ((first | (exfalso; omega) | (clear ee tt bb; (try simp only [← List.eraseIdx_eq_take_drop_succ]); rw [Ship.step_4]; (try simp only [ba_empty]); (try split) <;> first | rfl | contradiction | (exfalso; omega) | (exfalso; simp_all; done) | (simp only [Ship.loseP, wi_iff]; (repeat' split) <;> first | rfl | (exfalso; omega) | (simp; done) | (simp; omega) | (simp_all; done) | (simp_all; omega)))))
  rw [h7]
  have g7 : ¬ (n ≥ (List.length s.there : Int)) := of_decide_eq_false h7
  refine OW.last 15 [2, 3, 4, 7, 8, 113] (x' := ⟨(113, .v (.bool false)) :: sdq77, [(sdq0 s), some ⟨3, [[VI 4, VI n, .v (.string d)]]⟩, sdq1]⟩) (by kernel_rfl) (by kernel_rfl) ?_
  refine EL.condF (by kernel_rfl) ?_
  refine EL.skip ?_
  refine thenL_norm ?_
  refine EL.seq ?_
  refine EL.sreg ?_
  refine OW.last 11 [2, 3, 4, 7, 8, 125] (x' := ⟨(125, .v (.bool false)) :: sdq77, [(sdq0 s), some ⟨3, [[VI 4, VI n, .v (.string d)]]⟩, sdq1]⟩) (by kernel_rfl) (by kernel_rfl) ?_
  refine EL.condF (by kernel_rfl) ?_
  refine EL.skip ?_
  refine thenL_norm ?_
  refine EL.seq ?_
  refine EL.sreg ?_
  refine OW.last 37 [2, 3, 4, 7, 8, 163] (x' := ⟨(163, .v (.bool false)) :: sdq77, [(sdq0 s), some ⟨3, [[VI 4, VI n, .v (.string d)]]⟩, sdq1]⟩) (by kernel_rfl) (by kernel_rfl) ?_
  refine EL.condF (by kernel_rfl) ?_
  refine EL.skip ?_
  refine thenL_norm ?_
  refine EL.seq ?_
  refine EL.sreg ?_
  refine OW.last 3 [2, 3, 4, 7, 8, 167] (x' := ⟨(167, .v (.bool false)) :: sdq77, [(sdq0 s), some ⟨3, [[VI 4, VI n, .v (.string d)]]⟩, sdq1]⟩) (by kernel_rfl) (by kernel_rfl) ?_
  refine EL.condF (by kernel_rfl) ?_
  refine EL.skip ?_
  refine thenL_norm ?_
  refine EL.seq ?_
  refine EL.sreg ?_
  refine OW.last 3 [2, 3, 4, 7, 8, 190] (x' := ⟨(190, .v (.bool false)) :: sdq77, [(sdq0 s), some ⟨3, [[VI 4, VI n, .v (.string d)]]⟩, sdq1]⟩) (by kernel_rfl) (by kernel_rfl) ?_
  refine EL.condF (by kernel_rfl) ?_
  refine EL.skip ?_
  refine thenL_norm ?_
  refine EL.seq ?_
  refine EL.sreg ?_
  refine OW.last 3 [2, 3, 4, 7, 8, 206] (x' := ⟨(206, .v (.bool false)) :: sdq77, [(sdq0 s), some ⟨3, [[VI 4, VI n, .v (.string d)]]⟩, sdq1]⟩) (by kernel_rfl) (by kernel_rfl) ?_
  refine EL.condF (by kernel_rfl) ?_
  refine EL.skip ?_
  refine thenL_norm ?_
  refine EL.seq ?_
  refine EL.sreg ?_
  refine OW.last 1 [2, 3, 4, 8, 244] (x' := ⟨sdq111, [(sdq0 s), some ⟨3, [[VI 4, VI n, .v (.string d)]]⟩, sdq1]⟩) (by kernel_rfl) (by kernel_rfl) ?_
  refine EL.condT (by kernel_rfl) ?_
  refine EL.reg0 ?_
  refine OW.run 4 (x' := ⟨(sdq112 n s), [(sdq0 s), some ⟨3, [[VI 4, VI n, .v (.string d)]]⟩, sdq1]⟩) (by kernel_rfl) ?_
  refine OW.fn (ar := [.lst 1 (s.there.map cI), VI n]) (x' := ⟨(sdq113 s n), [(sdq0 s), some ⟨3, [[VI 4, VI n, .v (.string d)]]⟩, sdq1]⟩) (by kernel_rfl) (by kernel_rfl) F34_call (without_fn s.there n (by omega) (by omega)) (by kernel_rfl) (by kernel_rfl) ?_
  refine OW.end 2 (x' := ⟨(250, .ref 0 8 0 6) :: (sdq113 s n), (sdq125 s n d)⟩) (by kernel_rfl) (by kernel_rfl) ?_
  refine thenL_norm ?_
  refine EL.seq ?_
  refine EL.sdraw ?_
  refine DW.last 14 [2, 3, 4, 8, 264] (x' := ⟨sdq52, (sdq125 s n d)⟩) (by kernel_rfl) (by kernel_rfl) ?_
  refine EL.condF (by kernel_rfl) ?_
  refine EL.skip ?_
  refine thenL_norm ?_
  refine EL.seq ?_
  refine EL.sreg ?_
  refine OW.last 1 [2, 3, 4, 280] (x' := ⟨(280, .v (.bool false)) :: sdq32, (sdq125 s n d)⟩) (by kernel_rfl) (by kernel_rfl) ?_
  refine EL.condF (by kernel_rfl) ?_
  refine EL.skip ?_
  refine thenL_norm ?_
  refine EL.seq ?_
  refine EL.sreg ?_
  refine OW.last 3 [2, 3, 4, 289] (x' := ⟨(289, .v (.bool false)) :: sdq32, (sdq125 s n d)⟩) (by kernel_rfl) (by kernel_rfl) ?_
  refine EL.condF (by kernel_rfl) ?_
  refine EL.skip ?_
  refine thenL_norm ?_
  refine EL.seq ?_
  refine EL.sreg ?_
  refine OW.last 3 [2, 4, 295] (x' := ⟨sdq53, (sdq125 s n d)⟩) (by kernel_rfl) (by kernel_rfl) ?_
  refine EL.condF (by kernel_rfl) ?_
  refine EL.skip ?_
  refine thenL_norm ?_
  refine EL.sreg ?_
  refine OW.last 3 [4, 5] (x' := ⟨[(5, VI 0), (4, .ref 2 8 0 0)], (sdq126 s n d)⟩) (by kernel_rfl) (by kernel_rfl) ?_
  refine EL.ret ?_
  refine ⟨.inr rfl, .tup [.agg [.lst 1 (s.first.map cZ), .lst 1 (s.second.map cZ), .lst 2 (s.log.map Record.cs), VI s.sent, VI s.applied, VI s.known, .lst 1 ((s.there.take n.toNat ++ s.there.drop (n.toNat + 1)).map cI), .lst 1 (s.back.map cI)], VI 0], by kernel_rfl, Ale.of_eq ?_⟩
  focus ((first | (exfalso; omega) | (clear ee tt bb; (try simp only [← List.eraseIdx_eq_take_drop_succ]); rw [Ship.step_4]; (try simp only [ba_empty]); (try split) <;> first | rfl | contradiction | (exfalso; omega) | (exfalso; simp_all; done) | (simp only [Ship.loseP, wi_iff]; (repeat' split) <;> first | rfl | (exfalso; omega) | (simp; done) | (simp; omega) | (simp_all; done) | (simp_all; omega)))))
abbrev sdq127 (d : ByteArray) : LS := (31, VI (ByteArray.size d : Int)) :: (30, .v (.string d)) :: (29, .ref 1 3 0 2) :: (28, .v (.bool true)) :: (27, .v (.bool true)) :: (26, VI 5) :: (25, .ref 1 3 0 0) :: (23, .v (.bool false)) :: sdq30
abbrev sdq128 (n : Int) (d : ByteArray) : LS := (36, VI n) :: (35, .ref 1 3 0 1) :: (34, .v (.bool false)) :: (33, .v (.bool false)) :: (32, .v (.bool false)) :: (sdq127 d)
abbrev sdq129 : LS := (8, .v (.bool true)) :: (7, .v (.bool false)) :: sdq32
abbrev sdq130 (n : Int) : LS := (102, VI n) :: (101, .ref 1 3 0 1) :: (100, .v (.bool true)) :: (99, .v (.bool true)) :: (98, .v (.bool false)) :: (97, .v (.bool false)) :: (96, .v (.bool false)) :: (95, .v undef) :: (94, .v undef) :: (93, .v undef) :: (92, .v undef) :: (91, .v undef) :: (90, .v undef) :: (89, .v undef) :: (88, .v undef) :: (87, .v undef) :: (86, .v undef) :: (85, .v undef) :: (84, .v (.bool false)) :: (83, .v (.bool false)) :: (82, .v (.bool false)) :: (81, .v (.bool false)) :: (80, .v undef) :: (79, .v undef) :: (78, .v undef) :: (77, .v undef) :: (76, .v undef) :: (75, .v undef) :: (74, .v undef) :: (73, .v undef) :: (72, .v undef) :: (71, .v undef) :: (70, .v undef) :: (69, .v (.bool false)) :: (68, .v (.bool false)) :: (67, VI 5) :: (66, .ref 1 3 0 0) :: sdq129
abbrev sdq131 (s : Ship) (n : Int) : LS := (108, .lst 1 (s.back.map cI)) :: (107, .ref 0 8 0 7) :: (106, VI n) :: (105, .ref 1 3 0 1) :: (104, .v (.bool false)) :: (103, .v (.bool false)) :: (sdq130 n)
abbrev sdq132 : LS := (244, .v (.bool false)) :: (8, .v (.bool true)) :: sdq32
abbrev sdq133 (n : Int) (s : Ship) : LS := (258, VI n) :: (257, .ref 1 3 0 1) :: (256, .lst 1 (s.back.map cI)) :: (255, .ref 0 8 0 7) :: (254, .v (.bool true)) :: (253, .v (.bool true)) :: (252, VI 5) :: (251, .ref 1 3 0 0) :: sdq132
abbrev sdq134 (n : Int) (s : Ship) : LS := (268, VI n) :: (267, .ref 1 3 0 1) :: (266, .lst 1 (s.back.map cI)) :: (265, .ref 0 8 0 7) :: (264, .v (.bool true)) :: (8, .v (.bool true)) :: sdq32
abbrev sdq135 (s : Ship) (a9 : Int) : OB := some ⟨8, [[.lst 1 (s.first.map cZ), .lst 1 (s.second.map cZ), .lst 2 (s.log.map Record.cs), VI s.sent, VI s.applied, VI a9, .lst 1 (s.there.map cI), .lst 1 (s.back.map cI)]]⟩
abbrev sdq136 (s : Ship) (a9 : Int) (n : Int) (d : ByteArray) : LB := [(sdq135 s a9), some ⟨3, [[VI 5, VI n, .v (.string d)]]⟩, sdq1]
abbrev sdq137 (s : Ship) (a9 : Int) : OB := some ⟨8, [[.lst 1 (s.first.map cZ), .lst 1 (s.second.map cZ), .lst 2 (s.log.map Record.cs), VI a9, VI s.applied, VI a9, .lst 1 (s.there.map cI), .lst 1 (s.back.map cI)]]⟩
abbrev sdq138 (s : Ship) (a9 : Int) (n : Int) (d : ByteArray) : LB := [(sdq137 s a9), some ⟨3, [[VI 5, VI n, .v (.string d)]]⟩, sdq1]
abbrev sdq139 (a9 : Int) : LS := (279, .ref 0 8 0 3) :: (278, VI a9) :: (277, .ref 0 8 0 5) :: (276, .v (.bool true)) :: (8, .v (.bool true)) :: sdq32
abbrev sdq140 (n : Int) (s : Ship) : LS := (284, VI n) :: (283, .ref 1 3 0 1) :: (282, .lst 1 (s.back.map cI)) :: (281, .ref 0 8 0 7) :: (280, .v (.bool true)) :: sdq32
abbrev sdq141 (s : Ship) (n : Int) : LS := (285, .lst 1 ((s.back.take n.toNat ++ s.back.drop (n.toNat + 1)).map cI)) :: (sdq140 n s)
abbrev sdq142 (s : Ship) (a9 : Int) (n : Int) : OB := some ⟨8, [[.lst 1 (s.first.map cZ), .lst 1 (s.second.map cZ), .lst 2 (s.log.map Record.cs), VI a9, VI s.applied, VI a9, .lst 1 (s.there.map cI), .lst 1 ((s.back.take n.toNat ++ s.back.drop (n.toNat + 1)).map cI)]]⟩
abbrev sdq143 (s : Ship) (a9 : Int) (n : Int) (d : ByteArray) : LB := [(sdq142 s a9 n), some ⟨3, [[VI 5, VI n, .v (.string d)]]⟩, sdq1]
abbrev sdq144 (s : Ship) (a9 : Int) (n : Int) (d : ByteArray) : LB := [(sdq142 s a9 n), some ⟨3, [[VI 5, VI n, .v (.string d)]]⟩, (sdq142 s a9 n)]
abbrev sdq145 (s : Ship) (a9 : Int) (n : Int) : OB := some ⟨8, [[.lst 1 (s.first.map cZ), .lst 1 (s.second.map cZ), .lst 2 (s.log.map Record.cs), VI s.sent, VI s.applied, VI a9, .lst 1 (s.there.map cI), .lst 1 ((s.back.take n.toNat ++ s.back.drop (n.toNat + 1)).map cI)]]⟩
abbrev sdq146 (s : Ship) (a9 : Int) (n : Int) (d : ByteArray) : LB := [(sdq145 s a9 n), some ⟨3, [[VI 5, VI n, .v (.string d)]]⟩, sdq1]
abbrev sdq147 (s : Ship) (a9 : Int) (n : Int) (d : ByteArray) : LB := [(sdq145 s a9 n), some ⟨3, [[VI 5, VI n, .v (.string d)]]⟩, (sdq145 s a9 n)]
abbrev sdq148 (s : Ship) (n : Int) : OB := some ⟨8, [[.lst 1 (s.first.map cZ), .lst 1 (s.second.map cZ), .lst 2 (s.log.map Record.cs), VI s.sent, VI s.applied, VI s.known, .lst 1 (s.there.map cI), .lst 1 ((s.back.take n.toNat ++ s.back.drop (n.toNat + 1)).map cI)]]⟩
abbrev sdq149 (s : Ship) (n : Int) (d : ByteArray) : LB := [(sdq148 s n), some ⟨3, [[VI 5, VI n, .v (.string d)]]⟩, sdq1]
abbrev sdq150 (s : Ship) (n : Int) (d : ByteArray) : LB := [(sdq148 s n), some ⟨3, [[VI 5, VI n, .v (.string d)]]⟩, (sdq148 s n)]
theorem rdo5_fn (s : Ship) (n : Int) (d : ByteArray) (ok : s.Ok) : Fn Try.prog 14 [.agg [.lst 1 (s.first.map cZ), .lst 1 (s.second.map cZ), .lst 2 (s.log.map Record.cs), VI s.sent, VI s.applied, VI s.known, .lst 1 (s.there.map cI), .lst 1 (s.back.map cI)], .agg [VI 5, VI n, .v (.string d)]] (.tup [.agg [.lst 1 ((((s.stepP ⟨5, n, d⟩).1).first).map cZ), .lst 1 ((((s.stepP ⟨5, n, d⟩).1).second).map cZ), .lst 2 ((((s.stepP ⟨5, n, d⟩).1).log).map Record.cs), VI (((s.stepP ⟨5, n, d⟩).1).sent), VI (((s.stepP ⟨5, n, d⟩).1).applied), VI (((s.stepP ⟨5, n, d⟩).1).known), .lst 1 ((((s.stepP ⟨5, n, d⟩).1).there).map cI), .lst 1 ((((s.stepP ⟨5, n, d⟩).1).back).map cI)], VI ((s.stepP ⟨5, n, d⟩).2)]) := by
  have hx : s.first.length ≤ 9223372036854775807 ∧ s.second.length ≤ 9223372036854775807 ∧ s.log.length ≤ 9223372036854775807 ∧ s.there.length ≤ 9223372036854775807 ∧ s.back.length ≤ 9223372036854775807 := by have hh := ok.small; omega
  have hc0 := Ship.checkE_0.2 ok
  have hc : (s.checkE != 0) = false := by rw [hc0]; rfl
  obtain ⟨⟨a1, a2⟩, b1, c1, c2, ⟨d1, d2, d3⟩, ee, ⟨k1, k2, k3, k4, k5⟩, tt, bb⟩ := ok
  refine fn_walkW F14_ok (of_decide_eq_true (by kernel_rfl)) ?_
  refine EL.sreg ?_
  refine OW.last 4 [2, 3, 4] (x' := ⟨sdq30, [(sdq0 s), some ⟨3, [[VI 5, VI n, .v (.string d)]]⟩, sdq1]⟩) (by kernel_rfl) (by kernel_rfl) ?_
  refine EL.sreg ?_
  refine OW.run 1 (x' := ⟨(10, (sdq3 s)) :: sdq30, [(sdq0 s), some ⟨3, [[VI 5, VI n, .v (.string d)]]⟩, sdq1]⟩) (by kernel_rfl) ?_
  refine OW.fn (ar := [(sdq3 s)]) (x' := ⟨(11, VI s.checkE) :: (10, (sdq3 s)) :: sdq30, [(sdq0 s), some ⟨3, [[VI 5, VI n, .v (.string d)]]⟩, sdq1]⟩) (by kernel_rfl) (by kernel_rfl) F18_call (rcheck_fn s hx) (by kernel_rfl) (by kernel_rfl) ?_
  refine OW.last 1 [2, 3, 4, 6] (x' := ⟨(6, VI s.checkE) :: sdq30, [(sdq0 s), some ⟨3, [[VI 5, VI n, .v (.string d)]]⟩, sdq1]⟩) (by kernel_rfl) (by kernel_rfl) ?_
  refine EL.seq ?_
  refine EL.sreg ?_
  refine OW.last 2 [2, 3, 4, 6, 13] (x' := ⟨(13, .v (.bool (s.checkE != 0))) :: (6, VI s.checkE) :: sdq30, [(sdq0 s), some ⟨3, [[VI 5, VI n, .v (.string d)]]⟩, sdq1]⟩) (by kernel_rfl) (by kernel_rfl) ?_
  rw [hc]
  refine EL.condF (by kernel_rfl) ?_
  refine EL.skip ?_
  refine thenL_norm ?_
  refine EL.seq ?_
  refine EL.sreg ?_
  refine OW.last 8 [2, 3, 4, 23] (x' := ⟨(23, .v (.bool false)) :: sdq30, [(sdq0 s), some ⟨3, [[VI 5, VI n, .v (.string d)]]⟩, sdq1]⟩) (by kernel_rfl) (by kernel_rfl) ?_
  refine EL.condF (by kernel_rfl) ?_
  refine EL.skip ?_
  refine thenL_norm ?_
  refine EL.seqG [2, 3, 4] (fun y => (y = ⟨sdq32, [(sdq0 s), some ⟨3, [[VI 5, VI n, .v (.string d)]]⟩, sdq1]⟩ ∧ decide ((ByteArray.size d : Int) > 0) = false ∧ ((¬ (n = 0)) ∨ ((n = 0))))) ?_ ?_
  intro IHJ1 HJ1
  refine EL.sreg ?_
  refine OW.run 10 (x' := ⟨(34, .v (.bool (decide ((ByteArray.size d : Int) > 0)))) :: (33, .v (.bool (decide ((ByteArray.size d : Int) > 0)))) :: (32, .v (.bool (decide ((ByteArray.size d : Int) > 0)))) :: (sdq127 d), [(sdq0 s), some ⟨3, [[VI 5, VI n, .v (.string d)]]⟩, sdq1]⟩) (by kernel_rfl) ?_
  rcases Bool.eq_false_or_eq_true (decide ((ByteArray.size d : Int) > 0)) with h2 | h2
  rw [h2]
  have g2 : ((ByteArray.size d : Int) > 0) := of_decide_eq_true h2
  have n2 : ((ByteArray.size d) > 0) := by omega
  refine OW.last 14 [2, 3, 4, 48] (x' := ⟨(48, .v (.bool true)) :: sdq30, [(sdq0 s), some ⟨3, [[VI 5, VI n, .v (.string d)]]⟩, sdq1]⟩) (by kernel_rfl) (by kernel_rfl) ?_
  refine EL.condT (by kernel_rfl) ?_
  refine EL.sreg ?_
  refine OW.last 3 [4, 5] (x' := ⟨[(5, VI 1), (4, .ref 2 8 0 0)], [(sdq0 s), some ⟨3, [[VI 5, VI n, .v (.string d)]]⟩, sdq1]⟩) (by kernel_rfl) (by kernel_rfl) ?_
  refine EL.ret ?_
  refine thenL_ret ?_
  refine ⟨.inr rfl, .tup [.agg [.emp, .emp, .emp, VI 0, VI 0, VI 0, .emp, .emp], VI 1], by kernel_rfl, Ale.trans (b := .tup [.agg [.lst 1 [], .lst 1 [], .lst 2 [], VI 0, VI 0, VI 0, .lst 1 [], .lst 1 []], VI 1]) (Ale.tup (.cons (Ale.agg (.cons (Ale.emp) (.cons (Ale.emp) (.cons (Ale.emp) (.cons (Ale.refl) (.cons (Ale.refl) (.cons (Ale.refl) (.cons (Ale.emp) (.cons (Ale.emp) (.nil)))))))))) (.cons (Ale.refl) (.nil)))) (Ale.of_eq ?_)⟩
  focus ((first | (exfalso; omega) | (clear ee tt bb; (try simp only [← List.eraseIdx_eq_take_drop_succ]); rw [Ship.step_5]; (try simp only [ba_empty]); (try split) <;> first | rfl | contradiction | (exfalso; omega) | (exfalso; simp_all; done) | (simp only [Ship.hearP, wi_iff]; (repeat' split) <;> first | rfl | (exfalso; omega) | (simp; done) | (simp; omega) | (simp_all; done) | (simp_all; omega)))))
  rw [h2]
  have g2 : ¬ ((ByteArray.size d : Int) > 0) := of_decide_eq_false h2
  have n2 : ¬ ((ByteArray.size d) > 0) := by omega
  refine OW.run 4 (x' := ⟨(38, .v (.bool (n != 0))) :: (37, .v (.bool (n != 0))) :: (sdq128 n d), [(sdq0 s), some ⟨3, [[VI 5, VI n, .v (.string d)]]⟩, sdq1]⟩) (by kernel_rfl) ?_
  rcases Bool.eq_false_or_eq_true ((n != 0)) with h3 | h3
  rw [h3]
  have g3 : ¬ (n = 0) := by simpa using h3
  refine OW.last 10 [2, 3, 4, 48] (x' := ⟨(48, .v (.bool false)) :: sdq30, [(sdq0 s), some ⟨3, [[VI 5, VI n, .v (.string d)]]⟩, sdq1]⟩) (by kernel_rfl) (by kernel_rfl) ?_
  refine EL.condF (by kernel_rfl) ?_
  refine EL.skip ?_
  exact thenL_norm (HJ1.get ⟨by kernel_rfl, h2, (Or.inl (by first | exact g3 | exact h3 | simp_all | omega))⟩)
  rw [h3]
  have g3 : (n = 0) := by simpa using h3
  refine OW.last 10 [2, 3, 4, 48] (x' := ⟨(48, .v (.bool false)) :: sdq30, [(sdq0 s), some ⟨3, [[VI 5, VI n, .v (.string d)]]⟩, sdq1]⟩) (by kernel_rfl) (by kernel_rfl) ?_
  refine EL.condF (by kernel_rfl) ?_
  refine EL.skip ?_
  exact thenL_norm (HJ1.get ⟨by kernel_rfl, h2, (Or.inr (by first | exact g3 | exact h3 | simp_all | omega))⟩)
  rintro _ (⟨rfl, h4, hD5⟩)
  have g4 : ¬ ((ByteArray.size d : Int) > 0) := of_decide_eq_false h4
  have n4 : ¬ ((ByteArray.size d) > 0) := by omega
  refine EL.sreg ?_
  refine OW.last 9 [2, 3, 4, 7] (x' := ⟨(7, .v (.bool false)) :: sdq32, [(sdq0 s), some ⟨3, [[VI 5, VI n, .v (.string d)]]⟩, sdq1]⟩) (by kernel_rfl) (by kernel_rfl) ?_
  refine EL.sreg ?_
  refine OW.last 9 [2, 3, 4, 7, 8] (x' := ⟨sdq129, [(sdq0 s), some ⟨3, [[VI 5, VI n, .v (.string d)]]⟩, sdq1]⟩) (by kernel_rfl) (by kernel_rfl) ?_
  refine EL.seq ?_
  refine EL.sreg ?_
  refine OW.run 39 (x' := ⟨(104, .v (.bool (decide (n < 0)))) :: (103, .v (.bool (decide (n < 0)))) :: (sdq130 n), [(sdq0 s), some ⟨3, [[VI 5, VI n, .v (.string d)]]⟩, sdq1]⟩) (by kernel_rfl) ?_
  rcases Bool.eq_false_or_eq_true (decide (n < 0)) with h6 | h6
  rw [h6]
  have g6 : (n < 0) := of_decide_eq_true h6
  refine OW.last 9 [2, 3, 4, 7, 8, 113] (x' := ⟨(113, .v (.bool true)) :: sdq129, [(sdq0 s), some ⟨3, [[VI 5, VI n, .v (.string d)]]⟩, sdq1]⟩) (by kernel_rfl) (by kernel_rfl) ?_
  refine EL.condT (by kernel_rfl) ?_
  refine EL.sreg ?_
  refine OW.last 3 [4, 5] (x' := ⟨[(5, VI 3), (4, .ref 2 8 0 0)], [(sdq0 s), some ⟨3, [[VI 5, VI n, .v (.string d)]]⟩, sdq1]⟩) (by kernel_rfl) (by kernel_rfl) ?_
  refine EL.ret ?_
  refine thenL_ret ?_
  refine ⟨.inr rfl, .tup [.agg [.emp, .emp, .emp, VI 0, VI 0, VI 0, .emp, .emp], VI 3], by kernel_rfl, Ale.trans (b := .tup [.agg [.lst 1 [], .lst 1 [], .lst 2 [], VI 0, VI 0, VI 0, .lst 1 [], .lst 1 []], VI 3]) (Ale.tup (.cons (Ale.agg (.cons (Ale.emp) (.cons (Ale.emp) (.cons (Ale.emp) (.cons (Ale.refl) (.cons (Ale.refl) (.cons (Ale.refl) (.cons (Ale.emp) (.cons (Ale.emp) (.nil)))))))))) (.cons (Ale.refl) (.nil)))) (Ale.of_eq ?_)⟩
  focus ((first | (exfalso; omega) | (clear ee tt bb; (try simp only [← List.eraseIdx_eq_take_drop_succ]); rw [Ship.step_5]; (try simp only [ba_empty]); (try split) <;> first | rfl | contradiction | (exfalso; omega) | (exfalso; simp_all; done) | (simp only [Ship.hearP, wi_iff]; (repeat' split) <;> first | rfl | (exfalso; omega) | (simp; done) | (simp; omega) | (simp_all; done) | (simp_all; omega)))))
  rw [h6]
  have g6 : ¬ (n < 0) := of_decide_eq_false h6
  refine OW.run 4 (x' := ⟨(sdq131 s n), [(sdq0 s), some ⟨3, [[VI 5, VI n, .v (.string d)]]⟩, sdq1]⟩) (by kernel_rfl) ?_
  refine OW.ope (v := VI (List.length s.back : Int)) (u := []) (acc := []) (x' := ⟨(109, VI (List.length s.back : Int)) :: (sdq131 s n), [(sdq0 s), some ⟨3, [[VI 5, VI n, .v (.string d)]]⟩, sdq1]⟩) (by kernel_rfl) (opE_len cI s.back (.s 108) 1 (by kernel_rfl) (by kernel_rfl) (.inl rfl)) (by kernel_rfl) ?_
  refine OW.last 4 [2, 3, 4, 7, 8, 113] (x' := ⟨(113, .v (.bool (decide (n ≥ (List.length s.back : Int))))) :: sdq129, [(sdq0 s), some ⟨3, [[VI 5, VI n, .v (.string d)]]⟩, sdq1]⟩) (by kernel_rfl) (by kernel_rfl) ?_
  rcases Bool.eq_false_or_eq_true (decide (n ≥ (List.length s.back : Int))) with h7 | h7
  rw [h7]
  have g7 : (n ≥ (List.length s.back : Int)) := of_decide_eq_true h7
  refine EL.condT (by kernel_rfl) ?_
  refine EL.sreg ?_
  refine OW.last 3 [4, 5] (x' := ⟨[(5, VI 3), (4, .ref 2 8 0 0)], [(sdq0 s), some ⟨3, [[VI 5, VI n, .v (.string d)]]⟩, sdq1]⟩) (by kernel_rfl) (by kernel_rfl) ?_
  refine EL.ret ?_
  refine thenL_ret ?_
  refine ⟨.inr rfl, .tup [.agg [.emp, .emp, .emp, VI 0, VI 0, VI 0, .emp, .emp], VI 3], by kernel_rfl, Ale.trans (b := .tup [.agg [.lst 1 [], .lst 1 [], .lst 2 [], VI 0, VI 0, VI 0, .lst 1 [], .lst 1 []], VI 3]) (Ale.tup (.cons (Ale.agg (.cons (Ale.emp) (.cons (Ale.emp) (.cons (Ale.emp) (.cons (Ale.refl) (.cons (Ale.refl) (.cons (Ale.refl) (.cons (Ale.emp) (.cons (Ale.emp) (.nil)))))))))) (.cons (Ale.refl) (.nil)))) (Ale.of_eq ?_)⟩
  focus ((first | (exfalso; omega) | (clear ee tt bb; (try simp only [← List.eraseIdx_eq_take_drop_succ]); rw [Ship.step_5]; (try simp only [ba_empty]); (try split) <;> first | rfl | contradiction | (exfalso; omega) | (exfalso; simp_all; done) | (simp only [Ship.hearP, wi_iff]; (repeat' split) <;> first | rfl | (exfalso; omega) | (simp; done) | (simp; omega) | (simp_all; done) | (simp_all; omega)))))
  rw [h7]
  have g7 : ¬ (n ≥ (List.length s.back : Int)) := of_decide_eq_false h7
  refine EL.condF (by kernel_rfl) ?_
  refine EL.skip ?_
  refine thenL_norm ?_
  refine EL.seq ?_
  refine EL.sreg ?_
  refine OW.last 11 [2, 3, 4, 7, 8, 125] (x' := ⟨(125, .v (.bool false)) :: sdq129, [(sdq0 s), some ⟨3, [[VI 5, VI n, .v (.string d)]]⟩, sdq1]⟩) (by kernel_rfl) (by kernel_rfl) ?_
  refine EL.condF (by kernel_rfl) ?_
  refine EL.skip ?_
  refine thenL_norm ?_
  refine EL.seq ?_
  refine EL.sreg ?_
  refine OW.last 37 [2, 3, 4, 7, 8, 163] (x' := ⟨(163, .v (.bool false)) :: sdq129, [(sdq0 s), some ⟨3, [[VI 5, VI n, .v (.string d)]]⟩, sdq1]⟩) (by kernel_rfl) (by kernel_rfl) ?_
  refine EL.condF (by kernel_rfl) ?_
  refine EL.skip ?_
  refine thenL_norm ?_
  refine EL.seq ?_
  refine EL.sreg ?_
  refine OW.last 3 [2, 3, 4, 7, 8, 167] (x' := ⟨(167, .v (.bool false)) :: sdq129, [(sdq0 s), some ⟨3, [[VI 5, VI n, .v (.string d)]]⟩, sdq1]⟩) (by kernel_rfl) (by kernel_rfl) ?_
  refine EL.condF (by kernel_rfl) ?_
  refine EL.skip ?_
  refine thenL_norm ?_
  refine EL.seq ?_
  refine EL.sreg ?_
  refine OW.last 3 [2, 3, 4, 7, 8, 190] (x' := ⟨(190, .v (.bool false)) :: sdq129, [(sdq0 s), some ⟨3, [[VI 5, VI n, .v (.string d)]]⟩, sdq1]⟩) (by kernel_rfl) (by kernel_rfl) ?_
  refine EL.condF (by kernel_rfl) ?_
  refine EL.skip ?_
  refine thenL_norm ?_
  refine EL.seq ?_
  refine EL.sreg ?_
  refine OW.last 3 [2, 3, 4, 7, 8, 206] (x' := ⟨(206, .v (.bool false)) :: sdq129, [(sdq0 s), some ⟨3, [[VI 5, VI n, .v (.string d)]]⟩, sdq1]⟩) (by kernel_rfl) (by kernel_rfl) ?_
  refine EL.condF (by kernel_rfl) ?_
  refine EL.skip ?_
  refine thenL_norm ?_
  refine EL.seq ?_
  refine EL.sreg ?_
  refine OW.last 1 [2, 3, 4, 8, 244] (x' := ⟨sdq132, [(sdq0 s), some ⟨3, [[VI 5, VI n, .v (.string d)]]⟩, sdq1]⟩) (by kernel_rfl) (by kernel_rfl) ?_
  refine EL.condF (by kernel_rfl) ?_
  refine EL.skip ?_
  refine thenL_norm ?_
  refine EL.seq ?_
  refine EL.sdraw ?_
  refine DW.run 8 (x' := ⟨(sdq133 n s), [(sdq0 s), some ⟨3, [[VI 5, VI n, .v (.string d)]]⟩, sdq1]⟩) (by kernel_rfl) ?_
  obtain ⟨a9, ha9⟩ : ∃ y, s.back[(n : Int).toNat]? = some y := idx_ex ⟨by omega, by omega⟩
  have ma9 := bb _ (List.mem_of_getElem? ha9)
  refine DW.ope (v := .pim [VI a9] 0) (u := []) (acc := []) (x' := ⟨(259, .pim [VI a9] 0) :: (sdq133 n s), [(sdq0 s), some ⟨3, [[VI 5, VI n, .v (.string d)]]⟩, sdq1]⟩) (by kernel_rfl) (opE_iad cI s.back (.s 256) (.s 258) 1 .i64 n a9 (by kernel_rfl) (by kernel_rfl) (.inl rfl) rfl (by omega) ha9) (by kernel_rfl) ?_
  refine DW.last 5 [2, 3, 4, 8, 264] (x' := ⟨(264, .v (.bool (decide (a9 > s.known)))) :: (8, .v (.bool true)) :: sdq32, [(sdq0 s), some ⟨3, [[VI 5, VI n, .v (.string d)]]⟩, sdq1]⟩) (by kernel_rfl) (by kernel_rfl) ?_
  rcases Bool.eq_false_or_eq_true (decide (a9 > s.known)) with h10 | h10
  rw [h10]
  have g10 : (a9 > s.known) := of_decide_eq_true h10
  refine EL.condT (by kernel_rfl) ?_
  refine EL.sreg ?_
  refine OW.run 4 (x' := ⟨(sdq134 n s), [(sdq0 s), some ⟨3, [[VI 5, VI n, .v (.string d)]]⟩, sdq1]⟩) (by kernel_rfl) ?_
  refine OW.ope (v := .pim [VI a9] 0) (u := []) (acc := []) (x' := ⟨(269, .pim [VI a9] 0) :: (sdq134 n s), [(sdq0 s), some ⟨3, [[VI 5, VI n, .v (.string d)]]⟩, sdq1]⟩) (by kernel_rfl) (opE_iad cI s.back (.s 266) (.s 268) 1 .i64 n a9 (by kernel_rfl) (by kernel_rfl) (.inl rfl) rfl (by omega) ha9) (by kernel_rfl) ?_
  refine OW.last 3 [2, 3, 4, 8] (x' := ⟨(8, .v (.bool true)) :: sdq32, (sdq136 s a9 n d)⟩) (by kernel_rfl) (by kernel_rfl) ?_
  refine EL.sreg ?_
  refine OW.last 5 [2, 3, 4, 8, 276] (x' := ⟨(276, .v (.bool (decide (s.sent < a9)))) :: (8, .v (.bool true)) :: sdq32, (sdq136 s a9 n d)⟩) (by kernel_rfl) (by kernel_rfl) ?_
  rcases Bool.eq_false_or_eq_true (decide (s.sent < a9)) with h11 | h11
  rw [h11]
  have g11 : (s.sent < a9) := of_decide_eq_true h11
  refine EL.condT (by kernel_rfl) ?_
  refine EL.reg0 ?_
  refine OW.end 4 (x' := ⟨(sdq139 a9), (sdq138 s a9 n d)⟩) (by kernel_rfl) (by kernel_rfl) ?_
  refine thenL_norm ?_
  refine EL.seq ?_
  refine EL.sreg ?_
  refine OW.last 1 [2, 3, 4, 280] (x' := ⟨(280, .v (.bool true)) :: sdq32, (sdq138 s a9 n d)⟩) (by kernel_rfl) (by kernel_rfl) ?_
  refine EL.condT (by kernel_rfl) ?_
  refine EL.reg0 ?_
  refine OW.run 4 (x' := ⟨(sdq140 n s), (sdq138 s a9 n d)⟩) (by kernel_rfl) ?_
  refine OW.fn (ar := [.lst 1 (s.back.map cI), VI n]) (x' := ⟨(sdq141 s n), (sdq138 s a9 n d)⟩) (by kernel_rfl) (by kernel_rfl) F34_call (without_fn s.back n (by omega) (by omega)) (by kernel_rfl) (by kernel_rfl) ?_
  refine OW.end 2 (x' := ⟨(286, .ref 0 8 0 7) :: (sdq141 s n), (sdq143 s a9 n d)⟩) (by kernel_rfl) (by kernel_rfl) ?_
  refine thenL_norm ?_
  refine EL.seq ?_
  refine EL.sreg ?_
  refine OW.last 3 [2, 3, 4, 289] (x' := ⟨(289, .v (.bool false)) :: sdq32, (sdq143 s a9 n d)⟩) (by kernel_rfl) (by kernel_rfl) ?_
  refine EL.condF (by kernel_rfl) ?_
  refine EL.skip ?_
  refine thenL_norm ?_
  refine EL.seq ?_
  refine EL.sreg ?_
  refine OW.last 3 [2, 4, 295] (x' := ⟨sdq53, (sdq143 s a9 n d)⟩) (by kernel_rfl) (by kernel_rfl) ?_
  refine EL.condF (by kernel_rfl) ?_
  refine EL.skip ?_
  refine thenL_norm ?_
  refine EL.sreg ?_
  refine OW.last 3 [4, 5] (x' := ⟨[(5, VI 0), (4, .ref 2 8 0 0)], (sdq144 s a9 n d)⟩) (by kernel_rfl) (by kernel_rfl) ?_
  refine EL.ret ?_
  refine ⟨.inr rfl, .tup [.agg [.lst 1 (s.first.map cZ), .lst 1 (s.second.map cZ), .lst 2 (s.log.map Record.cs), VI a9, VI s.applied, VI a9, .lst 1 (s.there.map cI), .lst 1 ((s.back.take n.toNat ++ s.back.drop (n.toNat + 1)).map cI)], VI 0], by kernel_rfl, Ale.of_eq ?_⟩
  focus ((first | (exfalso; omega) | (clear ee tt bb; (try simp only [← List.eraseIdx_eq_take_drop_succ]); rw [Ship.step_5]; (try simp only [ba_empty]); (try split) <;> first | rfl | contradiction | (exfalso; omega) | (exfalso; simp_all; done) | (simp only [Ship.hearP, wi_iff]; (repeat' split) <;> first | rfl | (exfalso; omega) | (simp; done) | (simp; omega) | (simp_all; done) | (simp_all; omega)))))
  rw [h11]
  have g11 : ¬ (s.sent < a9) := of_decide_eq_false h11
  refine EL.condF (by kernel_rfl) ?_
  refine EL.skip ?_
  refine thenL_norm ?_
  refine EL.seq ?_
  refine EL.sreg ?_
  refine OW.last 1 [2, 3, 4, 280] (x' := ⟨(280, .v (.bool true)) :: sdq32, (sdq136 s a9 n d)⟩) (by kernel_rfl) (by kernel_rfl) ?_
  refine EL.condT (by kernel_rfl) ?_
  refine EL.reg0 ?_
  refine OW.run 4 (x' := ⟨(sdq140 n s), (sdq136 s a9 n d)⟩) (by kernel_rfl) ?_
  refine OW.fn (ar := [.lst 1 (s.back.map cI), VI n]) (x' := ⟨(sdq141 s n), (sdq136 s a9 n d)⟩) (by kernel_rfl) (by kernel_rfl) F34_call (without_fn s.back n (by omega) (by omega)) (by kernel_rfl) (by kernel_rfl) ?_
  refine OW.end 2 (x' := ⟨(286, .ref 0 8 0 7) :: (sdq141 s n), (sdq146 s a9 n d)⟩) (by kernel_rfl) (by kernel_rfl) ?_
  refine thenL_norm ?_
  refine EL.seq ?_
  refine EL.sreg ?_
  refine OW.last 3 [2, 3, 4, 289] (x' := ⟨(289, .v (.bool false)) :: sdq32, (sdq146 s a9 n d)⟩) (by kernel_rfl) (by kernel_rfl) ?_
  refine EL.condF (by kernel_rfl) ?_
  refine EL.skip ?_
  refine thenL_norm ?_
  refine EL.seq ?_
  refine EL.sreg ?_
  refine OW.last 3 [2, 4, 295] (x' := ⟨sdq53, (sdq146 s a9 n d)⟩) (by kernel_rfl) (by kernel_rfl) ?_
  refine EL.condF (by kernel_rfl) ?_
  refine EL.skip ?_
  refine thenL_norm ?_
  refine EL.sreg ?_
  refine OW.last 3 [4, 5] (x' := ⟨[(5, VI 0), (4, .ref 2 8 0 0)], (sdq147 s a9 n d)⟩) (by kernel_rfl) (by kernel_rfl) ?_
  refine EL.ret ?_
  refine ⟨.inr rfl, .tup [.agg [.lst 1 (s.first.map cZ), .lst 1 (s.second.map cZ), .lst 2 (s.log.map Record.cs), VI s.sent, VI s.applied, VI a9, .lst 1 (s.there.map cI), .lst 1 ((s.back.take n.toNat ++ s.back.drop (n.toNat + 1)).map cI)], VI 0], by kernel_rfl, Ale.of_eq ?_⟩
  focus ((first | (exfalso; omega) | (clear ee tt bb; (try simp only [← List.eraseIdx_eq_take_drop_succ]); rw [Ship.step_5]; (try simp only [ba_empty]); (try split) <;> first | rfl | contradiction | (exfalso; omega) | (exfalso; simp_all; done) | (simp only [Ship.hearP, wi_iff]; (repeat' split) <;> first | rfl | (exfalso; omega) | (simp; done) | (simp; omega) | (simp_all; done) | (simp_all; omega)))))
  rw [h10]
  have g10 : ¬ (a9 > s.known) := of_decide_eq_false h10
  refine EL.condF (by kernel_rfl) ?_
  refine EL.skip ?_
  refine thenL_norm ?_
  refine EL.seq ?_
  refine EL.sreg ?_
  refine OW.last 1 [2, 3, 4, 280] (x' := ⟨(280, .v (.bool true)) :: sdq32, [(sdq0 s), some ⟨3, [[VI 5, VI n, .v (.string d)]]⟩, sdq1]⟩) (by kernel_rfl) (by kernel_rfl) ?_
  refine EL.condT (by kernel_rfl) ?_
  refine EL.reg0 ?_
  refine OW.run 4 (x' := ⟨(sdq140 n s), [(sdq0 s), some ⟨3, [[VI 5, VI n, .v (.string d)]]⟩, sdq1]⟩) (by kernel_rfl) ?_
  refine OW.fn (ar := [.lst 1 (s.back.map cI), VI n]) (x' := ⟨(sdq141 s n), [(sdq0 s), some ⟨3, [[VI 5, VI n, .v (.string d)]]⟩, sdq1]⟩) (by kernel_rfl) (by kernel_rfl) F34_call (without_fn s.back n (by omega) (by omega)) (by kernel_rfl) (by kernel_rfl) ?_
  refine OW.end 2 (x' := ⟨(286, .ref 0 8 0 7) :: (sdq141 s n), (sdq149 s n d)⟩) (by kernel_rfl) (by kernel_rfl) ?_
  refine thenL_norm ?_
  refine EL.seq ?_
  refine EL.sreg ?_
  refine OW.last 3 [2, 3, 4, 289] (x' := ⟨(289, .v (.bool false)) :: sdq32, (sdq149 s n d)⟩) (by kernel_rfl) (by kernel_rfl) ?_
  refine EL.condF (by kernel_rfl) ?_
  refine EL.skip ?_
  refine thenL_norm ?_
  refine EL.seq ?_
  refine EL.sreg ?_
  refine OW.last 3 [2, 4, 295] (x' := ⟨sdq53, (sdq149 s n d)⟩) (by kernel_rfl) (by kernel_rfl) ?_
  refine EL.condF (by kernel_rfl) ?_
  refine EL.skip ?_
  refine thenL_norm ?_
  refine EL.sreg ?_
  refine OW.last 3 [4, 5] (x' := ⟨[(5, VI 0), (4, .ref 2 8 0 0)], (sdq150 s n d)⟩) (by kernel_rfl) (by kernel_rfl) ?_
  refine EL.ret ?_
  refine ⟨.inr rfl, .tup [.agg [.lst 1 (s.first.map cZ), .lst 1 (s.second.map cZ), .lst 2 (s.log.map Record.cs), VI s.sent, VI s.applied, VI s.known, .lst 1 (s.there.map cI), .lst 1 ((s.back.take n.toNat ++ s.back.drop (n.toNat + 1)).map cI)], VI 0], by kernel_rfl, Ale.of_eq ?_⟩
  focus ((first | (exfalso; omega) | (clear ee tt bb; (try simp only [← List.eraseIdx_eq_take_drop_succ]); rw [Ship.step_5]; (try simp only [ba_empty]); (try split) <;> first | rfl | contradiction | (exfalso; omega) | (exfalso; simp_all; done) | (simp only [Ship.hearP, wi_iff]; (repeat' split) <;> first | rfl | (exfalso; omega) | (simp; done) | (simp; omega) | (simp_all; done) | (simp_all; omega)))))
abbrev sdq151 (d : ByteArray) : LS := (31, VI (ByteArray.size d : Int)) :: (30, .v (.string d)) :: (29, .ref 1 3 0 2) :: (28, .v (.bool true)) :: (27, .v (.bool true)) :: (26, VI 6) :: (25, .ref 1 3 0 0) :: (23, .v (.bool false)) :: sdq30
abbrev sdq152 (n : Int) (d : ByteArray) : LS := (36, VI n) :: (35, .ref 1 3 0 1) :: (34, .v (.bool false)) :: (33, .v (.bool false)) :: (32, .v (.bool false)) :: (sdq151 d)
abbrev sdq153 (n : Int) : LS := (102, VI n) :: (101, .ref 1 3 0 1) :: (100, .v (.bool true)) :: (99, .v (.bool true)) :: (98, .v (.bool false)) :: (97, .v (.bool false)) :: (96, .v (.bool false)) :: (95, .v undef) :: (94, .v undef) :: (93, .v undef) :: (92, .v undef) :: (91, .v undef) :: (90, .v undef) :: (89, .v undef) :: (88, .v undef) :: (87, .v undef) :: (86, .v undef) :: (85, .v undef) :: (84, .v (.bool false)) :: (83, .v (.bool false)) :: (82, .v (.bool false)) :: (81, .v (.bool false)) :: (80, .v undef) :: (79, .v undef) :: (78, .v undef) :: (77, .v undef) :: (76, .v undef) :: (75, .v undef) :: (74, .v undef) :: (73, .v undef) :: (72, .v undef) :: (71, .v undef) :: (70, .v undef) :: (69, .v (.bool false)) :: (68, .v (.bool false)) :: (67, VI 6) :: (66, .ref 1 3 0 0) :: sdq129
abbrev sdq154 (s : Ship) (n : Int) : LS := (108, .lst 1 (s.back.map cI)) :: (107, .ref 0 8 0 7) :: (106, VI n) :: (105, .ref 1 3 0 1) :: (104, .v (.bool false)) :: (103, .v (.bool false)) :: (sdq153 n)
abbrev sdq155 : LS := (264, .v (.bool false)) :: (8, .v (.bool true)) :: sdq32
abbrev sdq156 (s : Ship) (n : Int) (d : ByteArray) : LB := [(sdq148 s n), some ⟨3, [[VI 6, VI n, .v (.string d)]]⟩, sdq1]
abbrev sdq157 (s : Ship) (n : Int) (d : ByteArray) : LB := [(sdq148 s n), some ⟨3, [[VI 6, VI n, .v (.string d)]]⟩, (sdq148 s n)]
theorem rdo6_fn (s : Ship) (n : Int) (d : ByteArray) (ok : s.Ok) : Fn Try.prog 14 [.agg [.lst 1 (s.first.map cZ), .lst 1 (s.second.map cZ), .lst 2 (s.log.map Record.cs), VI s.sent, VI s.applied, VI s.known, .lst 1 (s.there.map cI), .lst 1 (s.back.map cI)], .agg [VI 6, VI n, .v (.string d)]] (.tup [.agg [.lst 1 ((((s.stepP ⟨6, n, d⟩).1).first).map cZ), .lst 1 ((((s.stepP ⟨6, n, d⟩).1).second).map cZ), .lst 2 ((((s.stepP ⟨6, n, d⟩).1).log).map Record.cs), VI (((s.stepP ⟨6, n, d⟩).1).sent), VI (((s.stepP ⟨6, n, d⟩).1).applied), VI (((s.stepP ⟨6, n, d⟩).1).known), .lst 1 ((((s.stepP ⟨6, n, d⟩).1).there).map cI), .lst 1 ((((s.stepP ⟨6, n, d⟩).1).back).map cI)], VI ((s.stepP ⟨6, n, d⟩).2)]) := by
  have hx : s.first.length ≤ 9223372036854775807 ∧ s.second.length ≤ 9223372036854775807 ∧ s.log.length ≤ 9223372036854775807 ∧ s.there.length ≤ 9223372036854775807 ∧ s.back.length ≤ 9223372036854775807 := by have hh := ok.small; omega
  have hc0 := Ship.checkE_0.2 ok
  have hc : (s.checkE != 0) = false := by rw [hc0]; rfl
  obtain ⟨⟨a1, a2⟩, b1, c1, c2, ⟨d1, d2, d3⟩, ee, ⟨k1, k2, k3, k4, k5⟩, tt, bb⟩ := ok
  refine fn_walkW F14_ok (of_decide_eq_true (by kernel_rfl)) ?_
  refine EL.sreg ?_
  refine OW.last 4 [2, 3, 4] (x' := ⟨sdq30, [(sdq0 s), some ⟨3, [[VI 6, VI n, .v (.string d)]]⟩, sdq1]⟩) (by kernel_rfl) (by kernel_rfl) ?_
  refine EL.sreg ?_
  refine OW.run 1 (x' := ⟨(10, (sdq3 s)) :: sdq30, [(sdq0 s), some ⟨3, [[VI 6, VI n, .v (.string d)]]⟩, sdq1]⟩) (by kernel_rfl) ?_
  refine OW.fn (ar := [(sdq3 s)]) (x' := ⟨(11, VI s.checkE) :: (10, (sdq3 s)) :: sdq30, [(sdq0 s), some ⟨3, [[VI 6, VI n, .v (.string d)]]⟩, sdq1]⟩) (by kernel_rfl) (by kernel_rfl) F18_call (rcheck_fn s hx) (by kernel_rfl) (by kernel_rfl) ?_
  refine OW.last 1 [2, 3, 4, 6] (x' := ⟨(6, VI s.checkE) :: sdq30, [(sdq0 s), some ⟨3, [[VI 6, VI n, .v (.string d)]]⟩, sdq1]⟩) (by kernel_rfl) (by kernel_rfl) ?_
  refine EL.seq ?_
  refine EL.sreg ?_
  refine OW.last 2 [2, 3, 4, 6, 13] (x' := ⟨(13, .v (.bool (s.checkE != 0))) :: (6, VI s.checkE) :: sdq30, [(sdq0 s), some ⟨3, [[VI 6, VI n, .v (.string d)]]⟩, sdq1]⟩) (by kernel_rfl) (by kernel_rfl) ?_
  rw [hc]
  refine EL.condF (by kernel_rfl) ?_
  refine EL.skip ?_
  refine thenL_norm ?_
  refine EL.seq ?_
  refine EL.sreg ?_
  refine OW.last 8 [2, 3, 4, 23] (x' := ⟨(23, .v (.bool false)) :: sdq30, [(sdq0 s), some ⟨3, [[VI 6, VI n, .v (.string d)]]⟩, sdq1]⟩) (by kernel_rfl) (by kernel_rfl) ?_
  refine EL.condF (by kernel_rfl) ?_
  refine EL.skip ?_
  refine thenL_norm ?_
  refine EL.seqG [2, 3, 4] (fun y => (y = ⟨sdq32, [(sdq0 s), some ⟨3, [[VI 6, VI n, .v (.string d)]]⟩, sdq1]⟩ ∧ decide ((ByteArray.size d : Int) > 0) = false ∧ ((¬ (n = 0)) ∨ ((n = 0))))) ?_ ?_
  intro IHJ1 HJ1
  refine EL.sreg ?_
  refine OW.run 10 (x' := ⟨(34, .v (.bool (decide ((ByteArray.size d : Int) > 0)))) :: (33, .v (.bool (decide ((ByteArray.size d : Int) > 0)))) :: (32, .v (.bool (decide ((ByteArray.size d : Int) > 0)))) :: (sdq151 d), [(sdq0 s), some ⟨3, [[VI 6, VI n, .v (.string d)]]⟩, sdq1]⟩) (by kernel_rfl) ?_
  rcases Bool.eq_false_or_eq_true (decide ((ByteArray.size d : Int) > 0)) with h2 | h2
  rw [h2]
  have g2 : ((ByteArray.size d : Int) > 0) := of_decide_eq_true h2
  have n2 : ((ByteArray.size d) > 0) := by omega
  refine OW.last 14 [2, 3, 4, 48] (x' := ⟨(48, .v (.bool true)) :: sdq30, [(sdq0 s), some ⟨3, [[VI 6, VI n, .v (.string d)]]⟩, sdq1]⟩) (by kernel_rfl) (by kernel_rfl) ?_
  refine EL.condT (by kernel_rfl) ?_
  refine EL.sreg ?_
  refine OW.last 3 [4, 5] (x' := ⟨[(5, VI 1), (4, .ref 2 8 0 0)], [(sdq0 s), some ⟨3, [[VI 6, VI n, .v (.string d)]]⟩, sdq1]⟩) (by kernel_rfl) (by kernel_rfl) ?_
  refine EL.ret ?_
  refine thenL_ret ?_
  refine ⟨.inr rfl, .tup [.agg [.emp, .emp, .emp, VI 0, VI 0, VI 0, .emp, .emp], VI 1], by kernel_rfl, Ale.trans (b := .tup [.agg [.lst 1 [], .lst 1 [], .lst 2 [], VI 0, VI 0, VI 0, .lst 1 [], .lst 1 []], VI 1]) (Ale.tup (.cons (Ale.agg (.cons (Ale.emp) (.cons (Ale.emp) (.cons (Ale.emp) (.cons (Ale.refl) (.cons (Ale.refl) (.cons (Ale.refl) (.cons (Ale.emp) (.cons (Ale.emp) (.nil)))))))))) (.cons (Ale.refl) (.nil)))) (Ale.of_eq ?_)⟩
  focus ((first | (exfalso; omega) | (clear ee tt bb; (try simp only [← List.eraseIdx_eq_take_drop_succ]); rw [Ship.step_6]; (try simp only [ba_empty]); (try split) <;> first | rfl | contradiction | (exfalso; omega) | (exfalso; simp_all; done) | (simp only [Ship.dropP, wi_iff]; (repeat' split) <;> first | rfl | (exfalso; omega) | (simp; done) | (simp; omega) | (simp_all; done) | (simp_all; omega)))))
  rw [h2]
  have g2 : ¬ ((ByteArray.size d : Int) > 0) := of_decide_eq_false h2
  have n2 : ¬ ((ByteArray.size d) > 0) := by omega
  refine OW.run 4 (x' := ⟨(38, .v (.bool (n != 0))) :: (37, .v (.bool (n != 0))) :: (sdq152 n d), [(sdq0 s), some ⟨3, [[VI 6, VI n, .v (.string d)]]⟩, sdq1]⟩) (by kernel_rfl) ?_
  rcases Bool.eq_false_or_eq_true ((n != 0)) with h3 | h3
  rw [h3]
  have g3 : ¬ (n = 0) := by simpa using h3
  refine OW.last 10 [2, 3, 4, 48] (x' := ⟨(48, .v (.bool false)) :: sdq30, [(sdq0 s), some ⟨3, [[VI 6, VI n, .v (.string d)]]⟩, sdq1]⟩) (by kernel_rfl) (by kernel_rfl) ?_
  refine EL.condF (by kernel_rfl) ?_
  refine EL.skip ?_
  exact thenL_norm (HJ1.get ⟨by kernel_rfl, h2, (Or.inl (by first | exact g3 | exact h3 | simp_all | omega))⟩)
  rw [h3]
  have g3 : (n = 0) := by simpa using h3
  refine OW.last 10 [2, 3, 4, 48] (x' := ⟨(48, .v (.bool false)) :: sdq30, [(sdq0 s), some ⟨3, [[VI 6, VI n, .v (.string d)]]⟩, sdq1]⟩) (by kernel_rfl) (by kernel_rfl) ?_
  refine EL.condF (by kernel_rfl) ?_
  refine EL.skip ?_
  exact thenL_norm (HJ1.get ⟨by kernel_rfl, h2, (Or.inr (by first | exact g3 | exact h3 | simp_all | omega))⟩)
  rintro _ (⟨rfl, h4, hD5⟩)
  have g4 : ¬ ((ByteArray.size d : Int) > 0) := of_decide_eq_false h4
  have n4 : ¬ ((ByteArray.size d) > 0) := by omega
  refine EL.sreg ?_
  refine OW.last 9 [2, 3, 4, 7] (x' := ⟨(7, .v (.bool false)) :: sdq32, [(sdq0 s), some ⟨3, [[VI 6, VI n, .v (.string d)]]⟩, sdq1]⟩) (by kernel_rfl) (by kernel_rfl) ?_
  refine EL.sreg ?_
  refine OW.last 9 [2, 3, 4, 7, 8] (x' := ⟨sdq129, [(sdq0 s), some ⟨3, [[VI 6, VI n, .v (.string d)]]⟩, sdq1]⟩) (by kernel_rfl) (by kernel_rfl) ?_
  refine EL.seq ?_
  refine EL.sreg ?_
  refine OW.run 39 (x' := ⟨(104, .v (.bool (decide (n < 0)))) :: (103, .v (.bool (decide (n < 0)))) :: (sdq153 n), [(sdq0 s), some ⟨3, [[VI 6, VI n, .v (.string d)]]⟩, sdq1]⟩) (by kernel_rfl) ?_
  rcases Bool.eq_false_or_eq_true (decide (n < 0)) with h6 | h6
  rw [h6]
  have g6 : (n < 0) := of_decide_eq_true h6
  refine OW.last 9 [2, 3, 4, 7, 8, 113] (x' := ⟨(113, .v (.bool true)) :: sdq129, [(sdq0 s), some ⟨3, [[VI 6, VI n, .v (.string d)]]⟩, sdq1]⟩) (by kernel_rfl) (by kernel_rfl) ?_
  refine EL.condT (by kernel_rfl) ?_
  refine EL.sreg ?_
  refine OW.last 3 [4, 5] (x' := ⟨[(5, VI 3), (4, .ref 2 8 0 0)], [(sdq0 s), some ⟨3, [[VI 6, VI n, .v (.string d)]]⟩, sdq1]⟩) (by kernel_rfl) (by kernel_rfl) ?_
  refine EL.ret ?_
  refine thenL_ret ?_
  refine ⟨.inr rfl, .tup [.agg [.emp, .emp, .emp, VI 0, VI 0, VI 0, .emp, .emp], VI 3], by kernel_rfl, Ale.trans (b := .tup [.agg [.lst 1 [], .lst 1 [], .lst 2 [], VI 0, VI 0, VI 0, .lst 1 [], .lst 1 []], VI 3]) (Ale.tup (.cons (Ale.agg (.cons (Ale.emp) (.cons (Ale.emp) (.cons (Ale.emp) (.cons (Ale.refl) (.cons (Ale.refl) (.cons (Ale.refl) (.cons (Ale.emp) (.cons (Ale.emp) (.nil)))))))))) (.cons (Ale.refl) (.nil)))) (Ale.of_eq ?_)⟩
  focus ((first | (exfalso; omega) | (clear ee tt bb; (try simp only [← List.eraseIdx_eq_take_drop_succ]); rw [Ship.step_6]; (try simp only [ba_empty]); (try split) <;> first | rfl | contradiction | (exfalso; omega) | (exfalso; simp_all; done) | (simp only [Ship.dropP, wi_iff]; (repeat' split) <;> first | rfl | (exfalso; omega) | (simp; done) | (simp; omega) | (simp_all; done) | (simp_all; omega)))))
  rw [h6]
  have g6 : ¬ (n < 0) := of_decide_eq_false h6
  refine OW.run 4 (x' := ⟨(sdq154 s n), [(sdq0 s), some ⟨3, [[VI 6, VI n, .v (.string d)]]⟩, sdq1]⟩) (by kernel_rfl) ?_
  refine OW.ope (v := VI (List.length s.back : Int)) (u := []) (acc := []) (x' := ⟨(109, VI (List.length s.back : Int)) :: (sdq154 s n), [(sdq0 s), some ⟨3, [[VI 6, VI n, .v (.string d)]]⟩, sdq1]⟩) (by kernel_rfl) (opE_len cI s.back (.s 108) 1 (by kernel_rfl) (by kernel_rfl) (.inl rfl)) (by kernel_rfl) ?_
  refine OW.last 4 [2, 3, 4, 7, 8, 113] (x' := ⟨(113, .v (.bool (decide (n ≥ (List.length s.back : Int))))) :: sdq129, [(sdq0 s), some ⟨3, [[VI 6, VI n, .v (.string d)]]⟩, sdq1]⟩) (by kernel_rfl) (by kernel_rfl) ?_
  rcases Bool.eq_false_or_eq_true (decide (n ≥ (List.length s.back : Int))) with h7 | h7
  rw [h7]
  have g7 : (n ≥ (List.length s.back : Int)) := of_decide_eq_true h7
  refine EL.condT (by kernel_rfl) ?_
  refine EL.sreg ?_
  refine OW.last 3 [4, 5] (x' := ⟨[(5, VI 3), (4, .ref 2 8 0 0)], [(sdq0 s), some ⟨3, [[VI 6, VI n, .v (.string d)]]⟩, sdq1]⟩) (by kernel_rfl) (by kernel_rfl) ?_
  refine EL.ret ?_
  refine thenL_ret ?_
  refine ⟨.inr rfl, .tup [.agg [.emp, .emp, .emp, VI 0, VI 0, VI 0, .emp, .emp], VI 3], by kernel_rfl, Ale.trans (b := .tup [.agg [.lst 1 [], .lst 1 [], .lst 2 [], VI 0, VI 0, VI 0, .lst 1 [], .lst 1 []], VI 3]) (Ale.tup (.cons (Ale.agg (.cons (Ale.emp) (.cons (Ale.emp) (.cons (Ale.emp) (.cons (Ale.refl) (.cons (Ale.refl) (.cons (Ale.refl) (.cons (Ale.emp) (.cons (Ale.emp) (.nil)))))))))) (.cons (Ale.refl) (.nil)))) (Ale.of_eq ?_)⟩
  focus ((first | (exfalso; omega) | (clear ee tt bb; (try simp only [← List.eraseIdx_eq_take_drop_succ]); rw [Ship.step_6]; (try simp only [ba_empty]); (try split) <;> first | rfl | contradiction | (exfalso; omega) | (exfalso; simp_all; done) | (simp only [Ship.dropP, wi_iff]; (repeat' split) <;> first | rfl | (exfalso; omega) | (simp; done) | (simp; omega) | (simp_all; done) | (simp_all; omega)))))
  rw [h7]
  have g7 : ¬ (n ≥ (List.length s.back : Int)) := of_decide_eq_false h7
  refine EL.condF (by kernel_rfl) ?_
  refine EL.skip ?_
  refine thenL_norm ?_
  refine EL.seq ?_
  refine EL.sreg ?_
  refine OW.last 11 [2, 3, 4, 7, 8, 125] (x' := ⟨(125, .v (.bool false)) :: sdq129, [(sdq0 s), some ⟨3, [[VI 6, VI n, .v (.string d)]]⟩, sdq1]⟩) (by kernel_rfl) (by kernel_rfl) ?_
  refine EL.condF (by kernel_rfl) ?_
  refine EL.skip ?_
  refine thenL_norm ?_
  refine EL.seq ?_
  refine EL.sreg ?_
  refine OW.last 37 [2, 3, 4, 7, 8, 163] (x' := ⟨(163, .v (.bool false)) :: sdq129, [(sdq0 s), some ⟨3, [[VI 6, VI n, .v (.string d)]]⟩, sdq1]⟩) (by kernel_rfl) (by kernel_rfl) ?_
  refine EL.condF (by kernel_rfl) ?_
  refine EL.skip ?_
  refine thenL_norm ?_
  refine EL.seq ?_
  refine EL.sreg ?_
  refine OW.last 3 [2, 3, 4, 7, 8, 167] (x' := ⟨(167, .v (.bool false)) :: sdq129, [(sdq0 s), some ⟨3, [[VI 6, VI n, .v (.string d)]]⟩, sdq1]⟩) (by kernel_rfl) (by kernel_rfl) ?_
  refine EL.condF (by kernel_rfl) ?_
  refine EL.skip ?_
  refine thenL_norm ?_
  refine EL.seq ?_
  refine EL.sreg ?_
  refine OW.last 3 [2, 3, 4, 7, 8, 190] (x' := ⟨(190, .v (.bool false)) :: sdq129, [(sdq0 s), some ⟨3, [[VI 6, VI n, .v (.string d)]]⟩, sdq1]⟩) (by kernel_rfl) (by kernel_rfl) ?_
  refine EL.condF (by kernel_rfl) ?_
  refine EL.skip ?_
  refine thenL_norm ?_
  refine EL.seq ?_
  refine EL.sreg ?_
  refine OW.last 3 [2, 3, 4, 7, 8, 206] (x' := ⟨(206, .v (.bool false)) :: sdq129, [(sdq0 s), some ⟨3, [[VI 6, VI n, .v (.string d)]]⟩, sdq1]⟩) (by kernel_rfl) (by kernel_rfl) ?_
  refine EL.condF (by kernel_rfl) ?_
  refine EL.skip ?_
  refine thenL_norm ?_
  refine EL.seq ?_
  refine EL.sreg ?_
  refine OW.last 1 [2, 3, 4, 8, 244] (x' := ⟨sdq132, [(sdq0 s), some ⟨3, [[VI 6, VI n, .v (.string d)]]⟩, sdq1]⟩) (by kernel_rfl) (by kernel_rfl) ?_
  refine EL.condF (by kernel_rfl) ?_
  refine EL.skip ?_
  refine thenL_norm ?_
  refine EL.seq ?_
  refine EL.sdraw ?_
  refine DW.last 14 [2, 3, 4, 8, 264] (x' := ⟨sdq155, [(sdq0 s), some ⟨3, [[VI 6, VI n, .v (.string d)]]⟩, sdq1]⟩) (by kernel_rfl) (by kernel_rfl) ?_
  refine EL.condF (by kernel_rfl) ?_
  refine EL.skip ?_
  refine thenL_norm ?_
  refine EL.seq ?_
  refine EL.sreg ?_
  refine OW.last 1 [2, 3, 4, 280] (x' := ⟨(280, .v (.bool true)) :: sdq32, [(sdq0 s), some ⟨3, [[VI 6, VI n, .v (.string d)]]⟩, sdq1]⟩) (by kernel_rfl) (by kernel_rfl) ?_
  refine EL.condT (by kernel_rfl) ?_
  refine EL.reg0 ?_
  refine OW.run 4 (x' := ⟨(sdq140 n s), [(sdq0 s), some ⟨3, [[VI 6, VI n, .v (.string d)]]⟩, sdq1]⟩) (by kernel_rfl) ?_
  refine OW.fn (ar := [.lst 1 (s.back.map cI), VI n]) (x' := ⟨(sdq141 s n), [(sdq0 s), some ⟨3, [[VI 6, VI n, .v (.string d)]]⟩, sdq1]⟩) (by kernel_rfl) (by kernel_rfl) F34_call (without_fn s.back n (by omega) (by omega)) (by kernel_rfl) (by kernel_rfl) ?_
  refine OW.end 2 (x' := ⟨(286, .ref 0 8 0 7) :: (sdq141 s n), (sdq156 s n d)⟩) (by kernel_rfl) (by kernel_rfl) ?_
  refine thenL_norm ?_
  refine EL.seq ?_
  refine EL.sreg ?_
  refine OW.last 3 [2, 3, 4, 289] (x' := ⟨(289, .v (.bool false)) :: sdq32, (sdq156 s n d)⟩) (by kernel_rfl) (by kernel_rfl) ?_
  refine EL.condF (by kernel_rfl) ?_
  refine EL.skip ?_
  refine thenL_norm ?_
  refine EL.seq ?_
  refine EL.sreg ?_
  refine OW.last 3 [2, 4, 295] (x' := ⟨sdq53, (sdq156 s n d)⟩) (by kernel_rfl) (by kernel_rfl) ?_
  refine EL.condF (by kernel_rfl) ?_
  refine EL.skip ?_
  refine thenL_norm ?_
  refine EL.sreg ?_
  refine OW.last 3 [4, 5] (x' := ⟨[(5, VI 0), (4, .ref 2 8 0 0)], (sdq157 s n d)⟩) (by kernel_rfl) (by kernel_rfl) ?_
  refine EL.ret ?_
  refine ⟨.inr rfl, .tup [.agg [.lst 1 (s.first.map cZ), .lst 1 (s.second.map cZ), .lst 2 (s.log.map Record.cs), VI s.sent, VI s.applied, VI s.known, .lst 1 (s.there.map cI), .lst 1 ((s.back.take n.toNat ++ s.back.drop (n.toNat + 1)).map cI)], VI 0], by kernel_rfl, Ale.of_eq ?_⟩
  focus ((first | (exfalso; omega) | (clear ee tt bb; (try simp only [← List.eraseIdx_eq_take_drop_succ]); rw [Ship.step_6]; (try simp only [ba_empty]); (try split) <;> first | rfl | contradiction | (exfalso; omega) | (exfalso; simp_all; done) | (simp only [Ship.dropP, wi_iff]; (repeat' split) <;> first | rfl | (exfalso; omega) | (simp; done) | (simp; omega) | (simp_all; done) | (simp_all; omega)))))
abbrev sdq158 (d : ByteArray) : LS := (31, VI (ByteArray.size d : Int)) :: (30, .v (.string d)) :: (29, .ref 1 3 0 2) :: (28, .v (.bool true)) :: (27, .v (.bool true)) :: (26, VI 7) :: (25, .ref 1 3 0 0) :: (23, .v (.bool false)) :: sdq30
abbrev sdq159 (n : Int) (d : ByteArray) : LS := (36, VI n) :: (35, .ref 1 3 0 1) :: (34, .v (.bool false)) :: (33, .v (.bool false)) :: (32, .v (.bool false)) :: (sdq158 d)
abbrev sdq160 (s : Ship) : OB := some ⟨8, [[.lst 1 (s.first.map cZ), .lst 1 (s.second.map cZ), .lst 2 (s.log.map Record.cs), VI s.known, VI s.applied, VI s.known, .lst 1 (s.there.map cI), .lst 1 (s.back.map cI)]]⟩
abbrev sdq161 (s : Ship) (n : Int) (d : ByteArray) : LB := [(sdq160 s), some ⟨3, [[VI 7, VI n, .v (.string d)]]⟩, sdq1]
abbrev sdq162 (s : Ship) : LS := (292, .ref 0 8 0 3) :: (291, VI s.known) :: (290, .ref 0 8 0 5) :: (289, .v (.bool true)) :: sdq30
abbrev sdq163 (s : Ship) (n : Int) (d : ByteArray) : LB := [(sdq160 s), some ⟨3, [[VI 7, VI n, .v (.string d)]]⟩, (sdq160 s)]
theorem rdo7_fn (s : Ship) (n : Int) (d : ByteArray) (ok : s.Ok) : Fn Try.prog 14 [.agg [.lst 1 (s.first.map cZ), .lst 1 (s.second.map cZ), .lst 2 (s.log.map Record.cs), VI s.sent, VI s.applied, VI s.known, .lst 1 (s.there.map cI), .lst 1 (s.back.map cI)], .agg [VI 7, VI n, .v (.string d)]] (.tup [.agg [.lst 1 ((((s.stepP ⟨7, n, d⟩).1).first).map cZ), .lst 1 ((((s.stepP ⟨7, n, d⟩).1).second).map cZ), .lst 2 ((((s.stepP ⟨7, n, d⟩).1).log).map Record.cs), VI (((s.stepP ⟨7, n, d⟩).1).sent), VI (((s.stepP ⟨7, n, d⟩).1).applied), VI (((s.stepP ⟨7, n, d⟩).1).known), .lst 1 ((((s.stepP ⟨7, n, d⟩).1).there).map cI), .lst 1 ((((s.stepP ⟨7, n, d⟩).1).back).map cI)], VI ((s.stepP ⟨7, n, d⟩).2)]) := by
  have hx : s.first.length ≤ 9223372036854775807 ∧ s.second.length ≤ 9223372036854775807 ∧ s.log.length ≤ 9223372036854775807 ∧ s.there.length ≤ 9223372036854775807 ∧ s.back.length ≤ 9223372036854775807 := by have hh := ok.small; omega
  have hc0 := Ship.checkE_0.2 ok
  have hc : (s.checkE != 0) = false := by rw [hc0]; rfl
  obtain ⟨⟨a1, a2⟩, b1, c1, c2, ⟨d1, d2, d3⟩, ee, ⟨k1, k2, k3, k4, k5⟩, tt, bb⟩ := ok
  refine fn_walkW F14_ok (of_decide_eq_true (by kernel_rfl)) ?_
  refine EL.sreg ?_
  refine OW.last 4 [2, 3, 4] (x' := ⟨sdq30, [(sdq0 s), some ⟨3, [[VI 7, VI n, .v (.string d)]]⟩, sdq1]⟩) (by kernel_rfl) (by kernel_rfl) ?_
  refine EL.sreg ?_
  refine OW.run 1 (x' := ⟨(10, (sdq3 s)) :: sdq30, [(sdq0 s), some ⟨3, [[VI 7, VI n, .v (.string d)]]⟩, sdq1]⟩) (by kernel_rfl) ?_
  refine OW.fn (ar := [(sdq3 s)]) (x' := ⟨(11, VI s.checkE) :: (10, (sdq3 s)) :: sdq30, [(sdq0 s), some ⟨3, [[VI 7, VI n, .v (.string d)]]⟩, sdq1]⟩) (by kernel_rfl) (by kernel_rfl) F18_call (rcheck_fn s hx) (by kernel_rfl) (by kernel_rfl) ?_
  refine OW.last 1 [2, 3, 4, 6] (x' := ⟨(6, VI s.checkE) :: sdq30, [(sdq0 s), some ⟨3, [[VI 7, VI n, .v (.string d)]]⟩, sdq1]⟩) (by kernel_rfl) (by kernel_rfl) ?_
  refine EL.seq ?_
  refine EL.sreg ?_
  refine OW.last 2 [2, 3, 4, 6, 13] (x' := ⟨(13, .v (.bool (s.checkE != 0))) :: (6, VI s.checkE) :: sdq30, [(sdq0 s), some ⟨3, [[VI 7, VI n, .v (.string d)]]⟩, sdq1]⟩) (by kernel_rfl) (by kernel_rfl) ?_
  rw [hc]
  refine EL.condF (by kernel_rfl) ?_
  refine EL.skip ?_
  refine thenL_norm ?_
  refine EL.seq ?_
  refine EL.sreg ?_
  refine OW.last 8 [2, 3, 4, 23] (x' := ⟨(23, .v (.bool false)) :: sdq30, [(sdq0 s), some ⟨3, [[VI 7, VI n, .v (.string d)]]⟩, sdq1]⟩) (by kernel_rfl) (by kernel_rfl) ?_
  refine EL.condF (by kernel_rfl) ?_
  refine EL.skip ?_
  refine thenL_norm ?_
  refine EL.seq ?_
  refine EL.sreg ?_
  refine OW.run 10 (x' := ⟨(34, .v (.bool (decide ((ByteArray.size d : Int) > 0)))) :: (33, .v (.bool (decide ((ByteArray.size d : Int) > 0)))) :: (32, .v (.bool (decide ((ByteArray.size d : Int) > 0)))) :: (sdq158 d), [(sdq0 s), some ⟨3, [[VI 7, VI n, .v (.string d)]]⟩, sdq1]⟩) (by kernel_rfl) ?_
  rcases Bool.eq_false_or_eq_true (decide ((ByteArray.size d : Int) > 0)) with h1 | h1
  rw [h1]
  have g1 : ((ByteArray.size d : Int) > 0) := of_decide_eq_true h1
  have n1 : ((ByteArray.size d) > 0) := by omega
  refine OW.last 14 [2, 3, 4, 48] (x' := ⟨(48, .v (.bool true)) :: sdq30, [(sdq0 s), some ⟨3, [[VI 7, VI n, .v (.string d)]]⟩, sdq1]⟩) (by kernel_rfl) (by kernel_rfl) ?_
  refine EL.condT (by kernel_rfl) ?_
  refine EL.sreg ?_
  refine OW.last 3 [4, 5] (x' := ⟨[(5, VI 1), (4, .ref 2 8 0 0)], [(sdq0 s), some ⟨3, [[VI 7, VI n, .v (.string d)]]⟩, sdq1]⟩) (by kernel_rfl) (by kernel_rfl) ?_
  refine EL.ret ?_
  refine thenL_ret ?_
  refine ⟨.inr rfl, .tup [.agg [.emp, .emp, .emp, VI 0, VI 0, VI 0, .emp, .emp], VI 1], by kernel_rfl, Ale.trans (b := .tup [.agg [.lst 1 [], .lst 1 [], .lst 2 [], VI 0, VI 0, VI 0, .lst 1 [], .lst 1 []], VI 1]) (Ale.tup (.cons (Ale.agg (.cons (Ale.emp) (.cons (Ale.emp) (.cons (Ale.emp) (.cons (Ale.refl) (.cons (Ale.refl) (.cons (Ale.refl) (.cons (Ale.emp) (.cons (Ale.emp) (.nil)))))))))) (.cons (Ale.refl) (.nil)))) (Ale.of_eq ?_)⟩
  focus ((first | (exfalso; omega) | (clear ee tt bb; (try simp only [← List.eraseIdx_eq_take_drop_succ]); rw [Ship.step_7]; (try simp only [ba_empty]); (try split) <;> first | rfl | contradiction | (exfalso; omega) | (exfalso; simp_all; done) | (simp only [Ship.zero, wi_iff]; (repeat' split) <;> first | rfl | (exfalso; omega) | (simp; done) | (simp; omega) | (simp_all; done) | (simp_all; omega)))))
  rw [h1]
  have g1 : ¬ ((ByteArray.size d : Int) > 0) := of_decide_eq_false h1
  have n1 : ¬ ((ByteArray.size d) > 0) := by omega
  refine OW.run 4 (x' := ⟨(38, .v (.bool (n != 0))) :: (37, .v (.bool (n != 0))) :: (sdq159 n d), [(sdq0 s), some ⟨3, [[VI 7, VI n, .v (.string d)]]⟩, sdq1]⟩) (by kernel_rfl) ?_
  rcases Bool.eq_false_or_eq_true ((n != 0)) with h2 | h2
  rw [h2]
  have g2 : ¬ (n = 0) := by simpa using h2
  refine OW.last 10 [2, 3, 4, 48] (x' := ⟨(48, .v (.bool true)) :: sdq30, [(sdq0 s), some ⟨3, [[VI 7, VI n, .v (.string d)]]⟩, sdq1]⟩) (by kernel_rfl) (by kernel_rfl) ?_
  refine EL.condT (by kernel_rfl) ?_
  refine EL.sreg ?_
  refine OW.last 3 [4, 5] (x' := ⟨[(5, VI 1), (4, .ref 2 8 0 0)], [(sdq0 s), some ⟨3, [[VI 7, VI n, .v (.string d)]]⟩, sdq1]⟩) (by kernel_rfl) (by kernel_rfl) ?_
  refine EL.ret ?_
  refine thenL_ret ?_
  refine ⟨.inr rfl, .tup [.agg [.emp, .emp, .emp, VI 0, VI 0, VI 0, .emp, .emp], VI 1], by kernel_rfl, Ale.trans (b := .tup [.agg [.lst 1 [], .lst 1 [], .lst 2 [], VI 0, VI 0, VI 0, .lst 1 [], .lst 1 []], VI 1]) (Ale.tup (.cons (Ale.agg (.cons (Ale.emp) (.cons (Ale.emp) (.cons (Ale.emp) (.cons (Ale.refl) (.cons (Ale.refl) (.cons (Ale.refl) (.cons (Ale.emp) (.cons (Ale.emp) (.nil)))))))))) (.cons (Ale.refl) (.nil)))) (Ale.of_eq ?_)⟩
  focus ((first | (exfalso; omega) | (clear ee tt bb; (try simp only [← List.eraseIdx_eq_take_drop_succ]); rw [Ship.step_7]; (try simp only [ba_empty]); (try split) <;> first | rfl | contradiction | (exfalso; omega) | (exfalso; simp_all; done) | (simp only [Ship.zero, wi_iff]; (repeat' split) <;> first | rfl | (exfalso; omega) | (simp; done) | (simp; omega) | (simp_all; done) | (simp_all; omega)))))
  rw [h2]
  have g2 : (n = 0) := by simpa using h2
  refine OW.last 10 [2, 3, 4, 48] (x' := ⟨(48, .v (.bool false)) :: sdq30, [(sdq0 s), some ⟨3, [[VI 7, VI n, .v (.string d)]]⟩, sdq1]⟩) (by kernel_rfl) (by kernel_rfl) ?_
  refine EL.condF (by kernel_rfl) ?_
  refine EL.skip ?_
  refine thenL_norm ?_
  refine EL.sreg ?_
  refine OW.last 9 [2, 3, 4, 7] (x' := ⟨(7, .v (.bool false)) :: sdq30, [(sdq0 s), some ⟨3, [[VI 7, VI n, .v (.string d)]]⟩, sdq1]⟩) (by kernel_rfl) (by kernel_rfl) ?_
  refine EL.sreg ?_
  refine OW.last 9 [2, 3, 4, 7, 8] (x' := ⟨sdq57, [(sdq0 s), some ⟨3, [[VI 7, VI n, .v (.string d)]]⟩, sdq1]⟩) (by kernel_rfl) (by kernel_rfl) ?_
  refine EL.seq ?_
  refine EL.sreg ?_
  refine OW.last 48 [2, 3, 4, 7, 8, 113] (x' := ⟨(113, .v (.bool false)) :: sdq57, [(sdq0 s), some ⟨3, [[VI 7, VI n, .v (.string d)]]⟩, sdq1]⟩) (by kernel_rfl) (by kernel_rfl) ?_
  refine EL.condF (by kernel_rfl) ?_
  refine EL.skip ?_
  refine thenL_norm ?_
  refine EL.seq ?_
  refine EL.sreg ?_
  refine OW.last 11 [2, 3, 4, 7, 8, 125] (x' := ⟨(125, .v (.bool false)) :: sdq57, [(sdq0 s), some ⟨3, [[VI 7, VI n, .v (.string d)]]⟩, sdq1]⟩) (by kernel_rfl) (by kernel_rfl) ?_
  refine EL.condF (by kernel_rfl) ?_
  refine EL.skip ?_
  refine thenL_norm ?_
  refine EL.seq ?_
  refine EL.sreg ?_
  refine OW.last 37 [2, 3, 4, 7, 8, 163] (x' := ⟨(163, .v (.bool false)) :: sdq57, [(sdq0 s), some ⟨3, [[VI 7, VI n, .v (.string d)]]⟩, sdq1]⟩) (by kernel_rfl) (by kernel_rfl) ?_
  refine EL.condF (by kernel_rfl) ?_
  refine EL.skip ?_
  refine thenL_norm ?_
  refine EL.seq ?_
  refine EL.sreg ?_
  refine OW.last 3 [2, 3, 4, 7, 8, 167] (x' := ⟨(167, .v (.bool false)) :: sdq57, [(sdq0 s), some ⟨3, [[VI 7, VI n, .v (.string d)]]⟩, sdq1]⟩) (by kernel_rfl) (by kernel_rfl) ?_
  refine EL.condF (by kernel_rfl) ?_
  refine EL.skip ?_
  refine thenL_norm ?_
  refine EL.seq ?_
  refine EL.sreg ?_
  refine OW.last 3 [2, 3, 4, 7, 8, 190] (x' := ⟨(190, .v (.bool false)) :: sdq57, [(sdq0 s), some ⟨3, [[VI 7, VI n, .v (.string d)]]⟩, sdq1]⟩) (by kernel_rfl) (by kernel_rfl) ?_
  refine EL.condF (by kernel_rfl) ?_
  refine EL.skip ?_
  refine thenL_norm ?_
  refine EL.seq ?_
  refine EL.sreg ?_
  refine OW.last 3 [2, 3, 4, 7, 8, 206] (x' := ⟨(206, .v (.bool false)) :: sdq57, [(sdq0 s), some ⟨3, [[VI 7, VI n, .v (.string d)]]⟩, sdq1]⟩) (by kernel_rfl) (by kernel_rfl) ?_
  refine EL.condF (by kernel_rfl) ?_
  refine EL.skip ?_
  refine thenL_norm ?_
  refine EL.seq ?_
  refine EL.sreg ?_
  refine OW.last 1 [2, 3, 4, 8, 244] (x' := ⟨sdq71, [(sdq0 s), some ⟨3, [[VI 7, VI n, .v (.string d)]]⟩, sdq1]⟩) (by kernel_rfl) (by kernel_rfl) ?_
  refine EL.condF (by kernel_rfl) ?_
  refine EL.skip ?_
  refine thenL_norm ?_
  refine EL.seq ?_
  refine EL.sdraw ?_
  refine DW.last 14 [2, 3, 4, 8, 264] (x' := ⟨sdq72, [(sdq0 s), some ⟨3, [[VI 7, VI n, .v (.string d)]]⟩, sdq1]⟩) (by kernel_rfl) (by kernel_rfl) ?_
  refine EL.condF (by kernel_rfl) ?_
  refine EL.skip ?_
  refine thenL_norm ?_
  refine EL.seq ?_
  refine EL.sreg ?_
  refine OW.last 1 [2, 3, 4, 280] (x' := ⟨(280, .v (.bool false)) :: sdq30, [(sdq0 s), some ⟨3, [[VI 7, VI n, .v (.string d)]]⟩, sdq1]⟩) (by kernel_rfl) (by kernel_rfl) ?_
  refine EL.condF (by kernel_rfl) ?_
  refine EL.skip ?_
  refine thenL_norm ?_
  refine EL.seq ?_
  refine EL.sreg ?_
  refine OW.last 3 [2, 3, 4, 289] (x' := ⟨(289, .v (.bool true)) :: sdq30, [(sdq0 s), some ⟨3, [[VI 7, VI n, .v (.string d)]]⟩, sdq1]⟩) (by kernel_rfl) (by kernel_rfl) ?_
  refine EL.condT (by kernel_rfl) ?_
  refine EL.reg0 ?_
  refine OW.end 4 (x' := ⟨(sdq162 s), (sdq161 s n d)⟩) (by kernel_rfl) (by kernel_rfl) ?_
  refine thenL_norm ?_
  refine EL.seq ?_
  refine EL.sreg ?_
  refine OW.last 3 [2, 4, 295] (x' := ⟨sdq73, (sdq161 s n d)⟩) (by kernel_rfl) (by kernel_rfl) ?_
  refine EL.condF (by kernel_rfl) ?_
  refine EL.skip ?_
  refine thenL_norm ?_
  refine EL.sreg ?_
  refine OW.last 3 [4, 5] (x' := ⟨[(5, VI 0), (4, .ref 2 8 0 0)], (sdq163 s n d)⟩) (by kernel_rfl) (by kernel_rfl) ?_
  refine EL.ret ?_
  refine ⟨.inr rfl, .tup [.agg [.lst 1 (s.first.map cZ), .lst 1 (s.second.map cZ), .lst 2 (s.log.map Record.cs), VI s.known, VI s.applied, VI s.known, .lst 1 (s.there.map cI), .lst 1 (s.back.map cI)], VI 0], by kernel_rfl, Ale.of_eq ?_⟩
  focus ((first | (exfalso; omega) | (clear ee tt bb; (try simp only [← List.eraseIdx_eq_take_drop_succ]); rw [Ship.step_7]; (try simp only [ba_empty]); (try split) <;> first | rfl | contradiction | (exfalso; omega) | (exfalso; simp_all; done) | (simp only [Ship.zero, wi_iff]; (repeat' split) <;> first | rfl | (exfalso; omega) | (simp; done) | (simp; omega) | (simp_all; done) | (simp_all; omega)))))
abbrev sdq164 (d : ByteArray) : LS := (31, VI (ByteArray.size d : Int)) :: (30, .v (.string d)) :: (29, .ref 1 3 0 2) :: (28, .v (.bool true)) :: (27, .v (.bool true)) :: (26, VI 8) :: (25, .ref 1 3 0 0) :: (23, .v (.bool false)) :: sdq30
abbrev sdq165 (n : Int) (d : ByteArray) : LS := (36, VI n) :: (35, .ref 1 3 0 1) :: (34, .v (.bool false)) :: (33, .v (.bool false)) :: (32, .v (.bool false)) :: (sdq164 d)
abbrev sdq166 : LS := [(295, .v (.bool true)), (4, .ref 2 8 0 0), (2, .ref 0 8 0 0)]
abbrev sdq167 (s : Ship) : AV := .agg [.lst 1 (s.second.map cZ), .lst 1 (s.second.map cZ), .emp, VI 0, VI 0, VI 0, .emp, .emp]
abbrev sdq168 (s : Ship) : OB := some ⟨8, [[.lst 1 (s.second.map cZ), .lst 1 (s.second.map cZ), .emp, VI 0, VI 0, VI 0, .emp, .emp]]⟩
abbrev sdq169 (s : Ship) (n : Int) (d : ByteArray) : LB := [(sdq168 s), some ⟨3, [[VI 8, VI n, .v (.string d)]]⟩, sdq1]
abbrev sdq170 (s : Ship) : LS := (300, (sdq167 s)) :: (299, .lst 1 (s.second.map cZ)) :: (298, .ref 0 8 0 1) :: (297, .lst 1 (s.second.map cZ)) :: (296, .ref 0 8 0 1) :: sdq166
abbrev sdq171 (s : Ship) (n : Int) (d : ByteArray) : LB := [(sdq168 s), some ⟨3, [[VI 8, VI n, .v (.string d)]]⟩, (sdq168 s)]
theorem rdo8_fn (s : Ship) (n : Int) (d : ByteArray) (ok : s.Ok) : Fn Try.prog 14 [.agg [.lst 1 (s.first.map cZ), .lst 1 (s.second.map cZ), .lst 2 (s.log.map Record.cs), VI s.sent, VI s.applied, VI s.known, .lst 1 (s.there.map cI), .lst 1 (s.back.map cI)], .agg [VI 8, VI n, .v (.string d)]] (.tup [.agg [.lst 1 ((((s.stepP ⟨8, n, d⟩).1).first).map cZ), .lst 1 ((((s.stepP ⟨8, n, d⟩).1).second).map cZ), .lst 2 ((((s.stepP ⟨8, n, d⟩).1).log).map Record.cs), VI (((s.stepP ⟨8, n, d⟩).1).sent), VI (((s.stepP ⟨8, n, d⟩).1).applied), VI (((s.stepP ⟨8, n, d⟩).1).known), .lst 1 ((((s.stepP ⟨8, n, d⟩).1).there).map cI), .lst 1 ((((s.stepP ⟨8, n, d⟩).1).back).map cI)], VI ((s.stepP ⟨8, n, d⟩).2)]) := by
  have hx : s.first.length ≤ 9223372036854775807 ∧ s.second.length ≤ 9223372036854775807 ∧ s.log.length ≤ 9223372036854775807 ∧ s.there.length ≤ 9223372036854775807 ∧ s.back.length ≤ 9223372036854775807 := by have hh := ok.small; omega
  have hc0 := Ship.checkE_0.2 ok
  have hc : (s.checkE != 0) = false := by rw [hc0]; rfl
  obtain ⟨⟨a1, a2⟩, b1, c1, c2, ⟨d1, d2, d3⟩, ee, ⟨k1, k2, k3, k4, k5⟩, tt, bb⟩ := ok
  refine fn_walkW F14_ok (of_decide_eq_true (by kernel_rfl)) ?_
  refine EL.sreg ?_
  refine OW.last 4 [2, 3, 4] (x' := ⟨sdq30, [(sdq0 s), some ⟨3, [[VI 8, VI n, .v (.string d)]]⟩, sdq1]⟩) (by kernel_rfl) (by kernel_rfl) ?_
  refine EL.sreg ?_
  refine OW.run 1 (x' := ⟨(10, (sdq3 s)) :: sdq30, [(sdq0 s), some ⟨3, [[VI 8, VI n, .v (.string d)]]⟩, sdq1]⟩) (by kernel_rfl) ?_
  refine OW.fn (ar := [(sdq3 s)]) (x' := ⟨(11, VI s.checkE) :: (10, (sdq3 s)) :: sdq30, [(sdq0 s), some ⟨3, [[VI 8, VI n, .v (.string d)]]⟩, sdq1]⟩) (by kernel_rfl) (by kernel_rfl) F18_call (rcheck_fn s hx) (by kernel_rfl) (by kernel_rfl) ?_
  refine OW.last 1 [2, 3, 4, 6] (x' := ⟨(6, VI s.checkE) :: sdq30, [(sdq0 s), some ⟨3, [[VI 8, VI n, .v (.string d)]]⟩, sdq1]⟩) (by kernel_rfl) (by kernel_rfl) ?_
  refine EL.seq ?_
  refine EL.sreg ?_
  refine OW.last 2 [2, 3, 4, 6, 13] (x' := ⟨(13, .v (.bool (s.checkE != 0))) :: (6, VI s.checkE) :: sdq30, [(sdq0 s), some ⟨3, [[VI 8, VI n, .v (.string d)]]⟩, sdq1]⟩) (by kernel_rfl) (by kernel_rfl) ?_
  rw [hc]
  refine EL.condF (by kernel_rfl) ?_
  refine EL.skip ?_
  refine thenL_norm ?_
  refine EL.seq ?_
  refine EL.sreg ?_
  refine OW.last 8 [2, 3, 4, 23] (x' := ⟨(23, .v (.bool false)) :: sdq30, [(sdq0 s), some ⟨3, [[VI 8, VI n, .v (.string d)]]⟩, sdq1]⟩) (by kernel_rfl) (by kernel_rfl) ?_
  refine EL.condF (by kernel_rfl) ?_
  refine EL.skip ?_
  refine thenL_norm ?_
  refine EL.seq ?_
  refine EL.sreg ?_
  refine OW.run 10 (x' := ⟨(34, .v (.bool (decide ((ByteArray.size d : Int) > 0)))) :: (33, .v (.bool (decide ((ByteArray.size d : Int) > 0)))) :: (32, .v (.bool (decide ((ByteArray.size d : Int) > 0)))) :: (sdq164 d), [(sdq0 s), some ⟨3, [[VI 8, VI n, .v (.string d)]]⟩, sdq1]⟩) (by kernel_rfl) ?_
  rcases Bool.eq_false_or_eq_true (decide ((ByteArray.size d : Int) > 0)) with h1 | h1
  rw [h1]
  have g1 : ((ByteArray.size d : Int) > 0) := of_decide_eq_true h1
  have n1 : ((ByteArray.size d) > 0) := by omega
  refine OW.last 14 [2, 3, 4, 48] (x' := ⟨(48, .v (.bool true)) :: sdq30, [(sdq0 s), some ⟨3, [[VI 8, VI n, .v (.string d)]]⟩, sdq1]⟩) (by kernel_rfl) (by kernel_rfl) ?_
  refine EL.condT (by kernel_rfl) ?_
  refine EL.sreg ?_
  refine OW.last 3 [4, 5] (x' := ⟨[(5, VI 1), (4, .ref 2 8 0 0)], [(sdq0 s), some ⟨3, [[VI 8, VI n, .v (.string d)]]⟩, sdq1]⟩) (by kernel_rfl) (by kernel_rfl) ?_
  refine EL.ret ?_
  refine thenL_ret ?_
  refine ⟨.inr rfl, .tup [.agg [.emp, .emp, .emp, VI 0, VI 0, VI 0, .emp, .emp], VI 1], by kernel_rfl, Ale.trans (b := .tup [.agg [.lst 1 [], .lst 1 [], .lst 2 [], VI 0, VI 0, VI 0, .lst 1 [], .lst 1 []], VI 1]) (Ale.tup (.cons (Ale.agg (.cons (Ale.emp) (.cons (Ale.emp) (.cons (Ale.emp) (.cons (Ale.refl) (.cons (Ale.refl) (.cons (Ale.refl) (.cons (Ale.emp) (.cons (Ale.emp) (.nil)))))))))) (.cons (Ale.refl) (.nil)))) (Ale.of_eq ?_)⟩
  focus ((first | (exfalso; omega) | (clear ee tt bb; (try simp only [← List.eraseIdx_eq_take_drop_succ]); rw [Ship.step_8]; (try simp only [ba_empty]); (try split) <;> first | rfl | contradiction | (exfalso; omega) | (exfalso; simp_all; done) | (simp only [Ship.zero, wi_iff]; (repeat' split) <;> first | rfl | (exfalso; omega) | (simp; done) | (simp; omega) | (simp_all; done) | (simp_all; omega)))))
  rw [h1]
  have g1 : ¬ ((ByteArray.size d : Int) > 0) := of_decide_eq_false h1
  have n1 : ¬ ((ByteArray.size d) > 0) := by omega
  refine OW.run 4 (x' := ⟨(38, .v (.bool (n != 0))) :: (37, .v (.bool (n != 0))) :: (sdq165 n d), [(sdq0 s), some ⟨3, [[VI 8, VI n, .v (.string d)]]⟩, sdq1]⟩) (by kernel_rfl) ?_
  rcases Bool.eq_false_or_eq_true ((n != 0)) with h2 | h2
  rw [h2]
  have g2 : ¬ (n = 0) := by simpa using h2
  refine OW.last 10 [2, 3, 4, 48] (x' := ⟨(48, .v (.bool true)) :: sdq30, [(sdq0 s), some ⟨3, [[VI 8, VI n, .v (.string d)]]⟩, sdq1]⟩) (by kernel_rfl) (by kernel_rfl) ?_
  refine EL.condT (by kernel_rfl) ?_
  refine EL.sreg ?_
  refine OW.last 3 [4, 5] (x' := ⟨[(5, VI 1), (4, .ref 2 8 0 0)], [(sdq0 s), some ⟨3, [[VI 8, VI n, .v (.string d)]]⟩, sdq1]⟩) (by kernel_rfl) (by kernel_rfl) ?_
  refine EL.ret ?_
  refine thenL_ret ?_
  refine ⟨.inr rfl, .tup [.agg [.emp, .emp, .emp, VI 0, VI 0, VI 0, .emp, .emp], VI 1], by kernel_rfl, Ale.trans (b := .tup [.agg [.lst 1 [], .lst 1 [], .lst 2 [], VI 0, VI 0, VI 0, .lst 1 [], .lst 1 []], VI 1]) (Ale.tup (.cons (Ale.agg (.cons (Ale.emp) (.cons (Ale.emp) (.cons (Ale.emp) (.cons (Ale.refl) (.cons (Ale.refl) (.cons (Ale.refl) (.cons (Ale.emp) (.cons (Ale.emp) (.nil)))))))))) (.cons (Ale.refl) (.nil)))) (Ale.of_eq ?_)⟩
  focus ((first | (exfalso; omega) | (clear ee tt bb; (try simp only [← List.eraseIdx_eq_take_drop_succ]); rw [Ship.step_8]; (try simp only [ba_empty]); (try split) <;> first | rfl | contradiction | (exfalso; omega) | (exfalso; simp_all; done) | (simp only [Ship.zero, wi_iff]; (repeat' split) <;> first | rfl | (exfalso; omega) | (simp; done) | (simp; omega) | (simp_all; done) | (simp_all; omega)))))
  rw [h2]
  have g2 : (n = 0) := by simpa using h2
  refine OW.last 10 [2, 3, 4, 48] (x' := ⟨(48, .v (.bool false)) :: sdq30, [(sdq0 s), some ⟨3, [[VI 8, VI n, .v (.string d)]]⟩, sdq1]⟩) (by kernel_rfl) (by kernel_rfl) ?_
  refine EL.condF (by kernel_rfl) ?_
  refine EL.skip ?_
  refine thenL_norm ?_
  refine EL.sreg ?_
  refine OW.last 9 [2, 3, 4, 7] (x' := ⟨(7, .v (.bool false)) :: sdq30, [(sdq0 s), some ⟨3, [[VI 8, VI n, .v (.string d)]]⟩, sdq1]⟩) (by kernel_rfl) (by kernel_rfl) ?_
  refine EL.sreg ?_
  refine OW.last 9 [2, 3, 4, 7, 8] (x' := ⟨sdq57, [(sdq0 s), some ⟨3, [[VI 8, VI n, .v (.string d)]]⟩, sdq1]⟩) (by kernel_rfl) (by kernel_rfl) ?_
  refine EL.seq ?_
  refine EL.sreg ?_
  refine OW.last 48 [2, 3, 4, 7, 8, 113] (x' := ⟨(113, .v (.bool false)) :: sdq57, [(sdq0 s), some ⟨3, [[VI 8, VI n, .v (.string d)]]⟩, sdq1]⟩) (by kernel_rfl) (by kernel_rfl) ?_
  refine EL.condF (by kernel_rfl) ?_
  refine EL.skip ?_
  refine thenL_norm ?_
  refine EL.seq ?_
  refine EL.sreg ?_
  refine OW.last 11 [2, 3, 4, 7, 8, 125] (x' := ⟨(125, .v (.bool false)) :: sdq57, [(sdq0 s), some ⟨3, [[VI 8, VI n, .v (.string d)]]⟩, sdq1]⟩) (by kernel_rfl) (by kernel_rfl) ?_
  refine EL.condF (by kernel_rfl) ?_
  refine EL.skip ?_
  refine thenL_norm ?_
  refine EL.seq ?_
  refine EL.sreg ?_
  refine OW.last 37 [2, 3, 4, 7, 8, 163] (x' := ⟨(163, .v (.bool false)) :: sdq57, [(sdq0 s), some ⟨3, [[VI 8, VI n, .v (.string d)]]⟩, sdq1]⟩) (by kernel_rfl) (by kernel_rfl) ?_
  refine EL.condF (by kernel_rfl) ?_
  refine EL.skip ?_
  refine thenL_norm ?_
  refine EL.seq ?_
  refine EL.sreg ?_
  refine OW.last 3 [2, 3, 4, 7, 8, 167] (x' := ⟨(167, .v (.bool false)) :: sdq57, [(sdq0 s), some ⟨3, [[VI 8, VI n, .v (.string d)]]⟩, sdq1]⟩) (by kernel_rfl) (by kernel_rfl) ?_
  refine EL.condF (by kernel_rfl) ?_
  refine EL.skip ?_
  refine thenL_norm ?_
  refine EL.seq ?_
  refine EL.sreg ?_
  refine OW.last 3 [2, 3, 4, 7, 8, 190] (x' := ⟨(190, .v (.bool false)) :: sdq57, [(sdq0 s), some ⟨3, [[VI 8, VI n, .v (.string d)]]⟩, sdq1]⟩) (by kernel_rfl) (by kernel_rfl) ?_
  refine EL.condF (by kernel_rfl) ?_
  refine EL.skip ?_
  refine thenL_norm ?_
  refine EL.seq ?_
  refine EL.sreg ?_
  refine OW.last 3 [2, 3, 4, 7, 8, 206] (x' := ⟨(206, .v (.bool false)) :: sdq57, [(sdq0 s), some ⟨3, [[VI 8, VI n, .v (.string d)]]⟩, sdq1]⟩) (by kernel_rfl) (by kernel_rfl) ?_
  refine EL.condF (by kernel_rfl) ?_
  refine EL.skip ?_
  refine thenL_norm ?_
  refine EL.seq ?_
  refine EL.sreg ?_
  refine OW.last 1 [2, 3, 4, 8, 244] (x' := ⟨sdq71, [(sdq0 s), some ⟨3, [[VI 8, VI n, .v (.string d)]]⟩, sdq1]⟩) (by kernel_rfl) (by kernel_rfl) ?_
  refine EL.condF (by kernel_rfl) ?_
  refine EL.skip ?_
  refine thenL_norm ?_
  refine EL.seq ?_
  refine EL.sdraw ?_
  refine DW.last 14 [2, 3, 4, 8, 264] (x' := ⟨sdq72, [(sdq0 s), some ⟨3, [[VI 8, VI n, .v (.string d)]]⟩, sdq1]⟩) (by kernel_rfl) (by kernel_rfl) ?_
  refine EL.condF (by kernel_rfl) ?_
  refine EL.skip ?_
  refine thenL_norm ?_
  refine EL.seq ?_
  refine EL.sreg ?_
  refine OW.last 1 [2, 3, 4, 280] (x' := ⟨(280, .v (.bool false)) :: sdq30, [(sdq0 s), some ⟨3, [[VI 8, VI n, .v (.string d)]]⟩, sdq1]⟩) (by kernel_rfl) (by kernel_rfl) ?_
  refine EL.condF (by kernel_rfl) ?_
  refine EL.skip ?_
  refine thenL_norm ?_
  refine EL.seq ?_
  refine EL.sreg ?_
  refine OW.last 3 [2, 3, 4, 289] (x' := ⟨(289, .v (.bool false)) :: sdq30, [(sdq0 s), some ⟨3, [[VI 8, VI n, .v (.string d)]]⟩, sdq1]⟩) (by kernel_rfl) (by kernel_rfl) ?_
  refine EL.condF (by kernel_rfl) ?_
  refine EL.skip ?_
  refine thenL_norm ?_
  refine EL.seq ?_
  refine EL.sreg ?_
  refine OW.last 3 [2, 4, 295] (x' := ⟨sdq166, [(sdq0 s), some ⟨3, [[VI 8, VI n, .v (.string d)]]⟩, sdq1]⟩) (by kernel_rfl) (by kernel_rfl) ?_
  refine EL.condT (by kernel_rfl) ?_
  refine EL.reg0 ?_
  refine OW.end 6 (x' := ⟨(sdq170 s), (sdq169 s n d)⟩) (by kernel_rfl) (by kernel_rfl) ?_
  refine thenL_norm ?_
  refine EL.sreg ?_
  refine OW.last 3 [4, 5] (x' := ⟨[(5, VI 0), (4, .ref 2 8 0 0)], (sdq171 s n d)⟩) (by kernel_rfl) (by kernel_rfl) ?_
  refine EL.ret ?_
  refine ⟨.inr rfl, .tup [.agg [.lst 1 (s.second.map cZ), .lst 1 (s.second.map cZ), .emp, VI 0, VI 0, VI 0, .emp, .emp], VI 0], by kernel_rfl, Ale.trans (b := .tup [.agg [.lst 1 (s.second.map cZ), .lst 1 (s.second.map cZ), .lst 2 [], VI 0, VI 0, VI 0, .lst 1 [], .lst 1 []], VI 0]) (Ale.tup (.cons (Ale.agg (.cons (Ale.refl) (.cons (Ale.refl) (.cons (Ale.emp) (.cons (Ale.refl) (.cons (Ale.refl) (.cons (Ale.refl) (.cons (Ale.emp) (.cons (Ale.emp) (.nil)))))))))) (.cons (Ale.refl) (.nil)))) (Ale.of_eq ?_)⟩
  focus ((first | (exfalso; omega) | (clear ee tt bb; (try simp only [← List.eraseIdx_eq_take_drop_succ]); rw [Ship.step_8]; (try simp only [ba_empty]); (try split) <;> first | rfl | contradiction | (exfalso; omega) | (exfalso; simp_all; done) | (simp only [Ship.zero, wi_iff]; (repeat' split) <;> first | rfl | (exfalso; omega) | (simp; done) | (simp; omega) | (simp_all; done) | (simp_all; omega)))))
end Go.Proofs.Ythdcanpbgaaneaa
