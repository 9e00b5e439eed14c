/- What the functions of package ship answer: what the document says of a step, of a run, of a log. No condition. -/
import Derived.Test.YthdcanpbgaaneaaPShipD
set_option maxRecDepth 100000
set_option maxHeartbeats 4000000
set_option linter.unusedVariables false
set_option linter.unusedSimpArgs false
namespace Go.Proofs.Ythdcanpbgaaneaa
abbrev seq0 (s : Ship) : OB := some ⟨8, [[.lst 1 (s.first.map cZ), .lst 1 (s.second.map cZ), .lst 2 (s.log.map Record.cs), VI s.sent, VI s.applied, VI s.known, .lst 1 (s.there.map cI), .lst 1 (s.back.map cI)]]⟩
abbrev seq1 : OB := some ⟨8, [[.emp, .emp, .emp, VI 0, VI 0, VI 0, .emp, .emp]]⟩
abbrev seq2 (s : Ship) (a : Act) : LB := [(seq0 s), some ⟨3, [[VI a.kind, VI a.n, .v (.string a.data)]]⟩, seq1]
abbrev seq3 : LS := [(4, .ref 2 8 0 0), (3, .ref 1 3 0 0), (2, .ref 0 8 0 0)]
abbrev seq4 (s : Ship) : AV := .agg [.lst 1 (s.first.map cZ), .lst 1 (s.second.map cZ), .lst 2 (s.log.map Record.cs), VI s.sent, VI s.applied, VI s.known, .lst 1 (s.there.map cI), .lst 1 (s.back.map cI)]
abbrev seq5 : AV := .agg [.lst 1 [], .lst 1 [], .lst 2 [], VI 0, VI 0, VI 0, .lst 1 [], .lst 1 []]
theorem rdoE_fn (s : Ship) (a : Act) (hx : s.first.length ≤ 9223372036854775807 ∧ s.second.length ≤ 9223372036854775807 ∧ s.log.length ≤ 9223372036854775807 ∧ s.there.length ≤ 9223372036854775807 ∧ s.back.length ≤ 9223372036854775807) (h0 : ¬ s.checkE = 0) : Fn Try.prog 14 [.agg [.lst 1 (s.first.map cZ), .lst 1 (s.second.map cZ), .lst 2 (s.log.map Record.cs), VI s.sent, VI s.applied, VI s.known, .lst 1 (s.there.map cI), .lst 1 (s.back.map cI)], .agg [VI a.kind, VI a.n, .v (.string a.data)]] (.tup [.agg [.lst 1 (Ship.zero.first.map cZ), .lst 1 (Ship.zero.second.map cZ), .lst 2 (Ship.zero.log.map Record.cs), VI Ship.zero.sent, VI Ship.zero.applied, VI Ship.zero.known, .lst 1 (Ship.zero.there.map cI), .lst 1 (Ship.zero.back.map cI)], VI s.checkE]) := by
  have hc : (s.checkE != 0) = true := by simpa using h0
  refine fn_walkW F14_ok (of_decide_eq_true (by kernel_rfl)) ?_
  refine EL.sreg ?_
  refine OW.last 4 [2, 3, 4] (x' := ⟨seq3, (seq2 s a)⟩) (by kernel_rfl) (by kernel_rfl) ?_
  refine EL.sreg ?_
  refine OW.run 1 (x' := ⟨(10, (seq4 s)) :: seq3, (seq2 s a)⟩) (by kernel_rfl) ?_
  refine OW.fn (ar := [(seq4 s)]) (x' := ⟨(11, VI s.checkE) :: (10, (seq4 s)) :: seq3, (seq2 s a)⟩) (by kernel_rfl) (by kernel_rfl) F18_call (rcheck_fn s hx) (by kernel_rfl) (by kernel_rfl) ?_
  refine OW.last 1 [2, 3, 4, 6] (x' := ⟨(6, VI s.checkE) :: seq3, (seq2 s a)⟩) (by kernel_rfl) (by kernel_rfl) ?_
  refine EL.seq ?_
  refine EL.sreg ?_
  refine OW.last 2 [2, 3, 4, 6, 13] (x' := ⟨(13, .v (.bool (s.checkE != 0))) :: (6, VI s.checkE) :: seq3, (seq2 s a)⟩) (by kernel_rfl) (by kernel_rfl) ?_
  rw [hc]
  refine EL.condT (by kernel_rfl) ?_
  refine EL.sreg ?_
  refine OW.last 4 [4, 5] (x' := ⟨[(5, VI s.checkE), (4, .ref 2 8 0 0)], (seq2 s a)⟩) (by kernel_rfl) (by kernel_rfl) ?_
  refine EL.ret ?_
  refine thenL_ret ?_
  refine ⟨.inr rfl, .tup [.agg [.emp, .emp, .emp, VI 0, VI 0, VI 0, .emp, .emp], VI s.checkE], by kernel_rfl, Ale.trans (b := .tup [seq5, VI s.checkE]) (Ale.tup (.cons (Ale.agg (.cons (Ale.emp) (.cons (Ale.emp) (.cons (Ale.emp) (.cons (Ale.refl) (.cons (Ale.refl) (.cons (Ale.refl) (.cons (Ale.emp) (.cons (Ale.emp) (.nil)))))))))) (.cons (Ale.refl) (.nil)))) (Ale.of_eq ?_)⟩
  focus (rfl)
abbrev seq6 (a : Act) (s : Ship) : LS := (17, VI a.kind) :: (16, .ref 1 3 0 0) :: (13, .v (.bool false)) :: (6, VI s.checkE) :: seq3
theorem rdoL_fn (s : Ship) (a : Act) (ok : s.Ok) (hk : a.kind < 1) : Fn Try.prog 14 [.agg [.lst 1 (s.first.map cZ), .lst 1 (s.second.map cZ), .lst 2 (s.log.map Record.cs), VI s.sent, VI s.applied, VI s.known, .lst 1 (s.there.map cI), .lst 1 (s.back.map cI)], .agg [VI a.kind, VI a.n, .v (.string a.data)]] (.tup [.agg [.lst 1 (Ship.zero.first.map cZ), .lst 1 (Ship.zero.second.map cZ), .lst 2 (Ship.zero.log.map Record.cs), VI Ship.zero.sent, VI Ship.zero.applied, VI Ship.zero.known, .lst 1 (Ship.zero.there.map cI), .lst 1 (Ship.zero.back.map cI)], VI 7]) := by
  have hx : s.first.length ≤ 9223372036854775807 ∧ s.second.length ≤ 9223372036854775807 ∧ s.log.length ≤ 9223372036854775807 ∧ s.there.length ≤ 9223372036854775807 ∧ s.back.length ≤ 9223372036854775807 := by have hh := ok.small; omega
  have hc0 := Ship.checkE_0.2 ok
  have hc : (s.checkE != 0) = false := by rw [hc0]; rfl
  have hk1 : decide (a.kind < 1) = true := decide_eq_true hk
  refine fn_walkW F14_ok (of_decide_eq_true (by kernel_rfl)) ?_
  refine EL.sreg ?_
  refine OW.last 4 [2, 3, 4] (x' := ⟨seq3, (seq2 s a)⟩) (by kernel_rfl) (by kernel_rfl) ?_
  refine EL.sreg ?_
  refine OW.run 1 (x' := ⟨(10, (seq4 s)) :: seq3, (seq2 s a)⟩) (by kernel_rfl) ?_
  refine OW.fn (ar := [(seq4 s)]) (x' := ⟨(11, VI s.checkE) :: (10, (seq4 s)) :: seq3, (seq2 s a)⟩) (by kernel_rfl) (by kernel_rfl) F18_call (rcheck_fn s hx) (by kernel_rfl) (by kernel_rfl) ?_
  refine OW.last 1 [2, 3, 4, 6] (x' := ⟨(6, VI s.checkE) :: seq3, (seq2 s a)⟩) (by kernel_rfl) (by kernel_rfl) ?_
  refine EL.seq ?_
  refine EL.sreg ?_
  refine OW.last 2 [2, 3, 4, 6, 13] (x' := ⟨(13, .v (.bool (s.checkE != 0))) :: (6, VI s.checkE) :: seq3, (seq2 s a)⟩) (by kernel_rfl) (by kernel_rfl) ?_
  rw [hc]
  refine EL.condF (by kernel_rfl) ?_
  refine EL.skip ?_
  refine thenL_norm ?_
  refine EL.seq ?_
  refine EL.sreg ?_
  refine OW.run 4 (x' := ⟨(19, .v (.bool (decide (a.kind < 1)))) :: (18, .v (.bool (decide (a.kind < 1)))) :: (seq6 a s), (seq2 s a)⟩) (by kernel_rfl) ?_
  rw [hk1]
  refine OW.last 4 [2, 3, 4, 23] (x' := ⟨(23, .v (.bool true)) :: seq3, (seq2 s a)⟩) (by kernel_rfl) (by kernel_rfl) ?_
  refine EL.condT (by kernel_rfl) ?_
  refine EL.sreg ?_
  refine OW.last 3 [4, 5] (x' := ⟨[(5, VI 7), (4, .ref 2 8 0 0)], (seq2 s a)⟩) (by kernel_rfl) (by kernel_rfl) ?_
  refine EL.ret ?_
  refine thenL_ret ?_
  refine ⟨.inr rfl, .tup [.agg [.emp, .emp, .emp, VI 0, VI 0, VI 0, .emp, .emp], VI 7], by kernel_rfl, Ale.trans (b := .tup [seq5, VI 7]) (Ale.tup (.cons (Ale.agg (.cons (Ale.emp) (.cons (Ale.emp) (.cons (Ale.emp) (.cons (Ale.refl) (.cons (Ale.refl) (.cons (Ale.refl) (.cons (Ale.emp) (.cons (Ale.emp) (.nil)))))))))) (.cons (Ale.refl) (.nil)))) (Ale.of_eq ?_)⟩
  focus (rfl)
theorem rdoG_fn (s : Ship) (a : Act) (ok : s.Ok) (hk : a.kind > 8) : Fn Try.prog 14 [.agg [.lst 1 (s.first.map cZ), .lst 1 (s.second.map cZ), .lst 2 (s.log.map Record.cs), VI s.sent, VI s.applied, VI s.known, .lst 1 (s.there.map cI), .lst 1 (s.back.map cI)], .agg [VI a.kind, VI a.n, .v (.string a.data)]] (.tup [.agg [.lst 1 (Ship.zero.first.map cZ), .lst 1 (Ship.zero.second.map cZ), .lst 2 (Ship.zero.log.map Record.cs), VI Ship.zero.sent, VI Ship.zero.applied, VI Ship.zero.known, .lst 1 (Ship.zero.there.map cI), .lst 1 (Ship.zero.back.map cI)], VI 7]) := by
  have hx : s.first.length ≤ 9223372036854775807 ∧ s.second.length ≤ 9223372036854775807 ∧ s.log.length ≤ 9223372036854775807 ∧ s.there.length ≤ 9223372036854775807 ∧ s.back.length ≤ 9223372036854775807 := by have hh := ok.small; omega
  have hc0 := Ship.checkE_0.2 ok
  have hc : (s.checkE != 0) = false := by rw [hc0]; rfl
  have hk1 : decide (a.kind < 1) = false := decide_eq_false (by omega)
  have hk2 : decide (a.kind > 8) = true := decide_eq_true hk
  refine fn_walkW F14_ok (of_decide_eq_true (by kernel_rfl)) ?_
  refine EL.sreg ?_
  refine OW.last 4 [2, 3, 4] (x' := ⟨seq3, (seq2 s a)⟩) (by kernel_rfl) (by kernel_rfl) ?_
  refine EL.sreg ?_
  refine OW.run 1 (x' := ⟨(10, (seq4 s)) :: seq3, (seq2 s a)⟩) (by kernel_rfl) ?_
  refine OW.fn (ar := [(seq4 s)]) (x' := ⟨(11, VI s.checkE) :: (10, (seq4 s)) :: seq3, (seq2 s a)⟩) (by kernel_rfl) (by kernel_rfl) F18_call (rcheck_fn s hx) (by kernel_rfl) (by kernel_rfl) ?_
  refine OW.last 1 [2, 3, 4, 6] (x' := ⟨(6, VI s.checkE) :: seq3, (seq2 s a)⟩) (by kernel_rfl) (by kernel_rfl) ?_
  refine EL.seq ?_
  refine EL.sreg ?_
  refine OW.last 2 [2, 3, 4, 6, 13] (x' := ⟨(13, .v (.bool (s.checkE != 0))) :: (6, VI s.checkE) :: seq3, (seq2 s a)⟩) (by kernel_rfl) (by kernel_rfl) ?_
  rw [hc]
  refine EL.condF (by kernel_rfl) ?_
  refine EL.skip ?_
  refine thenL_norm ?_
  refine EL.seq ?_
  refine EL.sreg ?_
  refine OW.run 4 (x' := ⟨(19, .v (.bool (decide (a.kind < 1)))) :: (18, .v (.bool (decide (a.kind < 1)))) :: (seq6 a s), (seq2 s a)⟩) (by kernel_rfl) ?_
  rw [hk1]
  refine OW.last 4 [2, 3, 4, 23] (x' := ⟨(23, .v (.bool (decide (a.kind > 8)))) :: seq3, (seq2 s a)⟩) (by kernel_rfl) (by kernel_rfl) ?_
  rw [hk2]
  refine EL.condT (by kernel_rfl) ?_
  refine EL.sreg ?_
  refine OW.last 3 [4, 5] (x' := ⟨[(5, VI 7), (4, .ref 2 8 0 0)], (seq2 s a)⟩) (by kernel_rfl) (by kernel_rfl) ?_
  refine EL.ret ?_
  refine thenL_ret ?_
  refine ⟨.inr rfl, .tup [.agg [.emp, .emp, .emp, VI 0, VI 0, VI 0, .emp, .emp], VI 7], by kernel_rfl, Ale.trans (b := .tup [seq5, VI 7]) (Ale.tup (.cons (Ale.agg (.cons (Ale.emp) (.cons (Ale.emp) (.cons (Ale.emp) (.cons (Ale.refl) (.cons (Ale.refl) (.cons (Ale.refl) (.cons (Ale.emp) (.cons (Ale.emp) (.nil)))))))))) (.cons (Ale.refl) (.nil)))) (Ale.of_eq ?_)⟩
  focus (rfl)
theorem rdo_fn (s : Ship) (a : Act) (hx : s.first.length ≤ 9223372036854775807 ∧ s.second.length ≤ 9223372036854775807 ∧ s.log.length ≤ 9223372036854775807 ∧ s.there.length ≤ 9223372036854775807 ∧ s.back.length ≤ 9223372036854775807) : Fn Try.prog 14 [.agg [.lst 1 (s.first.map cZ), .lst 1 (s.second.map cZ), .lst 2 (s.log.map Record.cs), VI s.sent, VI s.applied, VI s.known, .lst 1 (s.there.map cI), .lst 1 (s.back.map cI)], .agg [VI a.kind, VI a.n, .v (.string a.data)]] (.tup [.agg [.lst 1 ((s.doP a).1.first.map cZ), .lst 1 ((s.doP a).1.second.map cZ), .lst 2 ((s.doP a).1.log.map Record.cs), VI (s.doP a).1.sent, VI (s.doP a).1.applied, VI (s.doP a).1.known, .lst 1 ((s.doP a).1.there.map cI), .lst 1 ((s.doP a).1.back.map cI)], VI (s.doP a).2]) := by
  by_cases h0 : s.checkE = 0
  · have ok := Ship.checkE_0.1 h0
    rw [Ship.doP_0 h0]
    by_cases hk : 1 ≤ a.kind ∧ a.kind ≤ 8
    · obtain ⟨k, n, d⟩ := a
      simp only at hk
      have : k = 1 ∨ k = 2 ∨ k = 3 ∨ k = 4 ∨ k = 5 ∨ k = 6 ∨ k = 7 ∨ k = 8 := by omega
      rcases this with rfl | rfl | rfl | rfl | rfl | rfl | rfl | rfl
      · exact rdo1_fn s n d ok
      · exact rdo2_fn s n d ok
      · exact rdo3_fn s n d ok
      · exact rdo4_fn s n d ok
      · exact rdo5_fn s n d ok
      · exact rdo6_fn s n d ok
      · exact rdo7_fn s n d ok
      · exact rdo8_fn s n d ok
    · have e : s.stepP a = (Ship.zero, 7) := by simp [Ship.stepP, hk]
      rw [e]
      by_cases hk2 : a.kind < 1
      · exact rdoL_fn s a ok hk2
      · exact rdoG_fn s a ok (by omega)
  · rw [Ship.doP_n h0]
    exact rdoE_fn s a hx h0
abbrev seq7 (l : List Act) : LS := [(4, .ref 1 8 0 0), (2, .ref 0 8 0 0), (1, .lst 3 (l.map Act.cs))]
abbrev seq8 (l : List Act) (s : Ship) : LS := (17, .lst 3 (l.map Act.cs)) :: (16, .v (.bool true)) :: (15, .v (.bool true)) :: (14, VI s.checkE) :: (7, VI s.checkE) :: (seq7 l)
abbrev seq9 (l : List Act) : LS := [(1, .lst 3 (l.map Act.cs)), (2, .ref 0 8 0 0), (4, .ref 1 8 0 0), (7, VI 2)]
abbrev seq10 (l : List Act) (s : Ship) : LS := [(1, .lst 3 (l.map Act.cs)), (2, .ref 0 8 0 0), (4, .ref 1 8 0 0), (7, VI s.checkE)]
abbrev seq11 (s : Ship) : LS := [(6, VI s.checkE), (5, VI 0), (4, .ref 1 8 0 0)]
abbrev seq12 (l : List Act) : LS := [(8, VI 0), (1, .lst 3 (l.map Act.cs)), (2, .ref 0 8 0 0), (4, .ref 1 8 0 0)]
abbrev seq13 (c : Ship) : OB := some ⟨8, [[.lst 1 (c.first.map cZ), .lst 1 (c.second.map cZ), .lst 2 (c.log.map Record.cs), VI c.sent, VI c.applied, VI c.known, .lst 1 (c.there.map cI), .lst 1 (c.back.map cI)]]⟩
abbrev seq14 (l : List Act) (n : Int) (k : Nat) : LS := [(1, .lst 3 (l.map Act.cs)), (2, .ref 0 8 0 0), (4, .ref 1 8 0 0), (8, VI n), (9, VI (k : Int))]
abbrev seq15 (l : List Act) (k : Nat) (n : Int) : LS := (26, .lst 3 (l.map Act.cs)) :: (25, VI (k : Int)) :: (seq14 l n k)
abbrev seq16 (c : Ship) : AV := .agg [.lst 1 (c.first.map cZ), .lst 1 (c.second.map cZ), .lst 2 (c.log.map Record.cs), VI c.sent, VI c.applied, VI c.known, .lst 1 (c.there.map cI), .lst 1 (c.back.map cI)]
abbrev seq17 (k : Nat) (l : List Act) (c : Ship) (n : Int) : LS := (34, VI (k : Int)) :: (33, .lst 3 (l.map Act.cs)) :: (32, (seq16 c)) :: (28, .v (.bool true)) :: (seq14 l n k)
abbrev seq18 (a11 : Act) (k : Nat) (l : List Act) (c : Ship) (n : Int) : LS := (35, .pim [VI a11.kind, VI a11.n, .v (.string a11.data)] 0) :: (seq17 k l c n)
abbrev seq19 (a11 : Act) (k : Nat) (l : List Act) (c : Ship) (n : Int) : LS := (36, .agg [VI a11.kind, VI a11.n, .v (.string a11.data)]) :: (seq18 a11 k l c n)
abbrev seq20 (c : Ship) (a11 : Act) : AV := .agg [.lst 1 ((((c.doP a11).1).first).map cZ), .lst 1 ((((c.doP a11).1).second).map cZ), .lst 2 ((((c.doP a11).1).log).map Record.cs), VI (((c.doP a11).1).sent), VI (((c.doP a11).1).applied), VI (((c.doP a11).1).known), .lst 1 ((((c.doP a11).1).there).map cI), .lst 1 ((((c.doP a11).1).back).map cI)]
abbrev seq21 (c : Ship) (a11 : Act) (k : Nat) (l : List Act) (n : Int) : LS := (37, .tup [(seq20 c a11), VI ((c.doP a11).2)]) :: (seq19 a11 k l c n)
abbrev seq22 (c : Ship) (a11 : Act) : OB := some ⟨8, [[.lst 1 ((((c.doP a11).1).first).map cZ), .lst 1 ((((c.doP a11).1).second).map cZ), .lst 2 ((((c.doP a11).1).log).map Record.cs), VI (((c.doP a11).1).sent), VI (((c.doP a11).1).applied), VI (((c.doP a11).1).known), .lst 1 ((((c.doP a11).1).there).map cI), .lst 1 ((((c.doP a11).1).back).map cI)]]⟩
abbrev seq23 (c : Ship) (a11 : Act) (l : List Act) (n : Int) (k : Nat) : LS := (11, VI ((c.doP a11).2)) :: (10, .ref 2 8 0 0) :: (seq14 l n k)
abbrev seq24 (n : Int) (l : List Act) (k : Nat) : LS := [(43, VI n), (1, .lst 3 (l.map Act.cs)), (2, .ref 0 8 0 0), (4, .ref 1 8 0 0), (9, VI (k : Int))]
abbrev seq25 (k : Nat) (n : Int) (l : List Act) : LS := [(29, VI (k : Int)), (8, VI (n + 1)), (44, VI (n + 1)), (43, VI n), (1, .lst 3 (l.map Act.cs)), (2, .ref 0 8 0 0), (4, .ref 1 8 0 0)]
abbrev seq26 (k : Nat) (n : Int) (l : List Act) : LS := (9, VI ((k : Int) + 1)) :: (30, VI ((k : Int) + 1)) :: (seq25 k n l)
abbrev seq27 (k : Nat) (l : List Act) (n : Int) : LS := [(29, VI (k : Int)), (41, .v (.bool false)), (10, .ref 2 8 0 0), (1, .lst 3 (l.map Act.cs)), (2, .ref 0 8 0 0), (4, .ref 1 8 0 0), (8, VI n)]
abbrev seq28 (k : Nat) (l : List Act) (n : Int) : LS := (9, VI ((k : Int) + 1)) :: (30, VI ((k : Int) + 1)) :: (seq27 k l n)
theorem rran_fn (s : Ship) (l : List Act) (hx : s.first.length ≤ 9223372036854775807 ∧ s.second.length ≤ 9223372036854775807 ∧ s.log.length ≤ 9223372036854775807 ∧ s.there.length ≤ 9223372036854775807 ∧ s.back.length ≤ 9223372036854775807) (hl : l.length ≤ 9223372036854775807) : Fn Try.prog 20 [.agg [.lst 1 (s.first.map cZ), .lst 1 (s.second.map cZ), .lst 2 (s.log.map Record.cs), VI s.sent, VI s.applied, VI s.known, .lst 1 (s.there.map cI), .lst 1 (s.back.map cI)], .lst 3 (l.map Act.cs)] (.tup [.agg [.lst 1 ((((s.runP l).1).first).map cZ), .lst 1 ((((s.runP l).1).second).map cZ), .lst 2 ((((s.runP l).1).log).map Record.cs), VI (((s.runP l).1).sent), VI (((s.runP l).1).applied), VI (((s.runP l).1).known), .lst 1 ((((s.runP l).1).there).map cI), .lst 1 ((((s.runP l).1).back).map cI)], VI ((s.runP l).2.1), VI ((s.runP l).2.2)]) := by
  refine fn_walkW F20_ok (of_decide_eq_true (by kernel_rfl)) ?_
  refine EL.sreg ?_
  refine OW.last 4 [1, 2, 4] (x' := ⟨(seq7 l), [(seq0 s), seq1]⟩) (by kernel_rfl) (by kernel_rfl) ?_
  refine EL.sreg ?_
  refine OW.run 1 (x' := ⟨(12, (seq4 s)) :: (seq7 l), [(seq0 s), seq1]⟩) (by kernel_rfl) ?_
  refine OW.fn (ar := [(seq4 s)]) (x' := ⟨(13, VI s.checkE) :: (12, (seq4 s)) :: (seq7 l), [(seq0 s), seq1]⟩) (by kernel_rfl) (by kernel_rfl) F18_call (rcheck_fn s hx) (by kernel_rfl) (by kernel_rfl) ?_
  refine OW.last 1 [1, 2, 4, 7] (x' := ⟨(7, VI s.checkE) :: (seq7 l), [(seq0 s), seq1]⟩) (by kernel_rfl) (by kernel_rfl) ?_
  refine EL.seqG [1, 2, 4, 7] (fun y => (y = ⟨(seq9 l), [(seq0 s), seq1]⟩ ∧ (s.checkE == 0) = true ∧ decide ((List.length l : Int) > 200) = true) ∨ (y = ⟨(seq10 l s), [(seq0 s), seq1]⟩ ∧ (((s.checkE = 0) ∧ ¬ ((List.length l : Int) > 200)) ∨ (¬ (s.checkE = 0))))) ?_ ?_
  intro IHJ1 HJ1
  refine EL.sreg ?_
  refine OW.run 3 (x' := ⟨(16, .v (.bool (s.checkE == 0))) :: (15, .v (.bool (s.checkE == 0))) :: (14, VI s.checkE) :: (7, VI s.checkE) :: (seq7 l), [(seq0 s), seq1]⟩) (by kernel_rfl) ?_
  rcases Bool.eq_false_or_eq_true ((s.checkE == 0)) with h2 | h2
  rw [h2]
  have g2 : (s.checkE = 0) := by simpa using h2
  refine OW.run 1 (x' := ⟨(seq8 l s), [(seq0 s), seq1]⟩) (by kernel_rfl) ?_
  refine OW.ope (v := VI (List.length l : Int)) (u := []) (acc := []) (x' := ⟨(18, VI (List.length l : Int)) :: (seq8 l s), [(seq0 s), seq1]⟩) (by kernel_rfl) (opE_len Act.cs l (.s 17) 3 (by kernel_rfl) (by kernel_rfl) (.inl rfl)) (by kernel_rfl) ?_
  refine OW.last 2 [1, 2, 4, 7, 20] (x' := ⟨(20, .v (.bool (decide ((List.length l : Int) > 200)))) :: (7, VI s.checkE) :: (seq7 l), [(seq0 s), seq1]⟩) (by kernel_rfl) (by kernel_rfl) ?_
  rcases Bool.eq_false_or_eq_true (decide ((List.length l : Int) > 200)) with h3 | h3
  rw [h3]
  have g3 : ((List.length l : Int) > 200) := of_decide_eq_true h3
  have n3 : ((List.length l) > 200) := by omega
  refine EL.condT (by kernel_rfl) ?_
  refine EL.reg0 ?_
  refine OW.end 1 (x' := ⟨(7, VI 2) :: (20, .v (.bool true)) :: (seq7 l), [(seq0 s), seq1]⟩) (by kernel_rfl) (by kernel_rfl) ?_
  exact thenL_norm (HJ1.get (Or.inl ⟨by kernel_rfl, h2, h3⟩))
  rw [h3]
  have g3 : ¬ ((List.length l : Int) > 200) := of_decide_eq_false h3
  have n3 : ¬ ((List.length l) > 200) := by omega
  refine EL.condF (by kernel_rfl) ?_
  refine EL.skip ?_
  exact thenL_norm (HJ1.get (Or.inr ⟨by kernel_rfl, (Or.inl (by refine ⟨(by first | exact g2 | exact h2 | simp_all | omega), (by first | exact g3 | exact h3 | simp_all | omega)⟩))⟩))
  rw [h2]
  have g2 : ¬ (s.checkE = 0) := by simpa using h2
  refine OW.last 4 [1, 2, 4, 7, 20] (x' := ⟨(20, .v (.bool false)) :: (7, VI s.checkE) :: (seq7 l), [(seq0 s), seq1]⟩) (by kernel_rfl) (by kernel_rfl) ?_
  refine EL.condF (by kernel_rfl) ?_
  refine EL.skip ?_
  exact thenL_norm (HJ1.get (Or.inr ⟨by kernel_rfl, (Or.inr (by first | exact g2 | exact h2 | simp_all | omega))⟩))
  rintro _ (⟨rfl, h4, h5⟩ | ⟨rfl, hD6⟩)
  have g4 : (s.checkE = 0) := by simpa using h4
  have g5 : ((List.length l : Int) > 200) := of_decide_eq_true h5
  have n5 : ((List.length l) > 200) := by omega
  refine EL.seq ?_
  refine EL.sreg ?_
  refine OW.last 2 [1, 2, 4, 7, 22] (x' := ⟨(22, .v (.bool true)) :: (seq9 l), [(seq0 s), seq1]⟩) (by kernel_rfl) (by kernel_rfl) ?_
  refine EL.condT (by kernel_rfl) ?_
  refine EL.sreg ?_
  refine OW.last 5 [4, 5, 6] (x' := ⟨[(6, VI 2), (5, VI 0), (4, .ref 1 8 0 0)], [(seq0 s), seq1]⟩) (by kernel_rfl) (by kernel_rfl) ?_
  refine EL.ret ?_
  refine thenL_ret ?_
  refine ⟨.inr rfl, .tup [.agg [.emp, .emp, .emp, VI 0, VI 0, VI 0, .emp, .emp], VI 0, VI 2], by kernel_rfl, Ale.trans (b := .tup [seq5, VI 0, VI 2]) (Ale.tup (.cons (Ale.agg (.cons (Ale.emp) (.cons (Ale.emp) (.cons (Ale.emp) (.cons (Ale.refl) (.cons (Ale.refl) (.cons (Ale.refl) (.cons (Ale.emp) (.cons (Ale.emp) (.nil)))))))))) (.cons (Ale.refl) (.cons (Ale.refl) (.nil))))) (Ale.of_eq ?_)⟩
  focus (first | (rw [Ship.runP_n ‹_›]; rfl) | (rw [Ship.runP_2 ‹_› (by omega)]; rfl) | (rw [Ship.runP_0 hc0 (by omega), hs, List.drop_eq_nil_of_le (by omega)]; rfl))
  refine EL.seq ?_
  refine EL.sreg ?_
  refine OW.last 2 [1, 2, 4, 7, 22] (x' := ⟨(22, .v (.bool (s.checkE != 0))) :: (seq10 l s), [(seq0 s), seq1]⟩) (by kernel_rfl) (by kernel_rfl) ?_
  rcases Bool.eq_false_or_eq_true ((s.checkE != 0)) with h7 | h7
  rw [h7]
  have g7 : ¬ (s.checkE = 0) := by simpa using h7
  refine EL.condT (by kernel_rfl) ?_
  refine EL.sreg ?_
  refine OW.last 5 [4, 5, 6] (x' := ⟨(seq11 s), [(seq0 s), seq1]⟩) (by kernel_rfl) (by kernel_rfl) ?_
  refine EL.ret ?_
  refine thenL_ret ?_
  refine ⟨.inr rfl, .tup [.agg [.emp, .emp, .emp, VI 0, VI 0, VI 0, .emp, .emp], VI 0, VI s.checkE], by kernel_rfl, Ale.trans (b := .tup [seq5, VI 0, VI s.checkE]) (Ale.tup (.cons (Ale.agg (.cons (Ale.emp) (.cons (Ale.emp) (.cons (Ale.emp) (.cons (Ale.refl) (.cons (Ale.refl) (.cons (Ale.refl) (.cons (Ale.emp) (.cons (Ale.emp) (.nil)))))))))) (.cons (Ale.refl) (.cons (Ale.refl) (.nil))))) (Ale.of_eq ?_)⟩
  focus (first | (rw [Ship.runP_n ‹_›]; rfl) | (rw [Ship.runP_2 ‹_› (by omega)]; rfl) | (rw [Ship.runP_0 hc0 (by omega), hs, List.drop_eq_nil_of_le (by omega)]; rfl))
  rw [h7]
  have g7 : (s.checkE = 0) := by simpa using h7
  refine EL.condF (by kernel_rfl) ?_
  refine EL.skip ?_
  refine thenL_norm ?_
  refine EL.sreg ?_
  refine OW.last 1 [1, 2, 4, 8] (x' := ⟨(seq12 l), [(seq0 s), seq1]⟩) (by kernel_rfl) (by kernel_rfl) ?_
  refine EL.seq ?_
  refine EL.sreg ?_
  refine OW.last 1 [1, 2, 4, 8, 9] (x' := ⟨(9, VI 0) :: (seq12 l), [(seq0 s), seq1]⟩) (by kernel_rfl) (by kernel_rfl) ?_
  refine EL.block ?_
  refine EL.loopN (fun m x => ∃ (k : Nat) (c : Ship) (n : Int), m = l.length - k ∧ (k ≤ l.length ∧ l.length ≤ 200 ∧ s.checkE = 0 ∧ c.Ok ∧ 0 ≤ n ∧ n ≤ k ∧ s.runGo l 0 = c.runGo (l.drop k) n) ∧ x = ⟨(seq14 l n k), [(seq13 c), seq1]⟩) (y := (fun (k : Nat) (c : Ship) (n : Int) => (⟨(seq14 l n k), [(seq13 c), seq1]⟩ : L3)) 0 s 0) [1, 2, 4, 8, 9] [.old 0 false, .old 1 false] [] (by kernel_rfl) trivial ⟨0, s, 0, rfl, by have hc0 : s.checkE = 0 := ‹_›; refine ⟨by omega, by omega, hc0, Ship.checkE_0.1 hc0, by omega, by omega, by simp⟩, rfl⟩ ?_
  rintro _ _ ⟨k, c, n, rfl, hI8, rfl⟩
  obtain ⟨hk, hl2, hc0, hok, hn0, hn1, hs⟩ := hI8
  have hcc := Ship.checkE_0.2 hok
  refine EL.seq ?_
  refine EL.sreg ?_
  refine OW.run 2 (x' := ⟨(seq15 l k n), [(seq13 c), seq1]⟩) (by kernel_rfl) ?_
  refine OW.ope (v := VI (List.length l : Int)) (u := []) (acc := []) (x' := ⟨(27, VI (List.length l : Int)) :: (seq15 l k n), [(seq13 c), seq1]⟩) (by kernel_rfl) (opE_len Act.cs l (.s 26) 3 (by kernel_rfl) (by kernel_rfl) (.inl rfl)) (by kernel_rfl) ?_
  refine OW.last 1 [1, 2, 4, 8, 9, 28] (x' := ⟨(28, .v (.bool (decide ((k : Int) < (List.length l : Int))))) :: (seq14 l n k), [(seq13 c), seq1]⟩) (by kernel_rfl) (by kernel_rfl) ?_
  rcases Bool.eq_false_or_eq_true (decide ((k : Int) < (List.length l : Int))) with h9 | h9
  rw [h9]
  have g9 : ((k : Int) < (List.length l : Int)) := of_decide_eq_true h9
  have n9 : ((k) < (List.length l)) := by omega
  refine EL.condT (by kernel_rfl) ?_
  refine EL.skip ?_
  refine thenL_norm ?_
  refine EL.seq ?_
  refine EL.block ?_
  refine EL.sdraw ?_
  refine DW.run 3 (x' := ⟨(seq17 k l c n), [(seq13 c), seq1]⟩) (by kernel_rfl) ?_
  obtain ⟨a11, ha11⟩ : ∃ y, l[((k : Int) : Int).toNat]? = some y := idx_ex ⟨by omega, by omega⟩
  have iha11 : l[k]? = some a11 := by simpa using ha11
  have dha11 := drop_get iha11
  refine DW.ope (v := .pim [VI a11.kind, VI a11.n, .v (.string a11.data)] 0) (u := []) (acc := []) (x' := ⟨(seq18 a11 k l c n), [(seq13 c), seq1]⟩) (by kernel_rfl) (opE_iad Act.cs l (.s 33) (.s 34) 3 .i64 (k : Int) a11 (by kernel_rfl) (by kernel_rfl) (.inl rfl) rfl (by omega) ha11) (by kernel_rfl) ?_
  refine DW.run 1 (x' := ⟨(seq19 a11 k l c n), [(seq13 c), seq1]⟩) (by kernel_rfl) ?_
  refine DW.fn (ar := [(seq16 c), .agg [VI a11.kind, VI a11.n, .v (.string a11.data)]]) (x' := ⟨(seq21 c a11 k l n), [(seq13 c), seq1]⟩) (by kernel_rfl) (by kernel_rfl) F14_call (rdo_fn c a11 (by have hh := hok.small; omega)) (by kernel_rfl) (by kernel_rfl) ?_
  refine DW.last 6 [1, 2, 4, 8, 9, 10, 11] (x' := ⟨(seq23 c a11 l n k), [(seq13 c), seq1, (seq22 c a11)]⟩) (by kernel_rfl) (by kernel_rfl) ?_
  refine EL.sreg ?_
  refine OW.last 2 [1, 2, 4, 8, 9, 10, 41] (x' := ⟨(41, .v (.bool (((c.doP a11).2) == 0))) :: (10, .ref 2 8 0 0) :: (seq14 l n k), [(seq13 c), seq1, (seq22 c a11)]⟩) (by kernel_rfl) (by kernel_rfl) ?_
  rcases Bool.eq_false_or_eq_true ((((c.doP a11).2) == 0)) with h12 | h12
  rw [h12]
  have g12 : (((c.doP a11).2) = 0) := by simpa using h12
  refine EL.condT (by kernel_rfl) ?_
  refine EL.sreg ?_
  refine OW.last 2 [1, 2, 4, 8, 9] (x' := ⟨(seq14 l n k), [(seq22 c a11), seq1, (seq22 c a11)]⟩) (by kernel_rfl) (by kernel_rfl) ?_
  refine EL.reg0 ?_
  refine OW.run 3 (x' := ⟨(8, VI (IntKind.i64.wrap (n + 1))) :: (44, VI (IntKind.i64.wrap (n + 1))) :: (seq24 n l k), [(seq22 c a11), seq1, (seq22 c a11)]⟩) (by kernel_rfl) ?_
  have e13 : IntKind.i64.wrap (n + 1) = n + 1 := wr64 (by omega)
  rw [e13]
  refine OW.end 0 (x' := ⟨(8, VI (n + 1)) :: (44, VI (n + 1)) :: (seq24 n l k), [(seq22 c a11), seq1, (seq22 c a11)]⟩) (by kernel_rfl) (by kernel_rfl) ?_
  refine inBlk_norm ?_
  refine thenL_norm ?_
  refine EL.reg0 ?_
  refine OW.run 3 (x' := ⟨(9, VI (IntKind.i64.wrap ((k : Int) + 1))) :: (30, VI (IntKind.i64.wrap ((k : Int) + 1))) :: (seq25 k n l), [(seq22 c a11), seq1, (seq22 c a11)]⟩) (by kernel_rfl) ?_
  have e14 : IntKind.i64.wrap ((k : Int) + 1) = (k : Int) + 1 := wr64 (by omega)
  rw [e14]
  refine OW.end 0 (x' := ⟨(seq26 k n l), [(seq22 c a11), seq1, (seq22 c a11)]⟩) (by kernel_rfl) (by kernel_rfl) ?_
  refine thenL_norm ?_
  refine round_end (live := [1, 2, 4, 8, 9]) (src := [.old 0 false, .old 1 false]) (es := []) (y := (fun (k : Nat) (c : Ship) (n : Int) => (⟨(seq14 l n k), [(seq13 c), seq1]⟩ : L3)) (k + 1) ((c.doP a11).1) (n + 1)) ?_ trivial ?_ ⟨(k + 1), ((c.doP a11).1), (n + 1), rfl, ?_, rfl⟩
  kernel_rfl
  omega
  focus ((try rw [Ship.doP_0 hcc] at *); first | (refine ⟨by omega, by omega, hc0, Ship.step_ok hok ‹_›, by omega, by omega, ?_⟩; rw [hs]; simp [Ship.runGo, *]; done) | (refine ⟨by omega, by omega, hc0, hok, by omega, by omega, ?_⟩; rw [hs]; simp [Ship.runGo, *]; done))
  rw [h12]
  have g12 : ¬ (((c.doP a11).2) = 0) := by simpa using h12
  refine EL.condF (by kernel_rfl) ?_
  refine EL.skip ?_
  refine inBlk_norm ?_
  refine thenL_norm ?_
  refine EL.reg0 ?_
  refine OW.run 3 (x' := ⟨(9, VI (IntKind.i64.wrap ((k : Int) + 1))) :: (30, VI (IntKind.i64.wrap ((k : Int) + 1))) :: (seq27 k l n), [(seq13 c), seq1, (seq22 c a11)]⟩) (by kernel_rfl) ?_
  have e15 : IntKind.i64.wrap ((k : Int) + 1) = (k : Int) + 1 := wr64 (by omega)
  rw [e15]
  refine OW.end 0 (x' := ⟨(seq28 k l n), [(seq13 c), seq1, (seq22 c a11)]⟩) (by kernel_rfl) (by kernel_rfl) ?_
  refine thenL_norm ?_
  refine round_end (live := [1, 2, 4, 8, 9]) (src := [.old 0 false, .old 1 false]) (es := []) (y := (fun (k : Nat) (c : Ship) (n : Int) => (⟨(seq14 l n k), [(seq13 c), seq1]⟩ : L3)) (k + 1) c n) ?_ trivial ?_ ⟨(k + 1), c, n, rfl, ?_, rfl⟩
  kernel_rfl
  omega
  focus ((try rw [Ship.doP_0 hcc] at *); first | (refine ⟨by omega, by omega, hc0, Ship.step_ok hok ‹_›, by omega, by omega, ?_⟩; rw [hs]; simp [Ship.runGo, *]; done) | (refine ⟨by omega, by omega, hc0, hok, by omega, by omega, ?_⟩; rw [hs]; simp [Ship.runGo, *]; done))
  rw [h9]
  have g9 : ¬ ((k : Int) < (List.length l : Int)) := of_decide_eq_false h9
  have n9 : ¬ ((k) < (List.length l)) := by omega
  refine EL.condF (by kernel_rfl) ?_
  refine EL.exit ?_
  refine thenL_exit ?_
  refine thenL_exit ?_
  refine inBlk_hit ?_
  refine thenL_norm ?_
  refine EL.sreg ?_
  refine OW.last 5 [4, 5, 6] (x' := ⟨[(6, VI 0), (5, VI n), (4, .ref 1 8 0 0)], [(seq13 c), (seq13 c)]⟩) (by kernel_rfl) (by kernel_rfl) ?_
  refine EL.ret ?_
  refine ⟨.inr rfl, .tup [(seq16 c), VI n, VI 0], by kernel_rfl, Ale.of_eq ?_⟩
  focus (first | (rw [Ship.runP_n ‹_›]; rfl) | (rw [Ship.runP_2 ‹_› (by omega)]; rfl) | (rw [Ship.runP_0 hc0 (by omega), hs, List.drop_eq_nil_of_le (by omega)]; rfl))
def replay (b : List ByteArray) : List Record → List ByteArray
  | [] => b
  | r :: l => replay (if 0 ≤ r.block ∧ r.block < b.length then b.set r.block.toNat r.data else b) l
abbrev seq51 (k : Int) (n : Int) (d : ByteArray) : LS := [(6, .ref 0 3 0 0), (0, VI k), (1, VI n), (2, .v (.string d))]
theorem act_fn (k : Int) (n : Int) (d : ByteArray) : Fn Try.prog 24 [VI k, VI n, .v (.string d)] (.agg [VI ((⟨k, n, d⟩ : Act).kind), VI ((⟨k, n, d⟩ : Act).n), .v (.string ((⟨k, n, d⟩ : Act).data))]) := by
  refine fn_walkW F24_ok (of_decide_eq_true (by kernel_rfl)) ?_
  refine EL.sreg ?_
  refine OW.last 1 [0, 1, 2, 6] (x' := ⟨(seq51 k n d), [some ⟨3, [[VI 0, VI 0, .v (.string (⟨#[]⟩))]]⟩]⟩) (by kernel_rfl) (by kernel_rfl) ?_
  refine EL.sreg ?_
  refine OW.last 5 [6] (x' := ⟨[(6, .ref 0 3 0 0)], [some ⟨3, [[VI k, VI n, .v (.string d)]]⟩]⟩) (by kernel_rfl) (by kernel_rfl) ?_
  refine EL.ret ?_
  refine ⟨.inr rfl, .agg [VI k, VI n, .v (.string d)], by kernel_rfl, Ale.of_eq ?_⟩
  focus (rfl)
/-- Acts without a turn. -/
def noTurn (l : List Act) : List Act := l.filter (fun a => !(a.kind == 8))
def Ship.sailP (n : Int) (l : List Act) : Ship × Bool :=
  if (Ship.newP n).2 = 0 then (((Ship.newP n).1.runP (noTurn l)).1, ((Ship.newP n).1.runP (noTurn l)).2.2 == 0) else ((Ship.newP n).1, false)
end Go.Proofs.Ythdcanpbgaaneaa
