/- What the functions of package ship answer: what the document says of a step, of a run, of a log. No condition. -/
import Derived.Test.YthdcanpbgaaneaaPShipD
set_option maxRecDepth 100000
set_option maxHeartbeats 4000000
set_option linter.unusedVariables false
set_option linter.unusedSimpArgs false
namespace Go.Proofs.Ythdcanpbgaaneaa
abbrev seq0 (s : Ship) : OB := some ⟨8, [[.lst 1 (s.first.map cZ), .lst 1 (s.second.map cZ), .lst 2 (s.log.map Record.cs), VI s.sent, VI s.applied, VI s.known, .lst 1 (s.there.map cI), .lst 1 (s.back.map cI)]]⟩
abbrev seq1 : OB := some ⟨8, [[.emp, .emp, .emp, VI 0, VI 0, VI 0, .emp, .emp]]⟩
abbrev seq2 (s : Ship) (a : Act) : LB := [(seq0 s), some ⟨3, [[VI a.kind, VI a.n, .v (.string a.data)]]⟩, seq1]
abbrev seq3 : LS := [(4, .ref 2 8 0 0), (3, .ref 1 3 0 0), (2, .ref 0 8 0 0)]
abbrev seq4 (s : Ship) : AV := .agg [.lst 1 (s.first.map cZ), .lst 1 (s.second.map cZ), .lst 2 (s.log.map Record.cs), VI s.sent, VI s.applied, VI s.known, .lst 1 (s.there.map cI), .lst 1 (s.back.map cI)]
abbrev seq5 : AV := .agg [.lst 1 [], .lst 1 [], .lst 2 [], VI 0, VI 0, VI 0, .lst 1 [], .lst 1 []]
theorem rdoE_fn (s : Ship) (a : Act) (hx : s.first.length ≤ 9223372036854775807 ∧ s.second.length ≤ 9223372036854775807 ∧ s.log.length ≤ 9223372036854775807 ∧ s.there.length ≤ 9223372036854775807 ∧ s.back.length ≤ 9223372036854775807) (h0 : ¬ s.checkE = 0) : Fn Try.prog 14 [.agg [.lst 1 (s.first.map cZ), .lst 1 (s.second.map cZ), .lst 2 (s.log.map Record.cs), VI s.sent, VI s.applied, VI s.known, .lst 1 (s.there.map cI), .lst 1 (s.back.map cI)], .agg [VI a.kind, VI a.n, .v (.string a.data)]] (.tup [.agg [.lst 1 (Ship.zero.first.map cZ), .lst 1 (Ship.zero.second.map cZ), .lst 2 (Ship.zero.log.map Record.cs), VI Ship.zero.sent, VI Ship.zero.applied, VI Ship.zero.known, .lst 1 (Ship.zero.there.map cI), .lst 1 (Ship.zero.back.map cI)], VI s.checkE]) := by
  have hc : (s.checkE != 0) = true := by simpa using h0
  refine fn_walkW F14_ok (of_decide_eq_true (by kernel_rfl)) ?_
  refine EL.sreg ?_
  refine OW.last 4 [2, 3, 4] (x' := ⟨seq3, (seq2 s a)⟩) (by kernel_rfl) (by kernel_rfl) ?_
  refine EL.sreg ?_
  refine OW.run 1 (x' := ⟨(10, (seq4 s)) :: seq3, (seq2 s a)⟩) (by kernel_rfl) ?_
  refine OW.fn (ar := [(seq4 s)]) (x' := ⟨(11, VI s.checkE) :: (10, (seq4 s)) :: seq3, (seq2 s a)⟩) (by kernel_rfl) (by kernel_rfl) F18_call (rcheck_fn s hx) (by kernel_rfl) (by kernel_rfl) ?_
  refine OW.last 1 [2, 3, 4, 6] (x' := ⟨(6, VI s.checkE) :: seq3, (seq2 s a)⟩) (by kernel_rfl) (by kernel_rfl) ?_
  refine EL.seq ?_
  refine EL.sreg ?_
  refine OW.last 2 [2, 3, 4, 6, 13] (x' := ⟨(13, .v (.bool (s.checkE != 0))) :: (6, VI s.checkE) :: seq3, (seq2 s a)⟩) (by kernel_rfl) (by kernel_rfl) ?_
  rw [hc]
  refine EL.condT (by kernel_rfl) ?_
  refine EL.sreg ?_
  refine OW.last 4 [4, 5] (x' := ⟨[(5, VI s.checkE), (4, .ref 2 8 0 0)], (seq2 s a)⟩) (by kernel_rfl) (by kernel_rfl) ?_
  refine EL.ret ?_
  refine thenL_ret ?_
  refine ⟨.inr rfl, .tup [.agg [.emp, .emp, .emp, VI 0, VI 0, VI 0, .emp, .emp], VI s.checkE], by kernel_rfl, Ale.trans (b := .tup [seq5, VI s.checkE]) (Ale.tup (.cons (Ale.agg (.cons (Ale.emp) (.cons (Ale.emp) (.cons (Ale.emp) (.cons (Ale.refl) (.cons (Ale.refl) (.cons (Ale.refl) (.cons (Ale.emp) (.cons (Ale.emp) (.nil)))))))))) (.cons (Ale.refl) (.nil)))) (Ale.of_eq ?_)⟩
  focus (rfl)
abbrev seq6 (a : Act) (s : Ship) : LS := (17, VI a.kind) :: (16, .ref 1 3 0 0) :: (13, .v (.bool false)) :: (6, VI s.checkE) :: seq3
theorem rdoL_fn (s : Ship) (a : Act) (ok : s.Ok) (hk : a.kind < 1) : Fn Try.prog 14 [.agg [.lst 1 (s.first.map cZ), .lst 1 (s.second.map cZ), .lst 2 (s.log.map Record.cs), VI s.sent, VI s.applied, VI s.known, .lst 1 (s.there.map cI), .lst 1 (s.back.map cI)], .agg [VI a.kind, VI a.n, .v (.string a.data)]] (.tup [.agg [.lst 1 (Ship.zero.first.map cZ), .lst 1 (Ship.zero.second.map cZ), .lst 2 (Ship.zero.log.map Record.cs), VI Ship.zero.sent, VI Ship.zero.applied, VI Ship.zero.known, .lst 1 (Ship.zero.there.map cI), .lst 1 (Ship.zero.back.map cI)], VI 7]) := by
  have hx : s.first.length ≤ 9223372036854775807 ∧ s.second.length ≤ 9223372036854775807 ∧ s.log.length ≤ 9223372036854775807 ∧ s.there.length ≤ 9223372036854775807 ∧ s.back.length ≤ 9223372036854775807 := by have hh := ok.small; omega
  have hc0 := Ship.checkE_0.2 ok
  have hc : (s.checkE != 0) = false := by rw [hc0]; rfl
  have hk1 : decide (a.kind < 1) = true := decide_eq_true hk
  refine fn_walkW F14_ok (of_decide_eq_true (by kernel_rfl)) ?_
  refine EL.sreg ?_
  refine OW.last 4 [2, 3, 4] (x' := ⟨seq3, (seq2 s a)⟩) (by kernel_rfl) (by kernel_rfl) ?_
  refine EL.sreg ?_
  refine OW.run 1 (x' := ⟨(10, (seq4 s)) :: seq3, (seq2 s a)⟩) (by kernel_rfl) ?_
  refine OW.fn (ar := [(seq4 s)]) (x' := ⟨(11, VI s.checkE) :: (10, (seq4 s)) :: seq3, (seq2 s a)⟩) (by kernel_rfl) (by kernel_rfl) F18_call (rcheck_fn s hx) (by kernel_rfl) (by kernel_rfl) ?_
  refine OW.last 1 [2, 3, 4, 6] (x' := ⟨(6, VI s.checkE) :: seq3, (seq2 s a)⟩) (by kernel_rfl) (by kernel_rfl) ?_
  refine EL.seq ?_
  refine EL.sreg ?_
  refine OW.last 2 [2, 3, 4, 6, 13] (x' := ⟨(13, .v (.bool (s.checkE != 0))) :: (6, VI s.checkE) :: seq3, (seq2 s a)⟩) (by kernel_rfl) (by kernel_rfl) ?_
  rw [hc]
  refine EL.condF (by kernel_rfl) ?_
  refine EL.skip ?_
  refine thenL_norm ?_
  refine EL.seq ?_
  refine EL.sreg ?_
  refine OW.run 4 (x' := ⟨(19, .v (.bool (decide (a.kind < 1)))) :: (18, .v (.bool (decide (a.kind < 1)))) :: (seq6 a s), (seq2 s a)⟩) (by kernel_rfl) ?_
  rw [hk1]
  refine OW.last 4 [2, 3, 4, 23] (x' := ⟨(23, .v (.bool true)) :: seq3, (seq2 s a)⟩) (by kernel_rfl) (by kernel_rfl) ?_
  refine EL.condT (by kernel_rfl) ?_
  refine EL.sreg ?_
  refine OW.last 3 [4, 5] (x' := ⟨[(5, VI 7), (4, .ref 2 8 0 0)], (seq2 s a)⟩) (by kernel_rfl) (by kernel_rfl) ?_
  refine EL.ret ?_
  refine thenL_ret ?_
  refine ⟨.inr rfl, .tup [.agg [.emp, .emp, .emp, VI 0, VI 0, VI 0, .emp, .emp], VI 7], by kernel_rfl, Ale.trans (b := .tup [seq5, VI 7]) (Ale.tup (.cons (Ale.agg (.cons (Ale.emp) (.cons (Ale.emp) (.cons (Ale.emp) (.cons (Ale.refl) (.cons (Ale.refl) (.cons (Ale.refl) (.cons (Ale.emp) (.cons (Ale.emp) (.nil)))))))))) (.cons (Ale.refl) (.nil)))) (Ale.of_eq ?_)⟩
  focus (rfl)
theorem rdoG_fn (s : Ship) (a : Act) (ok : s.Ok) (hk : a.kind > 8) : Fn Try.prog 14 [.agg [.lst 1 (s.first.map cZ), .lst 1 (s.second.map cZ), .lst 2 (s.log.map Record.cs), VI s.sent, VI s.applied, VI s.known, .lst 1 (s.there.map cI), .lst 1 (s.back.map cI)], .agg [VI a.kind, VI a.n, .v (.string a.data)]] (.tup [.agg [.lst 1 (Ship.zero.first.map cZ), .lst 1 (Ship.zero.second.map cZ), .lst 2 (Ship.zero.log.map Record.cs), VI Ship.zero.sent, VI Ship.zero.applied, VI Ship.zero.known, .lst 1 (Ship.zero.there.map cI), .lst 1 (Ship.zero.back.map cI)], VI 7]) := by
  have hx : s.first.length ≤ 9223372036854775807 ∧ s.second.length ≤ 9223372036854775807 ∧ s.log.length ≤ 9223372036854775807 ∧ s.there.length ≤ 9223372036854775807 ∧ s.back.length ≤ 9223372036854775807 := by have hh := ok.small; omega
  have hc0 := Ship.checkE_0.2 ok
  have hc : (s.checkE != 0) = false := by rw [hc0]; rfl
  have hk1 : decide (a.kind < 1) = false := decide_eq_false (by omega)
  have hk2 : decide (a.kind > 8) = true := decide_eq_true hk
  refine fn_walkW F14_ok (of_decide_eq_true (by kernel_rfl)) ?_
  refine EL.sreg ?_
  refine OW.last 4 [2, 3, 4] (x' := ⟨seq3, (seq2 s a)⟩) (by kernel_rfl) (by kernel_rfl) ?_
  refine EL.sreg ?_
  refine OW.run 1 (x' := ⟨(10, (seq4 s)) :: seq3, (seq2 s a)⟩) (by kernel_rfl) ?_
  refine OW.fn (ar := [(seq4 s)]) (x' := ⟨(11, VI s.checkE) :: (10, (seq4 s)) :: seq3, (seq2 s a)⟩) (by kernel_rfl) (by kernel_rfl) F18_call (rcheck_fn s hx) (by kernel_rfl) (by kernel_rfl) ?_
  refine OW.last 1 [2, 3, 4, 6] (x' := ⟨(6, VI s.checkE) :: seq3, (seq2 s a)⟩) (by kernel_rfl) (by kernel_rfl) ?_
  refine EL.seq ?_
  refine EL.sreg ?_
  refine OW.last 2 [2, 3, 4, 6, 13] (x' := ⟨(13, .v (.bool (s.checkE != 0))) :: (6, VI s.checkE) :: seq3, (seq2 s a)⟩) (by kernel_rfl) (by kernel_rfl) ?_
  rw [hc]
  refine EL.condF (by kernel_rfl) ?_
  refine EL.skip ?_
  refine thenL_norm ?_
  refine EL.seq ?_
  refine EL.sreg ?_
  refine OW.run 4 (x' := ⟨(19, .v (.bool (decide (a.kind < 1)))) :: (18, .v (.bool (decide (a.kind < 1)))) :: (seq6 a s), (seq2 s a)⟩) (by kernel_rfl) ?_
  rw [hk1]
  refine OW.last 4 [2, 3, 4, 23] (x' := ⟨(23, .v (.bool (decide (a.kind > 8)))) :: seq3, (seq2 s a)⟩) (by kernel_rfl) (by kernel_rfl) ?_
  rw [hk2]
  refine EL.condT (by kernel_rfl) ?_
  refine EL.sreg ?_
  refine OW.last 3 [4, 5] (x' := ⟨[(5, VI 7), (4, .ref 2 8 0 0)], (seq2 s a)⟩) (by kernel_rfl) (by kernel_rfl) ?_
  refine EL.ret ?_
  refine thenL_ret ?_
  refine ⟨.inr rfl, .tup [.agg [.emp, .emp, .emp, VI 0, VI 0, VI 0, .emp, .emp], VI 7], by kernel_rfl, Ale.trans (b := .tup [seq5, VI 7]) (Ale.tup (.cons (Ale.agg (.cons (Ale.emp) (.cons (Ale.emp) (.cons (Ale.emp) (.cons (Ale.refl) (.cons (Ale.refl) (.cons (Ale.refl) (.cons (Ale.emp) (.cons (Ale.emp) (.nil)))))))))) (.cons (Ale.refl) (.nil)))) (Ale.of_eq ?_)⟩
  focus (rfl)
theorem rdo_fn (s : Ship) (a : Act) (hx : s.first.length ≤ 9223372036854775807 ∧ s.second.length ≤ 9223372036854775807 ∧ s.log.length ≤ 9223372036854775807 ∧ s.there.length ≤ 9223372036854775807 ∧ s.back.length ≤ 9223372036854775807) : Fn Try.prog 14 [.agg [.lst 1 (s.first.map cZ), .lst 1 (s.second.map cZ), .lst 2 (s.log.map Record.cs), VI s.sent, VI s.applied, VI s.known, .lst 1 (s.there.map cI), .lst 1 (s.back.map cI)], .agg [VI a.kind, VI a.n, .v (.string a.data)]] (.tup [.agg [.lst 1 ((s.doP a).1.first.map cZ), .lst 1 ((s.doP a).1.second.map cZ), .lst 2 ((s.doP a).1.log.map Record.cs), VI (s.doP a).1.sent, VI (s.doP a).1.applied, VI (s.doP a).1.known, .lst 1 ((s.doP a).1.there.map cI), .lst 1 ((s.doP a).1.back.map cI)], VI (s.doP a).2]) := by
  by_cases h0 : s.checkE = 0
  · have ok := Ship.checkE_0.1 h0
    rw [Ship.doP_0 h0]
    by_cases hk : 1 ≤ a.kind ∧ a.kind ≤ 8
    · obtain ⟨k, n, d⟩ := a
      simp only at hk
      have : k = 1 ∨ k = 2 ∨ k = 3 ∨ k = 4 ∨ k = 5 ∨ k = 6 ∨ k = 7 ∨ k = 8 := by omega
      rcases this with rfl | rfl | rfl | rfl | rfl | rfl | rfl | rfl
      · exact rdo1_fn s n d ok
      · exact rdo2_fn s n d ok
      · exact rdo3_fn s n d ok
      · exact rdo4_fn s n d ok
      · exact rdo5_fn s n d ok
      · exact rdo6_fn s n d ok
      · exact rdo7_fn s n d ok
      · exact rdo8_fn s n d ok
    · have e : s.stepP a = (Ship.zero, 7) := by simp [Ship.stepP, hk]
      rw [e]
      by_cases hk2 : a.kind < 1
      · exact rdoL_fn s a ok hk2
      · exact rdoG_fn s a ok (by omega)
  · rw [Ship.doP_n h0]
    exact rdoE_fn s a hx h0
abbrev seq51 (k : Int) (n : Int) (d : ByteArray) : LS := [(6, .ref 0 3 0 0), (0, VI k), (1, VI n), (2, .v (.string d))]
theorem act_fn (k : Int) (n : Int) (d : ByteArray) : Fn Try.prog 24 [VI k, VI n, .v (.string d)] (.agg [VI ((⟨k, n, d⟩ : Act).kind), VI ((⟨k, n, d⟩ : Act).n), .v (.string ((⟨k, n, d⟩ : Act).data))]) := by
  refine fn_walkW F24_ok (of_decide_eq_true (by kernel_rfl)) ?_
  refine EL.sreg ?_
  refine OW.last 1 [0, 1, 2, 6] (x' := ⟨(seq51 k n d), [some ⟨3, [[VI 0, VI 0, .v (.string (⟨#[]⟩))]]⟩]⟩) (by kernel_rfl) (by kernel_rfl) ?_
  refine EL.sreg ?_
  refine OW.last 5 [6] (x' := ⟨[(6, .ref 0 3 0 0)], [some ⟨3, [[VI k, VI n, .v (.string d)]]⟩]⟩) (by kernel_rfl) (by kernel_rfl) ?_
  refine EL.ret ?_
  refine ⟨.inr rfl, .agg [VI k, VI n, .v (.string d)], by kernel_rfl, Ale.of_eq ?_⟩
  focus (rfl)
/-- Acts without a turn. -/
def noTurn (l : List Act) : List Act := l.filter (fun a => !(a.kind == 8))
def Ship.sailP (n : Int) (l : List Act) : Ship × Bool :=
  if (Ship.newP n).2 = 0 then (((Ship.newP n).1.runP (noTurn l)).1, ((Ship.newP n).1.runP (noTurn l)).2.2 == 0) else ((Ship.newP n).1, false)
end Go.Proofs.Ythdcanpbgaaneaa
