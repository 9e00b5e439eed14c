/- What the functions of package ship answer: a step, Do, Run and what the document says of them. No condition. -/
import Derived.Test.YthdcanpbgaaneaaPShipB
import Derived.Test.YthdcanpbgaaneaaPShipBB
set_option maxRecDepth 100000
set_option maxHeartbeats 4000000
set_option linter.unusedVariables false
set_option linter.unusedSimpArgs false
namespace Go.Proofs.Ythdcanpbgaaneaa
abbrev scq0 (s : Ship) : OB := some ⟨8, [[.lst 1 (s.first.map cZ), .lst 1 (s.second.map cZ), .lst 2 (s.log.map Record.cs), VI s.sent, VI s.applied, VI s.known, .lst 1 (s.there.map cI), .lst 1 (s.back.map cI)]]⟩
abbrev scq1 : OB := some ⟨8, [[.emp, .emp, .emp, VI 0, VI 0, VI 0, .emp, .emp]]⟩
abbrev scq2 (s : Ship) (a : Act) : LB := [(scq0 s), some ⟨3, [[VI a.kind, VI a.n, .v (.string a.data)]]⟩, scq1]
abbrev scq3 : LS := [(4, .ref 2 8 0 0), (3, .ref 1 3 0 0), (2, .ref 0 8 0 0)]
abbrev scq4 (s : Ship) : AV := .agg [.lst 1 (s.first.map cZ), .lst 1 (s.second.map cZ), .lst 2 (s.log.map Record.cs), VI s.sent, VI s.applied, VI s.known, .lst 1 (s.there.map cI), .lst 1 (s.back.map cI)]
abbrev scq5 (s : Ship) (a : Act) : LB := [(scq0 s), some ⟨3, [[VI a.kind, VI a.n, .v (.string a.data)]]⟩, scq1, (scq0 s), scq1]
abbrev scq6 (s : Ship) : LS := [(4, .lst 1 (s.first.map cZ)), (3, .ref 3 8 0 0), (2, .ref 4 8 0 0), (1, .ref 3 8 0 0)]
abbrev scq7 (s : Ship) (a : Act) : LB := [(scq0 s), some ⟨3, [[VI a.kind, VI a.n, .v (.string a.data)]]⟩, scq1, (scq0 s), scq1, some ⟨1, (s.first.map cZ)⟩]
abbrev scq8 (s : Ship) : LS := (7, .lst 1 (s.second.map cZ)) :: (6, .ref 3 8 0 1) :: (5, .own 5 1 0 (List.length s.first)) :: (scq6 s)
abbrev scq9 (s : Ship) (a : Act) : LB := [(scq0 s), some ⟨3, [[VI a.kind, VI a.n, .v (.string a.data)]]⟩, scq1, (scq0 s), scq1, some ⟨1, (s.first.map cZ)⟩, some ⟨1, (s.second.map cZ)⟩]
abbrev scq10 (s : Ship) : LS := (10, .lst 2 (s.log.map Record.cs)) :: (9, .ref 3 8 0 2) :: (8, .own 6 1 0 (List.length s.second)) :: (scq8 s)
abbrev scq11 (s : Ship) (a : Act) : LB := [(scq0 s), some ⟨3, [[VI a.kind, VI a.n, .v (.string a.data)]]⟩, scq1, (scq0 s), scq1, some ⟨1, (s.first.map cZ)⟩, some ⟨1, (s.second.map cZ)⟩, some ⟨2, (s.log.map Record.cs)⟩]
abbrev scq12 (s : Ship) : OB := some ⟨8, [[.own 5 1 0 (List.length s.first), .own 6 1 0 (List.length s.second), .own 7 2 0 (List.length s.log), VI s.sent, VI s.applied, VI s.known, .lst 1 (s.there.map cI), .lst 1 (s.back.map cI)]]⟩
abbrev scq13 (s : Ship) (a : Act) : LB := [(scq0 s), some ⟨3, [[VI a.kind, VI a.n, .v (.string a.data)]]⟩, scq1, (scq12 s), scq1, some ⟨1, (s.first.map cZ)⟩, some ⟨1, (s.second.map cZ)⟩, some ⟨2, (s.log.map Record.cs)⟩]
abbrev scq14 (s : Ship) : LS := [(16, .lst 1 (s.there.map cI)), (15, .ref 3 8 0 6), (2, .ref 4 8 0 0), (1, .ref 3 8 0 0)]
abbrev scq15 (s : Ship) (a : Act) : LB := [(scq0 s), some ⟨3, [[VI a.kind, VI a.n, .v (.string a.data)]]⟩, scq1, (scq12 s), scq1, some ⟨1, (s.first.map cZ)⟩, some ⟨1, (s.second.map cZ)⟩, some ⟨2, (s.log.map Record.cs)⟩, some ⟨1, (s.there.map cI)⟩]
abbrev scq16 (s : Ship) : LS := (19, .lst 1 (s.back.map cI)) :: (18, .ref 3 8 0 7) :: (17, .own 8 1 0 (List.length s.there)) :: (scq14 s)
abbrev scq17 (s : Ship) (a : Act) : LB := [(scq0 s), some ⟨3, [[VI a.kind, VI a.n, .v (.string a.data)]]⟩, scq1, (scq12 s), scq1, some ⟨1, (s.first.map cZ)⟩, some ⟨1, (s.second.map cZ)⟩, some ⟨2, (s.log.map Record.cs)⟩, some ⟨1, (s.there.map cI)⟩, some ⟨1, (s.back.map cI)⟩]
abbrev scq18 (s : Ship) : OB := some ⟨8, [[.own 5 1 0 (List.length s.first), .own 6 1 0 (List.length s.second), .own 7 2 0 (List.length s.log), VI s.sent, VI s.applied, VI s.known, .own 8 1 0 (List.length s.there), .own 9 1 0 (List.length s.back)]]⟩
abbrev scq19 (s : Ship) (a : Act) : LB := [(scq0 s), some ⟨3, [[VI a.kind, VI a.n, .v (.string a.data)]]⟩, scq1, (scq18 s), scq1, some ⟨1, (s.first.map cZ)⟩, some ⟨1, (s.second.map cZ)⟩, some ⟨2, (s.log.map Record.cs)⟩, some ⟨1, (s.there.map cI)⟩, some ⟨1, (s.back.map cI)⟩]
abbrev scq20 (s : Ship) (a : Act) : LB := [(scq0 s), some ⟨3, [[VI a.kind, VI a.n, .v (.string a.data)]]⟩, scq1, (scq18 s), (scq18 s), some ⟨1, (s.first.map cZ)⟩, some ⟨1, (s.second.map cZ)⟩, some ⟨2, (s.log.map Record.cs)⟩, some ⟨1, (s.there.map cI)⟩, some ⟨1, (s.back.map cI)⟩]
abbrev scq21 (s : Ship) : AV := .agg [.own 4 1 0 (List.length s.first), .own 5 1 0 (List.length s.second), .own 6 2 0 (List.length s.log), VI s.sent, VI s.applied, VI s.known, .own 7 1 0 (List.length s.there), .own 8 1 0 (List.length s.back)]
abbrev scq22 (s : Ship) : OB := some ⟨8, [[.own 4 1 0 (List.length s.first), .own 5 1 0 (List.length s.second), .own 6 2 0 (List.length s.log), VI s.sent, VI s.applied, VI s.known, .own 7 1 0 (List.length s.there), .own 8 1 0 (List.length s.back)]]⟩
abbrev scq23 (s : Ship) (a : Act) : LB := [(scq0 s), some ⟨3, [[VI a.kind, VI a.n, .v (.string a.data)]]⟩, scq1, (scq22 s), some ⟨1, (s.first.map cZ)⟩, some ⟨1, (s.second.map cZ)⟩, some ⟨2, (s.log.map Record.cs)⟩, some ⟨1, (s.there.map cI)⟩, some ⟨1, (s.back.map cI)⟩]
abbrev scq24 (s : Ship) (a : Act) : LB := [(scq0 s), some ⟨3, [[VI a.kind, VI a.n, .v (.string a.data)]]⟩, scq1, (scq22 s), some ⟨1, (s.first.map cZ)⟩, some ⟨1, (s.second.map cZ)⟩, some ⟨2, (s.log.map Record.cs)⟩, some ⟨1, (s.there.map cI)⟩, some ⟨1, (s.back.map cI)⟩, (scq22 s)]
abbrev scq25 : LS := [(6, .ref 9 8 0 0), (4, .ref 2 8 0 0), (3, .ref 1 3 0 0)]
abbrev scq26 (a : Act) : LS := (17, VI a.kind) :: (16, .ref 1 3 0 0) :: (15, .ref 9 8 0 0) :: scq25
abbrev scq27 : OB := some ⟨9, [[.v (.nilFunc), .bf 73 [.ref 9 8 0 0], .bf 74 [.ref 9 8 0 0], .bf 75 [.ref 9 8 0 0], .bf 76 [.ref 9 8 0 0], .bf 77 [.ref 9 8 0 0], .bf 78 [.ref 9 8 0 0], .bf 79 [.ref 9 8 0 0], .bf 80 [.ref 9 8 0 0]]]⟩
abbrev scq28 (s : Ship) (a : Act) : LB := [(scq0 s), some ⟨3, [[VI a.kind, VI a.n, .v (.string a.data)]]⟩, scq1, (scq22 s), some ⟨1, (s.first.map cZ)⟩, some ⟨1, (s.second.map cZ)⟩, some ⟨2, (s.log.map Record.cs)⟩, some ⟨1, (s.there.map cI)⟩, some ⟨1, (s.back.map cI)⟩, (scq22 s), scq27]
abbrev scq29 (a : Act) : LS := [(24, VI a.kind), (6, .ref 10 9 0 0), (1, VI a.kind)]
abbrev scq30 (a : Act) : LS := (18, .tup [.v (.nilFunc), .v (.bool false)]) :: (scq26 a)
abbrev scq31 : LS := (24, .v (.bool true)) :: (8, .v (.bool false)) :: (7, .v (.nilFunc)) :: scq25
abbrev scq32 : LS := [(44, .v (.bool true)), (9, VI 7), (6, .ref 9 8 0 0), (4, .ref 2 8 0 0)]
abbrev scq33 : AV := .agg [.lst 1 [], .lst 1 [], .lst 2 [], VI 0, VI 0, VI 0, .lst 1 [], .lst 1 []]
theorem step0_fn (s : Ship) (a : Act) (ok : s.Ok) (hk : ¬ (1 ≤ a.kind ∧ a.kind ≤ 8)) : Fn Try.prog 32 [.agg [.lst 1 (s.first.map cZ), .lst 1 (s.second.map cZ), .lst 2 (s.log.map Record.cs), VI s.sent, VI s.applied, VI s.known, .lst 1 (s.there.map cI), .lst 1 (s.back.map cI)], .agg [VI a.kind, VI a.n, .v (.string a.data)]] (.tup [.agg [.lst 1 ((((s.stepP a).1).first).map cZ), .lst 1 ((((s.stepP a).1).second).map cZ), .lst 2 ((((s.stepP a).1).log).map Record.cs), VI (((s.stepP a).1).sent), VI (((s.stepP a).1).applied), VI (((s.stepP a).1).known), .lst 1 ((((s.stepP a).1).there).map cI), .lst 1 ((((s.stepP a).1).back).map cI)], VI ((s.stepP a).2)]) := by
  obtain ⟨⟨a1, a2⟩, b1, c1, c2, ⟨d1, d2, d3⟩, ee, ⟨k1, k2, k3, k4, k5⟩, tt, bb⟩ := ok
  have hw : wi a.kind 1 8 = false := by cases h : wi a.kind 1 8 with | false => rfl | true => exact absurd (wi_iff.1 h) hk
  refine fn_walkW F32_ok (of_decide_eq_true (by kernel_rfl)) ?_
  refine EL.sreg ?_
  refine OW.last 4 [2, 3, 4] (x' := ⟨scq3, (scq2 s a)⟩) (by kernel_rfl) (by kernel_rfl) ?_
  refine EL.sreg ?_
  refine OW.run 1 (x' := ⟨(10, (scq4 s)) :: scq3, (scq2 s a)⟩) (by kernel_rfl) ?_
  refine OW.fi (ar := [(scq4 s)]) (r := (scq21 s)) (m' := (scq23 s a)) (x' := ⟨(11, (scq21 s)) :: (10, (scq4 s)) :: scq3, (scq23 s a)⟩) (by kernel_rfl) (by kernel_rfl) F42_call ?_ (by kernel_rfl) ?_
  refine fi_walkW F42_ok (of_decide_eq_true (by kernel_rfl)) ?_
  refine EL.sreg ?_
  refine OW.last 2 [1, 2] (x' := ⟨[(2, .ref 4 8 0 0), (1, .ref 3 8 0 0)], (scq5 s a)⟩) (by kernel_rfl) (by kernel_rfl) ?_
  refine EL.sdraw ?_
  refine DW.run 2 (x' := ⟨(scq6 s), (scq5 s a)⟩) (by kernel_rfl) ?_
  refine DW.fo (ar := [.lst 1 (s.first.map cZ)]) (fe := cZ) (xs := s.first) (x' := ⟨(5, .own 5 1 0 (List.length s.first)) :: (scq6 s), (scq7 s a)⟩) (by kernel_rfl) (by kernel_rfl) F61_call (cloneZ_fo s.first (by omega)) (by intro y; kernel_rfl) (by kernel_rfl) (by kernel_rfl) ?_
  refine DW.run 2 (x' := ⟨(scq8 s), (scq7 s a)⟩) (by kernel_rfl) ?_
  refine DW.fo (ar := [.lst 1 (s.second.map cZ)]) (fe := cZ) (xs := s.second) (x' := ⟨(8, .own 6 1 0 (List.length s.second)) :: (scq8 s), (scq9 s a)⟩) (by kernel_rfl) (by kernel_rfl) F61_call (cloneZ_fo s.second (by omega)) (by intro y; kernel_rfl) (by kernel_rfl) (by kernel_rfl) ?_
  refine DW.run 2 (x' := ⟨(scq10 s), (scq9 s a)⟩) (by kernel_rfl) ?_
  refine DW.fo (ar := [.lst 2 (s.log.map Record.cs)]) (fe := Record.cs) (xs := s.log) (x' := ⟨(11, .own 7 2 0 (List.length s.log)) :: (scq10 s), (scq11 s a)⟩) (by kernel_rfl) (by kernel_rfl) F62_call (cloneR_fo s.log (by omega)) (by intro y; kernel_rfl) (by kernel_rfl) (by kernel_rfl) ?_
  refine DW.last 6 [1, 2] (x' := ⟨[(2, .ref 4 8 0 0), (1, .ref 3 8 0 0)], (scq13 s a)⟩) (by kernel_rfl) (by kernel_rfl) ?_
  refine EL.sdraw ?_
  refine DW.run 2 (x' := ⟨(scq14 s), (scq13 s a)⟩) (by kernel_rfl) ?_
  refine DW.fo (ar := [.lst 1 (s.there.map cI)]) (fe := cI) (xs := s.there) (x' := ⟨(17, .own 8 1 0 (List.length s.there)) :: (scq14 s), (scq15 s a)⟩) (by kernel_rfl) (by kernel_rfl) F50_call (cloneI_fo s.there (by omega)) (by intro y; kernel_rfl) (by kernel_rfl) (by kernel_rfl) ?_
  refine DW.run 2 (x' := ⟨(scq16 s), (scq15 s a)⟩) (by kernel_rfl) ?_
  refine DW.fo (ar := [.lst 1 (s.back.map cI)]) (fe := cI) (xs := s.back) (x' := ⟨(20, .own 9 1 0 (List.length s.back)) :: (scq16 s), (scq17 s a)⟩) (by kernel_rfl) (by kernel_rfl) F50_call (cloneI_fo s.back (by omega)) (by intro y; kernel_rfl) (by kernel_rfl) (by kernel_rfl) ?_
  refine DW.last 4 [1, 2] (x' := ⟨[(2, .ref 4 8 0 0), (1, .ref 3 8 0 0)], (scq19 s a)⟩) (by kernel_rfl) (by kernel_rfl) ?_
  refine EL.sreg ?_
  refine OW.last 2 [2] (x' := ⟨[(2, .ref 4 8 0 0)], (scq20 s a)⟩) (by kernel_rfl) (by kernel_rfl) ?_
  refine EL.ret ?_
  refine ⟨.inr rfl, ⟨[(2, .ref 3 8 0 0)], (scq23 s a)⟩, norm_le (live := [2]) (src := [.old 0 false, .old 1 false, .old 2 false, .old 4 false, .old 5 true, .old 6 true, .old 7 true, .old 8 true, .old 9 true]) (es := []) (by kernel_rfl) ⟨pucZ s.first (by kernel_rfl), pucZ s.second (by kernel_rfl), pu 2 Record.cs s.log (by kernel_rfl) (by intro y; kernel_rfl), pucI s.there (by kernel_rfl), pucI s.back (by kernel_rfl), trivial⟩, by kernel_rfl, rfl⟩
  refine OW.last 3 [3, 4, 6] (x' := ⟨scq25, (scq24 s a)⟩) (by kernel_rfl) (by kernel_rfl) ?_
  refine EL.sreg ?_
  refine OW.run 3 (x' := ⟨(scq26 a), (scq24 s a)⟩) (by kernel_rfl) ?_
  refine OW.fi (ar := [.ref 9 8 0 0, VI a.kind]) (r := .tup [.v (.nilFunc), .v (.bool false)]) (m' := (scq24 s a)) (x' := ⟨(scq30 a), (scq24 s a)⟩) (by kernel_rfl) (by kernel_rfl) F58_call ?_ (by kernel_rfl) ?_
  refine fi_walkW F58_ok (of_decide_eq_true (by kernel_rfl)) ?_
  refine EL.sreg ?_
  refine OW.last 2 [0, 1] (x' := ⟨[(0, .ref 9 8 0 0), (1, VI a.kind)], (scq24 s a)⟩) (by kernel_rfl) (by kernel_rfl) ?_
  refine EL.sreg ?_
  refine OW.last 19 [1, 6] (x' := ⟨[(6, .ref 10 9 0 0), (1, VI a.kind)], (scq28 s a)⟩) (by kernel_rfl) (by kernel_rfl) ?_
  refine EL.seq ?_
  refine EL.sreg ?_
  refine OW.run 1 (x' := ⟨(scq29 a), (scq28 s a)⟩) (by kernel_rfl) ?_
  refine OW.fn (ar := [VI a.kind, VI 1, VI 8]) (x' := ⟨(25, .v (.bool (wi a.kind 1 8))) :: (scq29 a), (scq28 s a)⟩) (by kernel_rfl) (by kernel_rfl) F31_call (within_fn a.kind 1 8) (by kernel_rfl) (by kernel_rfl) ?_
  refine OW.last 1 [1, 6, 26] (x' := ⟨[(26, .v (.bool (!(wi a.kind 1 8)))), (6, .ref 10 9 0 0), (1, VI a.kind)], (scq28 s a)⟩) (by kernel_rfl) (by kernel_rfl) ?_
  rw [hw]
  refine EL.condT (by kernel_rfl) ?_
  refine EL.sreg ?_
  refine OW.last 2 [4, 5] (x' := ⟨[(5, .v (.bool false)), (4, .v (.nilFunc))], (scq28 s a)⟩) (by kernel_rfl) (by kernel_rfl) ?_
  refine EL.ret ?_
  refine thenL_ret ?_
  refine ⟨.inr rfl, ⟨[(4, .v (.nilFunc)), (5, .v (.bool false))], (scq24 s a)⟩, norm_le (live := [4, 5]) (src := [.old 0 false, .old 1 false, .old 2 false, .old 3 false, .old 4 true, .old 5 true, .old 6 true, .old 7 true, .old 8 true, .old 9 false]) (es := []) (by kernel_rfl) ⟨pucZ s.first (by kernel_rfl), pucZ s.second (by kernel_rfl), pu 2 Record.cs s.log (by kernel_rfl) (by intro y; kernel_rfl), pucI s.there (by kernel_rfl), pucI s.back (by kernel_rfl), trivial⟩, by kernel_rfl, rfl⟩
  refine OW.last 5 [3, 4, 6, 7, 8] (x' := ⟨(8, .v (.bool false)) :: (7, .v (.nilFunc)) :: scq25, (scq24 s a)⟩) (by kernel_rfl) (by kernel_rfl) ?_
  refine EL.sreg ?_
  refine OW.last 1 [3, 4, 6, 7, 8] (x' := ⟨(8, .v (.bool false)) :: (7, .v (.nilFunc)) :: scq25, (scq24 s a)⟩) (by kernel_rfl) (by kernel_rfl) ?_
  refine EL.seq ?_
  refine EL.block ?_
  refine EL.sreg ?_
  refine OW.last 3 [3, 4, 6, 7, 8, 24] (x' := ⟨scq31, (scq24 s a)⟩) (by kernel_rfl) (by kernel_rfl) ?_
  refine EL.condT (by kernel_rfl) ?_
  refine EL.reg0 ?_
  refine OW.end 1 (x' := ⟨(9, VI 7) :: scq31, (scq24 s a)⟩) (by kernel_rfl) (by kernel_rfl) ?_
  refine inBlk_norm ?_
  refine thenL_norm ?_
  refine EL.seq ?_
  refine EL.sreg ?_
  refine OW.last 2 [4, 6, 9, 44] (x' := ⟨scq32, (scq24 s a)⟩) (by kernel_rfl) (by kernel_rfl) ?_
  refine EL.condT (by kernel_rfl) ?_
  refine EL.sreg ?_
  refine OW.last 4 [4, 5] (x' := ⟨[(5, VI 7), (4, .ref 2 8 0 0)], (scq24 s a)⟩) (by kernel_rfl) (by kernel_rfl) ?_
  refine EL.ret ?_
  refine thenL_ret ?_
  refine ⟨.inr rfl, .tup [.agg [.emp, .emp, .emp, VI 0, VI 0, VI 0, .emp, .emp], VI 7], by kernel_rfl, Ale.trans (b := .tup [scq33, VI 7]) (Ale.tup (.cons (Ale.agg (.cons (Ale.emp) (.cons (Ale.emp) (.cons (Ale.emp) (.cons (Ale.refl) (.cons (Ale.refl) (.cons (Ale.refl) (.cons (Ale.emp) (.cons (Ale.emp) (.nil)))))))))) (.cons (Ale.refl) (.nil)))) (Ale.of_eq ?_)⟩
  focus (simp [Ship.stepP, Ship.zero, hk])
theorem step_fn (s : Ship) (a : Act) (ok : s.Ok) : Fn Try.prog 32 [.agg [.lst 1 (s.first.map cZ), .lst 1 (s.second.map cZ), .lst 2 (s.log.map Record.cs), VI s.sent, VI s.applied, VI s.known, .lst 1 (s.there.map cI), .lst 1 (s.back.map cI)], .agg [VI a.kind, VI a.n, .v (.string a.data)]] (.tup [.agg [.lst 1 ((s.stepP a).1.first.map cZ), .lst 1 ((s.stepP a).1.second.map cZ), .lst 2 ((s.stepP a).1.log.map Record.cs), VI (s.stepP a).1.sent, VI (s.stepP a).1.applied, VI (s.stepP a).1.known, .lst 1 ((s.stepP a).1.there.map cI), .lst 1 ((s.stepP a).1.back.map cI)], VI (s.stepP a).2]) := by
  by_cases hk : 1 ≤ a.kind ∧ a.kind ≤ 8
  · obtain ⟨k, n, d⟩ := a
    simp only at hk
    have : k = 1 ∨ k = 2 ∨ k = 3 ∨ k = 4 ∨ k = 5 ∨ k = 6 ∨ k = 7 ∨ k = 8 := by omega
    rcases this with rfl | rfl | rfl | rfl | rfl | rfl | rfl | rfl
    · exact step1_fn s n d ok
    · exact step2_fn s n d ok
    · exact step3_fn s n d ok
    · exact step4_fn s n d ok
    · exact step5_fn s n d ok
    · exact step6_fn s n d ok
    · exact step7_fn s n d ok
    · exact step8_fn s n d ok
  · exact step0_fn s a ok hk
def Ship.doP (s : Ship) (a : Act) : Ship × Int := if s.checkE = 0 then s.stepP a else (Ship.zero, s.checkE)
theorem Ship.doP_0 {s : Ship} {a : Act} (h : s.checkE = 0) : s.doP a = s.stepP a := if_pos h
theorem Ship.doP_n {s : Ship} {a : Act} (h : ¬ s.checkE = 0) : s.doP a = (Ship.zero, s.checkE) := if_neg h
def Ship.runGo : Ship → List Act → Int → Ship × Int
  | s, [], n => (s, n)
  | s, a :: l, n => if (s.stepP a).2 = 0 then runGo (s.stepP a).1 l (n + 1) else runGo s l n
def Ship.runP (s : Ship) (l : List Act) : Ship × Int × Int :=
  if s.checkE = 0 then (if l.length > 200 then (Ship.zero, 0, 2) else ((s.runGo l 0).1, (s.runGo l 0).2, 0)) else (Ship.zero, 0, s.checkE)
abbrev scq34 (a : Act) (s : Ship) : LS := (14, .agg [VI a.kind, VI a.n, .v (.string a.data)]) :: (13, (scq4 s)) :: (10, .v (.bool false)) :: (6, VI s.checkE) :: scq3
abbrev scq35 (s : Ship) (a : Act) : AV := .agg [.lst 1 ((((s.stepP a).1).first).map cZ), .lst 1 ((((s.stepP a).1).second).map cZ), .lst 2 ((((s.stepP a).1).log).map Record.cs), VI (((s.stepP a).1).sent), VI (((s.stepP a).1).applied), VI (((s.stepP a).1).known), .lst 1 ((((s.stepP a).1).there).map cI), .lst 1 ((((s.stepP a).1).back).map cI)]
abbrev scq36 (s : Ship) (a : Act) : LS := (15, .tup [(scq35 s a), VI ((s.stepP a).2)]) :: (scq34 a s)
abbrev scq37 (s : Ship) (a : Act) : OB := some ⟨8, [[.lst 1 ((((s.stepP a).1).first).map cZ), .lst 1 ((((s.stepP a).1).second).map cZ), .lst 2 ((((s.stepP a).1).log).map Record.cs), VI (((s.stepP a).1).sent), VI (((s.stepP a).1).applied), VI (((s.stepP a).1).known), .lst 1 ((((s.stepP a).1).there).map cI), .lst 1 ((((s.stepP a).1).back).map cI)]]⟩
abbrev scq38 (s : Ship) (a : Act) : LB := [(scq0 s), some ⟨3, [[VI a.kind, VI a.n, .v (.string a.data)]]⟩, (scq37 s a)]
theorem do_fn (s : Ship) (a : Act) (hx : s.first.length ≤ 9223372036854775807 ∧ s.second.length ≤ 9223372036854775807 ∧ s.log.length ≤ 9223372036854775807 ∧ s.there.length ≤ 9223372036854775807 ∧ s.back.length ≤ 9223372036854775807) : Fn Try.prog 12 [.agg [.lst 1 (s.first.map cZ), .lst 1 (s.second.map cZ), .lst 2 (s.log.map Record.cs), VI s.sent, VI s.applied, VI s.known, .lst 1 (s.there.map cI), .lst 1 (s.back.map cI)], .agg [VI a.kind, VI a.n, .v (.string a.data)]] (.tup [.agg [.lst 1 ((((s.doP a).1).first).map cZ), .lst 1 ((((s.doP a).1).second).map cZ), .lst 2 ((((s.doP a).1).log).map Record.cs), VI (((s.doP a).1).sent), VI (((s.doP a).1).applied), VI (((s.doP a).1).known), .lst 1 ((((s.doP a).1).there).map cI), .lst 1 ((((s.doP a).1).back).map cI)], VI ((s.doP a).2)]) := by
  refine fn_walkW F12_ok (of_decide_eq_true (by kernel_rfl)) ?_
  refine EL.sreg ?_
  refine OW.last 4 [2, 3, 4] (x' := ⟨scq3, (scq2 s a)⟩) (by kernel_rfl) (by kernel_rfl) ?_
  refine EL.seq ?_
  refine EL.sreg ?_
  refine OW.run 1 (x' := ⟨(7, (scq4 s)) :: scq3, (scq2 s a)⟩) (by kernel_rfl) ?_
  refine OW.fn (ar := [(scq4 s)]) (x' := ⟨(8, VI s.checkE) :: (7, (scq4 s)) :: scq3, (scq2 s a)⟩) (by kernel_rfl) (by kernel_rfl) F17_call (check_fn s hx) (by kernel_rfl) (by kernel_rfl) ?_
  refine OW.last 1 [2, 3, 4, 6] (x' := ⟨(6, VI s.checkE) :: scq3, (scq2 s a)⟩) (by kernel_rfl) (by kernel_rfl) ?_
  refine EL.sreg ?_
  refine OW.last 2 [2, 3, 4, 6, 10] (x' := ⟨(10, .v (.bool (s.checkE != 0))) :: (6, VI s.checkE) :: scq3, (scq2 s a)⟩) (by kernel_rfl) (by kernel_rfl) ?_
  rcases Bool.eq_false_or_eq_true ((s.checkE != 0)) with h1 | h1
  rw [h1]
  have g1 : ¬ (s.checkE = 0) := by simpa using h1
  refine EL.condT (by kernel_rfl) ?_
  refine EL.sreg ?_
  refine OW.last 4 [4, 5] (x' := ⟨[(5, VI s.checkE), (4, .ref 2 8 0 0)], (scq2 s a)⟩) (by kernel_rfl) (by kernel_rfl) ?_
  refine EL.ret ?_
  refine thenL_ret ?_
  refine ⟨.inr rfl, .tup [.agg [.emp, .emp, .emp, VI 0, VI 0, VI 0, .emp, .emp], VI s.checkE], by kernel_rfl, Ale.trans (b := .tup [scq33, VI s.checkE]) (Ale.tup (.cons (Ale.agg (.cons (Ale.emp) (.cons (Ale.emp) (.cons (Ale.emp) (.cons (Ale.refl) (.cons (Ale.refl) (.cons (Ale.refl) (.cons (Ale.emp) (.cons (Ale.emp) (.nil)))))))))) (.cons (Ale.refl) (.nil)))) (Ale.of_eq ?_)⟩
  focus (first | (rw [Ship.doP_0 ‹_›]; done) | (rw [Ship.doP_n ‹_›]; rfl))
  rw [h1]
  have g1 : (s.checkE = 0) := by simpa using h1
  refine EL.condF (by kernel_rfl) ?_
  refine EL.skip ?_
  refine thenL_norm ?_
  refine EL.sreg ?_
  refine OW.run 2 (x' := ⟨(scq34 a s), (scq2 s a)⟩) (by kernel_rfl) ?_
  refine OW.fn (ar := [(scq4 s), .agg [VI a.kind, VI a.n, .v (.string a.data)]]) (x' := ⟨(scq36 s a), (scq2 s a)⟩) (by kernel_rfl) (by kernel_rfl) F32_call (step_fn s a (by first | assumption | exact Ship.checkE_0.1 ‹_›)) (by kernel_rfl) (by kernel_rfl) ?_
  refine OW.last 4 [4, 5] (x' := ⟨[(5, VI ((s.stepP a).2)), (4, .ref 2 8 0 0)], (scq38 s a)⟩) (by kernel_rfl) (by kernel_rfl) ?_
  refine EL.ret ?_
  refine ⟨.inr rfl, .tup [(scq35 s a), VI ((s.stepP a).2)], by kernel_rfl, Ale.of_eq ?_⟩
  focus (first | (rw [Ship.doP_0 ‹_›]; done) | (rw [Ship.doP_n ‹_›]; rfl))
end Go.Proofs.Ythdcanpbgaaneaa
