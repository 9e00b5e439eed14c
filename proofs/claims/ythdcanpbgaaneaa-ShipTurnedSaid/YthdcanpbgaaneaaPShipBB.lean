/- What the functions of package ship answer: steps. No condition. -/
import Derived.Test.YthdcanpbgaaneaaPShipM
set_option maxRecDepth 100000
set_option maxHeartbeats 4000000
set_option linter.unusedVariables false
set_option linter.unusedSimpArgs false
namespace Go.Proofs.Ythdcanpbgaaneaa
abbrev sbbq0 (s : Ship) : OB := some ⟨8, [[.lst 1 (s.first.map cZ), .lst 1 (s.second.map cZ), .lst 2 (s.log.map Record.cs), VI s.sent, VI s.applied, VI s.known, .lst 1 (s.there.map cI), .lst 1 (s.back.map cI)]]⟩
abbrev sbbq1 : OB := some ⟨8, [[.emp, .emp, .emp, VI 0, VI 0, VI 0, .emp, .emp]]⟩
abbrev sbbq2 (s : Ship) (n : Int) (d : ByteArray) : LB := [(sbbq0 s), some ⟨3, [[VI 4, VI n, .v (.string d)]]⟩, sbbq1]
abbrev sbbq3 : LS := [(4, .ref 2 8 0 0), (3, .ref 1 3 0 0), (2, .ref 0 8 0 0)]
abbrev sbbq4 (s : Ship) : AV := .agg [.lst 1 (s.first.map cZ), .lst 1 (s.second.map cZ), .lst 2 (s.log.map Record.cs), VI s.sent, VI s.applied, VI s.known, .lst 1 (s.there.map cI), .lst 1 (s.back.map cI)]
abbrev sbbq5 (s : Ship) (n : Int) (d : ByteArray) : LB := [(sbbq0 s), some ⟨3, [[VI 4, VI n, .v (.string d)]]⟩, sbbq1, (sbbq0 s), sbbq1]
abbrev sbbq6 (s : Ship) : LS := [(4, .lst 1 (s.first.map cZ)), (3, .ref 3 8 0 0), (2, .ref 4 8 0 0), (1, .ref 3 8 0 0)]
abbrev sbbq7 (s : Ship) (n : Int) (d : ByteArray) : LB := [(sbbq0 s), some ⟨3, [[VI 4, VI n, .v (.string d)]]⟩, sbbq1, (sbbq0 s), sbbq1, some ⟨1, (s.first.map cZ)⟩]
abbrev sbbq8 (s : Ship) : LS := (7, .lst 1 (s.second.map cZ)) :: (6, .ref 3 8 0 1) :: (5, .own 5 1 0 (List.length s.first)) :: (sbbq6 s)
abbrev sbbq9 (s : Ship) (n : Int) (d : ByteArray) : LB := [(sbbq0 s), some ⟨3, [[VI 4, VI n, .v (.string d)]]⟩, sbbq1, (sbbq0 s), sbbq1, some ⟨1, (s.first.map cZ)⟩, some ⟨1, (s.second.map cZ)⟩]
abbrev sbbq10 (s : Ship) : LS := (10, .lst 2 (s.log.map Record.cs)) :: (9, .ref 3 8 0 2) :: (8, .own 6 1 0 (List.length s.second)) :: (sbbq8 s)
abbrev sbbq11 (s : Ship) (n : Int) (d : ByteArray) : LB := [(sbbq0 s), some ⟨3, [[VI 4, VI n, .v (.string d)]]⟩, sbbq1, (sbbq0 s), sbbq1, some ⟨1, (s.first.map cZ)⟩, some ⟨1, (s.second.map cZ)⟩, some ⟨2, (s.log.map Record.cs)⟩]
abbrev sbbq12 (s : Ship) : OB := some ⟨8, [[.own 5 1 0 (List.length s.first), .own 6 1 0 (List.length s.second), .own 7 2 0 (List.length s.log), VI s.sent, VI s.applied, VI s.known, .lst 1 (s.there.map cI), .lst 1 (s.back.map cI)]]⟩
abbrev sbbq13 (s : Ship) (n : Int) (d : ByteArray) : LB := [(sbbq0 s), some ⟨3, [[VI 4, VI n, .v (.string d)]]⟩, sbbq1, (sbbq12 s), sbbq1, some ⟨1, (s.first.map cZ)⟩, some ⟨1, (s.second.map cZ)⟩, some ⟨2, (s.log.map Record.cs)⟩]
abbrev sbbq14 (s : Ship) : LS := [(16, .lst 1 (s.there.map cI)), (15, .ref 3 8 0 6), (2, .ref 4 8 0 0), (1, .ref 3 8 0 0)]
abbrev sbbq15 (s : Ship) (n : Int) (d : ByteArray) : LB := [(sbbq0 s), some ⟨3, [[VI 4, VI n, .v (.string d)]]⟩, sbbq1, (sbbq12 s), sbbq1, some ⟨1, (s.first.map cZ)⟩, some ⟨1, (s.second.map cZ)⟩, some ⟨2, (s.log.map Record.cs)⟩, some ⟨1, (s.there.map cI)⟩]
abbrev sbbq16 (s : Ship) : LS := (19, .lst 1 (s.back.map cI)) :: (18, .ref 3 8 0 7) :: (17, .own 8 1 0 (List.length s.there)) :: (sbbq14 s)
abbrev sbbq17 (s : Ship) (n : Int) (d : ByteArray) : LB := [(sbbq0 s), some ⟨3, [[VI 4, VI n, .v (.string d)]]⟩, sbbq1, (sbbq12 s), sbbq1, some ⟨1, (s.first.map cZ)⟩, some ⟨1, (s.second.map cZ)⟩, some ⟨2, (s.log.map Record.cs)⟩, some ⟨1, (s.there.map cI)⟩, some ⟨1, (s.back.map cI)⟩]
abbrev sbbq18 (s : Ship) : OB := some ⟨8, [[.own 5 1 0 (List.length s.first), .own 6 1 0 (List.length s.second), .own 7 2 0 (List.length s.log), VI s.sent, VI s.applied, VI s.known, .own 8 1 0 (List.length s.there), .own 9 1 0 (List.length s.back)]]⟩
abbrev sbbq19 (s : Ship) (n : Int) (d : ByteArray) : LB := [(sbbq0 s), some ⟨3, [[VI 4, VI n, .v (.string d)]]⟩, sbbq1, (sbbq18 s), sbbq1, some ⟨1, (s.first.map cZ)⟩, some ⟨1, (s.second.map cZ)⟩, some ⟨2, (s.log.map Record.cs)⟩, some ⟨1, (s.there.map cI)⟩, some ⟨1, (s.back.map cI)⟩]
abbrev sbbq20 (s : Ship) (n : Int) (d : ByteArray) : LB := [(sbbq0 s), some ⟨3, [[VI 4, VI n, .v (.string d)]]⟩, sbbq1, (sbbq18 s), (sbbq18 s), some ⟨1, (s.first.map cZ)⟩, some ⟨1, (s.second.map cZ)⟩, some ⟨2, (s.log.map Record.cs)⟩, some ⟨1, (s.there.map cI)⟩, some ⟨1, (s.back.map cI)⟩]
abbrev sbbq21 (s : Ship) : AV := .agg [.own 4 1 0 (List.length s.first), .own 5 1 0 (List.length s.second), .own 6 2 0 (List.length s.log), VI s.sent, VI s.applied, VI s.known, .own 7 1 0 (List.length s.there), .own 8 1 0 (List.length s.back)]
abbrev sbbq22 (s : Ship) : OB := some ⟨8, [[.own 4 1 0 (List.length s.first), .own 5 1 0 (List.length s.second), .own 6 2 0 (List.length s.log), VI s.sent, VI s.applied, VI s.known, .own 7 1 0 (List.length s.there), .own 8 1 0 (List.length s.back)]]⟩
abbrev sbbq23 (s : Ship) (n : Int) (d : ByteArray) : LB := [(sbbq0 s), some ⟨3, [[VI 4, VI n, .v (.string d)]]⟩, sbbq1, (sbbq22 s), some ⟨1, (s.first.map cZ)⟩, some ⟨1, (s.second.map cZ)⟩, some ⟨2, (s.log.map Record.cs)⟩, some ⟨1, (s.there.map cI)⟩, some ⟨1, (s.back.map cI)⟩]
abbrev sbbq24 (s : Ship) (n : Int) (d : ByteArray) : LB := [(sbbq0 s), some ⟨3, [[VI 4, VI n, .v (.string d)]]⟩, sbbq1, (sbbq22 s), some ⟨1, (s.first.map cZ)⟩, some ⟨1, (s.second.map cZ)⟩, some ⟨2, (s.log.map Record.cs)⟩, some ⟨1, (s.there.map cI)⟩, some ⟨1, (s.back.map cI)⟩, (sbbq22 s)]
abbrev sbbq25 : LS := [(6, .ref 9 8 0 0), (4, .ref 2 8 0 0), (3, .ref 1 3 0 0)]
abbrev sbbq26 : LS := (17, VI 4) :: (16, .ref 1 3 0 0) :: (15, .ref 9 8 0 0) :: sbbq25
abbrev sbbq27 : OB := some ⟨9, [[.v (.nilFunc), .bf 73 [.ref 9 8 0 0], .bf 74 [.ref 9 8 0 0], .bf 75 [.ref 9 8 0 0], .bf 76 [.ref 9 8 0 0], .bf 77 [.ref 9 8 0 0], .bf 78 [.ref 9 8 0 0], .bf 79 [.ref 9 8 0 0], .bf 80 [.ref 9 8 0 0]]]⟩
abbrev sbbq28 (s : Ship) (n : Int) (d : ByteArray) : LB := [(sbbq0 s), some ⟨3, [[VI 4, VI n, .v (.string d)]]⟩, sbbq1, (sbbq22 s), some ⟨1, (s.first.map cZ)⟩, some ⟨1, (s.second.map cZ)⟩, some ⟨2, (s.log.map Record.cs)⟩, some ⟨1, (s.there.map cI)⟩, some ⟨1, (s.back.map cI)⟩, (sbbq22 s), sbbq27]
abbrev sbbq29 : LS := (18, .tup [.bf 76 [.ref 9 8 0 0], .v (.bool true)]) :: sbbq26
abbrev sbbq30 : LS := (8, .v (.bool true)) :: (7, .bf 76 [.ref 9 8 0 0]) :: sbbq25
abbrev sbbq31 (d : ByteArray) : LS := (29, .v (.string d)) :: (28, .ref 1 3 0 2) :: (24, .v (.bool false)) :: sbbq30
abbrev sbbq32 (n : Int) : LS := (37, VI n) :: (36, .ref 1 3 0 1) :: (27, .v (.bool false)) :: sbbq30
abbrev sbbq33 (n : Int) : LS := (27, .v (.bool false)) :: (42, .v (.bool false)) :: (41, .v (.bool false)) :: (40, .v (.bool true)) :: (39, .v (.bool true)) :: (38, .v (.bool true)) :: (37, VI n) :: (36, .ref 1 3 0 1) :: sbbq30
abbrev sbbq34 (n : Int) : LS := (27, .v (.bool false)) :: (42, .v (.bool false)) :: (41, .v undef) :: (40, .v undef) :: (39, .v (.bool false)) :: (38, .v (.bool false)) :: (37, VI n) :: (36, .ref 1 3 0 1) :: sbbq30
abbrev sbbq35 : LS := [(3, .ref 1 3 0 0), (4, .ref 2 8 0 0), (6, .ref 9 8 0 0), (7, .bf 76 [.ref 9 8 0 0]), (27, .v (.bool false))]
abbrev sbbq36 : LS := [(3, .ref 1 3 0 0), (4, .ref 2 8 0 0), (6, .ref 9 8 0 0), (7, .bf 76 [.ref 9 8 0 0]), (27, .v (.bool true))]
abbrev sbbq37 (n : Int) (d : ByteArray) : LS := (22, .agg [VI 4, VI n, .v (.string d)]) :: (21, .bf 76 [.ref 9 8 0 0]) :: sbbq35
abbrev sbbq38 (s : Ship) (n : Int) (d : ByteArray) : LB := [(sbbq0 s), some ⟨3, [[VI 4, VI n, .v (.string d)]]⟩, sbbq1, (sbbq22 s), some ⟨1, (s.first.map cZ)⟩, some ⟨1, (s.second.map cZ)⟩, some ⟨2, (s.log.map Record.cs)⟩, some ⟨1, (s.there.map cI)⟩, some ⟨1, (s.back.map cI)⟩, (sbbq22 s), some ⟨3, [[VI 4, VI n, .v (.string d)]]⟩]
abbrev sbbq39 (n : Int) : LS := [(13, VI n), (12, .ref 10 3 0 1), (11, .ref 9 8 0 6), (10, .ref 9 8 0 0), (9, .ref 9 8 0 0), (8, .ref 9 8 0 0), (3, .ref 10 3 0 0), (0, .ref 9 8 0 0)]
abbrev sbbq40 (s : Ship) (n : Int) : LS := [(11, VI (List.length s.there : Int)), (10, .own 7 1 0 (List.length s.there)), (9, .ref 9 8 0 6), (8, .ref 9 8 0 6), (7, VI n), (0, .ref 9 8 0 6), (1, VI n)]
abbrev sbbq41 (s : Ship) (n : Int) : LS := (12, VI ((List.length s.there : Int) - 1)) :: (sbbq40 s n)
abbrev sbbq42 (n : Int) (s : Ship) : LS := [(18, VI n), (17, .own 7 1 0 (List.length s.there)), (16, .ref 9 8 0 6), (15, .ref 9 8 0 6), (14, .v (.bool false)), (0, .ref 9 8 0 6), (1, VI n)]
abbrev sbbq43 (a9 : Int) (n : Int) (s : Ship) : LS := (20, VI a9) :: (19, .ref 7 1 (0 + Int.toNat n) 0) :: (sbbq42 n s)
abbrev sbbq44 (n : Int) (s : Ship) (a9 : Int) : LS := [(26, VI n), (25, VI n), (24, .own 7 1 0 (List.length s.there)), (23, .ref 9 8 0 6), (22, .ref 9 8 0 6), (21, .ref 9 8 0 6), (6, VI a9), (0, .ref 9 8 0 6), (1, VI n)]
abbrev sbbq45 (s : Ship) (n : Int) (d : ByteArray) : LB := [(sbbq0 s), some ⟨3, [[VI 4, VI n, .v (.string d)]]⟩, sbbq1, (sbbq22 s), some ⟨1, (s.first.map cZ)⟩, some ⟨1, (s.second.map cZ)⟩, some ⟨2, (s.log.map Record.cs)⟩, none, some ⟨1, (s.back.map cI)⟩, (sbbq22 s), some ⟨3, [[VI 4, VI n, .v (.string d)]]⟩, none, some ⟨1, ((List.eraseIdx s.there (Int.toNat n)).map cI)⟩]
abbrev sbbq46 (s : Ship) (n : Int) (a9 : Int) : LS := (28, .own 12 1 0 (List.length (List.eraseIdx s.there (Int.toNat n)))) :: (27, VI (n + 1)) :: (sbbq44 n s a9)
abbrev sbbq47 (s : Ship) (n : Int) : OB := some ⟨8, [[.own 4 1 0 (List.length s.first), .own 5 1 0 (List.length s.second), .own 6 2 0 (List.length s.log), VI s.sent, VI s.applied, VI s.known, .own 12 1 0 (List.length (List.eraseIdx s.there (Int.toNat n))), .own 8 1 0 (List.length s.back)]]⟩
abbrev sbbq48 (s : Ship) (n : Int) (d : ByteArray) : LB := [(sbbq0 s), some ⟨3, [[VI 4, VI n, .v (.string d)]]⟩, sbbq1, (sbbq22 s), some ⟨1, (s.first.map cZ)⟩, some ⟨1, (s.second.map cZ)⟩, some ⟨2, (s.log.map Record.cs)⟩, none, some ⟨1, (s.back.map cI)⟩, (sbbq47 s n), some ⟨3, [[VI 4, VI n, .v (.string d)]]⟩, none, some ⟨1, ((List.eraseIdx s.there (Int.toNat n)).map cI)⟩]
abbrev sbbq49 (s : Ship) : OB := some ⟨8, [[.own 4 1 0 (List.length s.first), .own 5 1 0 (List.length s.second), .own 6 2 0 (List.length s.log), VI s.sent, VI s.applied, VI s.known, .dead, .own 8 1 0 (List.length s.back)]]⟩
abbrev sbbq50 (s : Ship) (n : Int) : OB := some ⟨8, [[.own 4 1 0 (List.length s.first), .own 5 1 0 (List.length s.second), .own 6 2 0 (List.length s.log), VI s.sent, VI s.applied, VI s.known, .own 11 1 0 (List.length (List.eraseIdx s.there (Int.toNat n))), .own 8 1 0 (List.length s.back)]]⟩
abbrev sbbq51 (s : Ship) (n : Int) (d : ByteArray) : LB := [(sbbq0 s), some ⟨3, [[VI 4, VI n, .v (.string d)]]⟩, sbbq1, (sbbq49 s), some ⟨1, (s.first.map cZ)⟩, some ⟨1, (s.second.map cZ)⟩, some ⟨2, (s.log.map Record.cs)⟩, none, some ⟨1, (s.back.map cI)⟩, (sbbq50 s n), some ⟨3, [[VI 4, VI n, .v (.string d)]]⟩, some ⟨1, ((List.eraseIdx s.there (Int.toNat n)).map cI)⟩]
abbrev sbbq52 (s : Ship) (n : Int) : OB := some ⟨8, [[.own 4 1 0 (List.length s.first), .own 5 1 0 (List.length s.second), .own 6 2 0 (List.length s.log), VI s.sent, VI s.applied, VI s.known, .own 10 1 0 (List.length (List.eraseIdx s.there (Int.toNat n))), .own 8 1 0 (List.length s.back)]]⟩
abbrev sbbq53 (s : Ship) (n : Int) (d : ByteArray) : LB := [(sbbq0 s), some ⟨3, [[VI 4, VI n, .v (.string d)]]⟩, sbbq1, (sbbq49 s), some ⟨1, (s.first.map cZ)⟩, some ⟨1, (s.second.map cZ)⟩, some ⟨2, (s.log.map Record.cs)⟩, none, some ⟨1, (s.back.map cI)⟩, (sbbq52 s n), some ⟨1, ((List.eraseIdx s.there (Int.toNat n)).map cI)⟩]
abbrev sbbq54 : LS := [(44, .v (.bool false)), (9, VI 0), (4, .ref 2 8 0 0), (6, .ref 9 8 0 0)]
abbrev sbbq55 (s : Ship) (n : Int) (d : ByteArray) : LB := [(sbbq0 s), some ⟨3, [[VI 4, VI n, .v (.string d)]]⟩, (sbbq52 s n), (sbbq49 s), some ⟨1, (s.first.map cZ)⟩, some ⟨1, (s.second.map cZ)⟩, some ⟨2, (s.log.map Record.cs)⟩, none, some ⟨1, (s.back.map cI)⟩, (sbbq52 s n), some ⟨1, ((List.eraseIdx s.there (Int.toNat n)).map cI)⟩]
abbrev sbbq56 (s : Ship) (n : Int) : AV := .agg [.own 4 1 0 (List.length s.first), .own 5 1 0 (List.length s.second), .own 6 2 0 (List.length s.log), VI s.sent, VI s.applied, VI s.known, .own 10 1 0 (List.length (List.eraseIdx s.there (Int.toNat n))), .own 8 1 0 (List.length s.back)]
abbrev sbbq57 (s : Ship) (n : Int) : AV := .agg [.lst 1 (s.first.map cZ), .lst 1 (s.second.map cZ), .lst 2 (s.log.map Record.cs), VI s.sent, VI s.applied, VI s.known, .lst 1 ((List.eraseIdx s.there (Int.toNat n)).map cI), .lst 1 (s.back.map cI)]
abbrev sbbq58 : LS := [(44, .v (.bool true)), (9, VI 3), (4, .ref 2 8 0 0), (6, .ref 9 8 0 0)]
abbrev sbbq59 : AV := .agg [.lst 1 [], .lst 1 [], .lst 2 [], VI 0, VI 0, VI 0, .lst 1 [], .lst 1 []]
abbrev sbbq60 : LS := [(44, .v (.bool true)), (9, VI 1), (4, .ref 2 8 0 0), (6, .ref 9 8 0 0)]
abbrev sbbq61 : LS := (18, .tup [.v (.nilFunc), .v (.bool false)]) :: sbbq26
abbrev sbbq62 : LS := (24, .v (.bool true)) :: (8, .v (.bool false)) :: (7, .v (.nilFunc)) :: sbbq25
abbrev sbbq63 : LS := [(44, .v (.bool true)), (9, VI 7), (6, .ref 9 8 0 0), (4, .ref 2 8 0 0)]
theorem step4_fn (s : Ship) (n : Int) (d : ByteArray) (ok : s.Ok) : Fn Try.prog 32 [.agg [.lst 1 (s.first.map cZ), .lst 1 (s.second.map cZ), .lst 2 (s.log.map Record.cs), VI s.sent, VI s.applied, VI s.known, .lst 1 (s.there.map cI), .lst 1 (s.back.map cI)], .agg [VI 4, VI n, .v (.string d)]] (.tup [.agg [.lst 1 ((((s.stepP ⟨4, n, d⟩).1).first).map cZ), .lst 1 ((((s.stepP ⟨4, n, d⟩).1).second).map cZ), .lst 2 ((((s.stepP ⟨4, n, d⟩).1).log).map Record.cs), VI (((s.stepP ⟨4, n, d⟩).1).sent), VI (((s.stepP ⟨4, n, d⟩).1).applied), VI (((s.stepP ⟨4, n, d⟩).1).known), .lst 1 ((((s.stepP ⟨4, n, d⟩).1).there).map cI), .lst 1 ((((s.stepP ⟨4, n, d⟩).1).back).map cI)], VI ((s.stepP ⟨4, n, d⟩).2)]) := by
  obtain ⟨⟨a1, a2⟩, b1, c1, c2, ⟨d1, d2, d3⟩, ee, ⟨k1, k2, k3, k4, k5⟩, tt, bb⟩ := ok
  refine fn_walkW F32_ok (of_decide_eq_true (by kernel_rfl)) ?_
  refine EL.sreg ?_
  refine OW.last 4 [2, 3, 4] (x' := ⟨sbbq3, (sbbq2 s n d)⟩) (by kernel_rfl) (by kernel_rfl) ?_
  refine EL.sreg ?_
  refine OW.run 1 (x' := ⟨(10, (sbbq4 s)) :: sbbq3, (sbbq2 s n d)⟩) (by kernel_rfl) ?_
  refine OW.fi (ar := [(sbbq4 s)]) (r := (sbbq21 s)) (m' := (sbbq23 s n d)) (x' := ⟨(11, (sbbq21 s)) :: (10, (sbbq4 s)) :: sbbq3, (sbbq23 s n d)⟩) (by kernel_rfl) (by kernel_rfl) F42_call ?_ (by kernel_rfl) ?_
  refine fi_walkW F42_ok (of_decide_eq_true (by kernel_rfl)) ?_
  refine EL.sreg ?_
  refine OW.last 2 [1, 2] (x' := ⟨[(2, .ref 4 8 0 0), (1, .ref 3 8 0 0)], (sbbq5 s n d)⟩) (by kernel_rfl) (by kernel_rfl) ?_
  refine EL.sdraw ?_
  refine DW.run 2 (x' := ⟨(sbbq6 s), (sbbq5 s n d)⟩) (by kernel_rfl) ?_
  refine DW.fo (ar := [.lst 1 (s.first.map cZ)]) (fe := cZ) (xs := s.first) (x' := ⟨(5, .own 5 1 0 (List.length s.first)) :: (sbbq6 s), (sbbq7 s n d)⟩) (by kernel_rfl) (by kernel_rfl) F61_call (cloneZ_fo s.first (by omega)) (by intro y; kernel_rfl) (by kernel_rfl) (by kernel_rfl) ?_
  refine DW.run 2 (x' := ⟨(sbbq8 s), (sbbq7 s n d)⟩) (by kernel_rfl) ?_
  refine DW.fo (ar := [.lst 1 (s.second.map cZ)]) (fe := cZ) (xs := s.second) (x' := ⟨(8, .own 6 1 0 (List.length s.second)) :: (sbbq8 s), (sbbq9 s n d)⟩) (by kernel_rfl) (by kernel_rfl) F61_call (cloneZ_fo s.second (by omega)) (by intro y; kernel_rfl) (by kernel_rfl) (by kernel_rfl) ?_
  refine DW.run 2 (x' := ⟨(sbbq10 s), (sbbq9 s n d)⟩) (by kernel_rfl) ?_
  refine DW.fo (ar := [.lst 2 (s.log.map Record.cs)]) (fe := Record.cs) (xs := s.log) (x' := ⟨(11, .own 7 2 0 (List.length s.log)) :: (sbbq10 s), (sbbq11 s n d)⟩) (by kernel_rfl) (by kernel_rfl) F62_call (cloneR_fo s.log (by omega)) (by intro y; kernel_rfl) (by kernel_rfl) (by kernel_rfl) ?_
  refine DW.last 6 [1, 2] (x' := ⟨[(2, .ref 4 8 0 0), (1, .ref 3 8 0 0)], (sbbq13 s n d)⟩) (by kernel_rfl) (by kernel_rfl) ?_
  refine EL.sdraw ?_
  refine DW.run 2 (x' := ⟨(sbbq14 s), (sbbq13 s n d)⟩) (by kernel_rfl) ?_
  refine DW.fo (ar := [.lst 1 (s.there.map cI)]) (fe := cI) (xs := s.there) (x' := ⟨(17, .own 8 1 0 (List.length s.there)) :: (sbbq14 s), (sbbq15 s n d)⟩) (by kernel_rfl) (by kernel_rfl) F50_call (cloneI_fo s.there (by omega)) (by intro y; kernel_rfl) (by kernel_rfl) (by kernel_rfl) ?_
  refine DW.run 2 (x' := ⟨(sbbq16 s), (sbbq15 s n d)⟩) (by kernel_rfl) ?_
  refine DW.fo (ar := [.lst 1 (s.back.map cI)]) (fe := cI) (xs := s.back) (x' := ⟨(20, .own 9 1 0 (List.length s.back)) :: (sbbq16 s), (sbbq17 s n d)⟩) (by kernel_rfl) (by kernel_rfl) F50_call (cloneI_fo s.back (by omega)) (by intro y; kernel_rfl) (by kernel_rfl) (by kernel_rfl) ?_
  refine DW.last 4 [1, 2] (x' := ⟨[(2, .ref 4 8 0 0), (1, .ref 3 8 0 0)], (sbbq19 s n d)⟩) (by kernel_rfl) (by kernel_rfl) ?_
  refine EL.sreg ?_
  refine OW.last 2 [2] (x' := ⟨[(2, .ref 4 8 0 0)], (sbbq20 s n d)⟩) (by kernel_rfl) (by kernel_rfl) ?_
  refine EL.ret ?_
  refine ⟨.inr rfl, ⟨[(2, .ref 3 8 0 0)], (sbbq23 s n d)⟩, norm_le (live := [2]) (src := [.old 0 false, .old 1 false, .old 2 false, .old 4 false, .old 5 true, .old 6 true, .old 7 true, .old 8 true, .old 9 true]) (es := []) (by kernel_rfl) ⟨pucZ s.first (by kernel_rfl), pucZ s.second (by kernel_rfl), pu 2 Record.cs s.log (by kernel_rfl) (by intro y; kernel_rfl), pucI s.there (by kernel_rfl), pucI s.back (by kernel_rfl), trivial⟩, by kernel_rfl, rfl⟩
  refine OW.last 3 [3, 4, 6] (x' := ⟨sbbq25, (sbbq24 s n d)⟩) (by kernel_rfl) (by kernel_rfl) ?_
  refine EL.sreg ?_
  refine OW.run 3 (x' := ⟨sbbq26, (sbbq24 s n d)⟩) (by kernel_rfl) ?_
  rcases Bool.eq_false_or_eq_true (wi 4 1 8) with h1 | h1
  try rw [h1]
  have g1 : ((1 : Int) ≤ 4 ∧ (4 : Int) ≤ 8) := wi_iff.1 h1
  refine OW.fi (ar := [.ref 9 8 0 0, VI 4]) (r := .tup [.bf 76 [.ref 9 8 0 0], .v (.bool true)]) (m' := (sbbq24 s n d)) (x' := ⟨sbbq29, (sbbq24 s n d)⟩) (by kernel_rfl) (by kernel_rfl) F58_call ?_ (by kernel_rfl) ?_
  refine fi_walkW F58_ok (of_decide_eq_true (by kernel_rfl)) ?_
  refine EL.sreg ?_
  refine OW.last 2 [0, 1] (x' := ⟨[(0, .ref 9 8 0 0), (1, VI 4)], (sbbq24 s n d)⟩) (by kernel_rfl) (by kernel_rfl) ?_
  refine EL.sreg ?_
  refine OW.last 19 [1, 6] (x' := ⟨[(6, .ref 10 9 0 0), (1, VI 4)], (sbbq28 s n d)⟩) (by kernel_rfl) (by kernel_rfl) ?_
  refine EL.seq ?_
  refine EL.sreg ?_
  refine OW.run 1 (x' := ⟨[(24, VI 4), (6, .ref 10 9 0 0), (1, VI 4)], (sbbq28 s n d)⟩) (by kernel_rfl) ?_
  refine OW.fn (ar := [VI 4, VI 1, VI 8]) (x' := ⟨[(25, .v (.bool (wi 4 1 8))), (24, VI 4), (6, .ref 10 9 0 0), (1, VI 4)], (sbbq28 s n d)⟩) (by kernel_rfl) (by kernel_rfl) F31_call (within_fn 4 1 8) (by kernel_rfl) (by kernel_rfl) ?_
  refine OW.last 1 [1, 6, 26] (x' := ⟨[(26, .v (.bool (!(wi 4 1 8)))), (6, .ref 10 9 0 0), (1, VI 4)], (sbbq28 s n d)⟩) (by kernel_rfl) (by kernel_rfl) ?_
  rw [h1]
  refine EL.condF (by kernel_rfl) ?_
  refine EL.skip ?_
  refine thenL_norm ?_
  refine EL.sreg ?_
  refine OW.last 11 [4, 5] (x' := ⟨[(5, .v (.bool true)), (4, .bf 76 [.ref 9 8 0 0])], (sbbq28 s n d)⟩) (by kernel_rfl) (by kernel_rfl) ?_
  refine EL.ret ?_
  refine ⟨.inr rfl, ⟨[(4, .bf 76 [.ref 9 8 0 0]), (5, .v (.bool true))], (sbbq24 s n d)⟩, norm_le (live := [4, 5]) (src := [.old 0 false, .old 1 false, .old 2 false, .old 3 false, .old 4 true, .old 5 true, .old 6 true, .old 7 true, .old 8 true, .old 9 false]) (es := []) (by kernel_rfl) ⟨pucZ s.first (by kernel_rfl), pucZ s.second (by kernel_rfl), pu 2 Record.cs s.log (by kernel_rfl) (by intro y; kernel_rfl), pucI s.there (by kernel_rfl), pucI s.back (by kernel_rfl), trivial⟩, by kernel_rfl, rfl⟩
  refine OW.last 5 [3, 4, 6, 7, 8] (x' := ⟨sbbq30, (sbbq24 s n d)⟩) (by kernel_rfl) (by kernel_rfl) ?_
  refine EL.sreg ?_
  refine OW.last 1 [3, 4, 6, 7, 8] (x' := ⟨sbbq30, (sbbq24 s n d)⟩) (by kernel_rfl) (by kernel_rfl) ?_
  refine EL.seq ?_
  refine EL.block ?_
  refine EL.sreg ?_
  refine OW.last 3 [3, 4, 6, 7, 8, 24] (x' := ⟨(24, .v (.bool false)) :: sbbq30, (sbbq24 s n d)⟩) (by kernel_rfl) (by kernel_rfl) ?_
  refine EL.condF (by kernel_rfl) ?_
  refine EL.seqG [3, 4, 6, 7, 27] (fun y => (y = ⟨sbbq35, (sbbq24 s n d)⟩ ∧ strEq d (⟨#[]⟩) = true ∧ ((¬ (n = 0)) ∨ ((n = 0)))) ∨ (y = ⟨sbbq36, (sbbq24 s n d)⟩ ∧ strEq d (⟨#[]⟩) = false)) ?_ ?_
  intro IHJ2 HJ2
  refine EL.sreg ?_
  refine OW.run 4 (x' := ⟨(31, .v (.bool (!(strEq d (⟨#[]⟩))))) :: (30, .v (.bool (!(strEq d (⟨#[]⟩))))) :: (sbbq31 d), (sbbq24 s n d)⟩) (by kernel_rfl) ?_
  rcases Bool.eq_false_or_eq_true (strEq d (⟨#[]⟩)) with h3 | h3
  rw [h3]
  have g3 : (d = (⟨#[]⟩)) := strEq_iff.1 h3
  refine OW.last 5 [3, 4, 6, 7, 8, 27] (x' := ⟨(27, .v (.bool false)) :: sbbq30, (sbbq24 s n d)⟩) (by kernel_rfl) (by kernel_rfl) ?_
  refine EL.condF (by kernel_rfl) ?_
  refine EL.reg0 ?_
  refine OW.run 4 (x' := ⟨(39, .v (.bool (n != 0))) :: (38, .v (.bool (n != 0))) :: (sbbq32 n), (sbbq24 s n d)⟩) (by kernel_rfl) ?_
  rcases Bool.eq_false_or_eq_true ((n != 0)) with h4 | h4
  rw [h4]
  have g4 : ¬ (n = 0) := by simpa using h4
  refine OW.end 4 (x' := ⟨(sbbq33 n), (sbbq24 s n d)⟩) (by kernel_rfl) (by kernel_rfl) ?_
  exact thenL_norm (HJ2.get (Or.inl ⟨by kernel_rfl, h3, (Or.inl (by first | exact g4 | exact h4 | simp_all | omega))⟩))
  rw [h4]
  have g4 : (n = 0) := by simpa using h4
  refine OW.end 4 (x' := ⟨(sbbq34 n), (sbbq24 s n d)⟩) (by kernel_rfl) (by kernel_rfl) ?_
  exact thenL_norm (HJ2.get (Or.inl ⟨by kernel_rfl, h3, (Or.inr (by first | exact g4 | exact h4 | simp_all | omega))⟩))
  rw [h3]
  have g3 : ¬ (d = (⟨#[]⟩)) := fun hh => Bool.noConfusion ((strEq_iff.2 hh).symm.trans h3)
  refine OW.last 5 [3, 4, 6, 7, 8, 27] (x' := ⟨(27, .v (.bool true)) :: sbbq30, (sbbq24 s n d)⟩) (by kernel_rfl) (by kernel_rfl) ?_
  refine EL.condT (by kernel_rfl) ?_
  refine EL.skip ?_
  exact thenL_norm (HJ2.get (Or.inr ⟨by kernel_rfl, h3⟩))
  rintro _ (⟨rfl, h5, hD6⟩ | ⟨rfl, h7⟩)
  have g5 : (d = (⟨#[]⟩)) := strEq_iff.1 h5
  refine EL.condF (by kernel_rfl) ?_
  refine EL.reg0 ?_
  refine OW.run 2 (x' := ⟨(sbbq37 n d), (sbbq24 s n d)⟩) (by kernel_rfl) ?_
  rcases Bool.eq_false_or_eq_true (wi n 0 ((List.length s.there : Int) - 1)) with h8 | h8
  try rw [h8]
  have g8 : ((0 : Int) ≤ n ∧ (n : Int) ≤ ((List.length s.there : Int) - 1)) := wi_iff.1 h8
  obtain ⟨a9, ha9⟩ : ∃ y, s.there[(n : Int).toNat]? = some y := idx_ex ⟨by omega, by omega⟩
  have ma9 := tt _ (List.mem_of_getElem? ha9)
  refine OW.fi (ar := [.ref 9 8 0 0, .agg [VI 4, VI n, .v (.string d)]]) (r := VI 0) (m' := (sbbq53 s n d)) (x' := ⟨(23, VI 0) :: (sbbq37 n d), (sbbq53 s n d)⟩) (by kernel_rfl) (by kernel_rfl) F76_call ?_ (by kernel_rfl) ?_
  refine fi_walkW F76_ok (of_decide_eq_true (by kernel_rfl)) ?_
  refine EL.sreg ?_
  refine OW.last 2 [0, 3] (x' := ⟨[(3, .ref 10 3 0 0), (0, .ref 9 8 0 0)], (sbbq38 s n d)⟩) (by kernel_rfl) (by kernel_rfl) ?_
  refine EL.sdraw ?_
  refine DW.run 6 (x' := ⟨(sbbq39 n), (sbbq38 s n d)⟩) (by kernel_rfl) ?_
  refine DW.fi (ar := [.ref 9 8 0 6, VI n]) (r := .tup [VI a9, VI 0]) (m' := (sbbq51 s n d)) (x' := ⟨(14, .tup [VI a9, VI 0]) :: (sbbq39 n), (sbbq51 s n d)⟩) (by kernel_rfl) (by kernel_rfl) F83_call ?_ (by kernel_rfl) (by kernel_rfl) (by kernel_rfl) ?_
  refine fi_walkW F83_ok (of_decide_eq_true (by kernel_rfl)) ?_
  refine EL.sreg ?_
  refine OW.last 2 [0, 1] (x' := ⟨[(0, .ref 9 8 0 6), (1, VI n)], (sbbq38 s n d)⟩) (by kernel_rfl) (by kernel_rfl) ?_
  refine EL.seq ?_
  refine EL.sreg ?_
  refine OW.run 6 (x' := ⟨(12, VI (IntKind.i64.wrap ((List.length s.there : Int) - 1))) :: (sbbq40 s n), (sbbq38 s n d)⟩) (by kernel_rfl) ?_
  have e10 : IntKind.i64.wrap ((List.length s.there : Int) - 1) = (List.length s.there : Int) - 1 := wr64 (by omega)
  rw [e10]
  refine OW.fn (ar := [VI n, VI 0, VI ((List.length s.there : Int) - 1)]) (x' := ⟨(13, .v (.bool (wi n 0 ((List.length s.there : Int) - 1)))) :: (sbbq41 s n), (sbbq38 s n d)⟩) (by kernel_rfl) (by kernel_rfl) F31_call (within_fn n 0 ((List.length s.there : Int) - 1)) (by kernel_rfl) (by kernel_rfl) ?_
  refine OW.last 1 [0, 1, 14] (x' := ⟨[(14, .v (.bool (!(wi n 0 ((List.length s.there : Int) - 1))))), (0, .ref 9 8 0 6), (1, VI n)], (sbbq38 s n d)⟩) (by kernel_rfl) (by kernel_rfl) ?_
  rw [h8]
  refine EL.condF (by kernel_rfl) ?_
  refine EL.skip ?_
  refine thenL_norm ?_
  refine EL.sreg ?_
  refine OW.run 4 (x' := ⟨(sbbq42 n s), (sbbq38 s n d)⟩) (by kernel_rfl) ?_
  refine OW.ope (v := .ref 7 1 (0 + Int.toNat n) 0) (u := []) (acc := [7]) (x' := ⟨(19, .ref 7 1 (0 + Int.toNat n) 0) :: (sbbq42 n s), (sbbq38 s n d)⟩) (by kernel_rfl) (opE_iado (.s 17) (.s 18) 1 7 0 (List.length s.there) .i64 n ⟨1, (s.there.map cI)⟩ (by kernel_rfl) (by kernel_rfl) rfl rfl ⟨by omega, by omega⟩ (by kernel_rfl)) (by kernel_rfl) ?_
  refine OW.ope (v := VI a9) (u := []) (acc := [7]) (x' := ⟨(sbbq43 a9 n s), (sbbq38 s n d)⟩) (by kernel_rfl) (opE_ldoS cI s.there none (.s 19) 7 1 (0 + Int.toNat n) 0 a9 (VI a9) (by kernel_rfl) (by kernel_rfl) rfl (by kernel_rfl) (by simpa using ha9) (by kernel_rfl)) (by kernel_rfl) ?_
  refine OW.last 1 [0, 1, 6] (x' := ⟨[(6, VI a9), (0, .ref 9 8 0 6), (1, VI n)], (sbbq38 s n d)⟩) (by kernel_rfl) (by kernel_rfl) ?_
  refine EL.sreg ?_
  refine OW.run 7 (x' := ⟨(27, VI (IntKind.i64.wrap (n + 1))) :: (sbbq44 n s a9), (sbbq38 s n d)⟩) (by kernel_rfl) ?_
  have e11 : IntKind.i64.wrap (n + 1) = n + 1 := wr64 (by omega)
  rw [e11]
  refine OW.fi (ar := [.own 7 1 0 (List.length s.there), VI n, VI (n + 1)]) (r := .own 12 1 0 (List.length (List.eraseIdx s.there (Int.toNat n)))) (m' := (sbbq45 s n d)) (x' := ⟨(sbbq46 s n a9), (sbbq45 s n d)⟩) (by kernel_rfl) (by kernel_rfl) F84_call (delete_map (fe := cI) (xs := s.there) (m := (sbbq38 s n d)) (id := 7) (by_ := 8) (zs := [VI 0]) (F84_ok.trans (by kernel_rfl)) rfl (by kernel_rfl) (by omega) (by omega) (by omega)) (by kernel_rfl) ?_
  refine OW.last 2 [6] (x' := ⟨[(6, VI a9)], (sbbq48 s n d)⟩) (by kernel_rfl) (by kernel_rfl) ?_
  refine EL.sreg ?_
  refine OW.last 3 [4, 5] (x' := ⟨[(5, VI 0), (4, VI a9)], (sbbq48 s n d)⟩) (by kernel_rfl) (by kernel_rfl) ?_
  refine EL.ret ?_
  refine ⟨.inr rfl, ⟨[(4, VI a9), (5, VI 0)], (sbbq51 s n d)⟩, norm_le (live := [4, 5]) (src := [.old 0 false, .old 1 false, .old 2 false, .old 3 false, .old 4 true, .old 5 true, .old 6 true, .old 7 false, .old 8 true, .old 9 false, .old 10 false, .old 12 true]) (es := []) (by kernel_rfl) ⟨pucZ s.first (by kernel_rfl), pucZ s.second (by kernel_rfl), pu 2 Record.cs s.log (by kernel_rfl) (by intro y; kernel_rfl), pucI s.back (by kernel_rfl), pucI (List.eraseIdx s.there (Int.toNat n)) (by kernel_rfl), trivial⟩, by kernel_rfl, rfl⟩
  refine DW.last 5 [6] (x' := ⟨[(6, VI 0)], (sbbq51 s n d)⟩) (by kernel_rfl) (by kernel_rfl) ?_
  refine EL.sreg ?_
  refine OW.last 2 [4] (x' := ⟨[(4, VI 0)], (sbbq51 s n d)⟩) (by kernel_rfl) (by kernel_rfl) ?_
  refine EL.ret ?_
  refine ⟨.inr rfl, ⟨[(4, VI 0)], (sbbq53 s n d)⟩, norm_le (live := [4]) (src := [.old 0 false, .old 1 false, .old 2 false, .old 3 false, .old 4 true, .old 5 true, .old 6 true, .old 7 false, .old 8 true, .old 9 false, .old 11 true]) (es := []) (by kernel_rfl) ⟨pucZ s.first (by kernel_rfl), pucZ s.second (by kernel_rfl), pu 2 Record.cs s.log (by kernel_rfl) (by intro y; kernel_rfl), pucI s.back (by kernel_rfl), pucI (List.eraseIdx s.there (Int.toNat n)) (by kernel_rfl), trivial⟩, by kernel_rfl, rfl⟩
  refine OW.end 1 (x' := ⟨(9, VI 0) :: (23, VI 0) :: (sbbq37 n d), (sbbq53 s n d)⟩) (by kernel_rfl) (by kernel_rfl) ?_
  refine inBlk_norm ?_
  refine thenL_norm ?_
  refine EL.seq ?_
  refine EL.sreg ?_
  refine OW.last 2 [4, 6, 9, 44] (x' := ⟨sbbq54, (sbbq53 s n d)⟩) (by kernel_rfl) (by kernel_rfl) ?_
  refine EL.condF (by kernel_rfl) ?_
  refine EL.skip ?_
  refine thenL_norm ?_
  refine EL.sreg ?_
  refine OW.last 6 [4, 5] (x' := ⟨[(5, VI 0), (4, .ref 2 8 0 0)], (sbbq55 s n d)⟩) (by kernel_rfl) (by kernel_rfl) ?_
  refine EL.ret ?_
  refine ⟨.inr rfl, .tup [(sbbq57 s n), VI 0], run_snap (r0 := .tup [(sbbq56 s n), VI 0]) (by kernel_rfl) (snapR_tup (snapAs_cons (snapA_agg (snapL_cons (snap1_map cZ s.first (by kernel_rfl) (by intro y; kernel_rfl) (by simp)) (snapL_cons (snap1_map cZ s.second (by kernel_rfl) (by intro y; kernel_rfl) (by simp)) (snapL_cons (snap1_map Record.cs s.log (by kernel_rfl) (by intro y; kernel_rfl) (by simp)) (snapL_cons (by kernel_rfl) (snapL_cons (by kernel_rfl) (snapL_cons (by kernel_rfl) (snapL_cons (snap1_map cI (List.eraseIdx s.there (Int.toNat n)) (by kernel_rfl) (by intro y; kernel_rfl) (by simp)) (snapL_cons (snap1_map cI s.back (by kernel_rfl) (by intro y; kernel_rfl) (by simp)) (rfl)))))))))) (snapAs_cons (by kernel_rfl) (snapAs_nil)))), Ale.of_eq ?_⟩
  focus (skip; clear ee tt bb; rw [Ship.step_4]; (try split) <;> first | rfl | contradiction | (exfalso; omega) | (exfalso; simp_all; done) | (simp only [Ship.loseP, wi_iff]; (repeat' split) <;> first | rfl | (exfalso; omega) | (simp; done) | (simp; omega) | (simp_all; done) | (simp_all; omega)))
  try rw [h8]
  have g8 : ¬ ((0 : Int) ≤ n ∧ (n : Int) ≤ ((List.length s.there : Int) - 1)) := fun hh => Bool.noConfusion ((wi_iff.2 hh).symm.trans h8)
  refine OW.fi (ar := [.ref 9 8 0 0, .agg [VI 4, VI n, .v (.string d)]]) (r := VI 3) (m' := (sbbq24 s n d)) (x' := ⟨(23, VI 3) :: (sbbq37 n d), (sbbq24 s n d)⟩) (by kernel_rfl) (by kernel_rfl) F76_call ?_ (by kernel_rfl) ?_
  refine fi_walkW F76_ok (of_decide_eq_true (by kernel_rfl)) ?_
  refine EL.sreg ?_
  refine OW.last 2 [0, 3] (x' := ⟨[(3, .ref 10 3 0 0), (0, .ref 9 8 0 0)], (sbbq38 s n d)⟩) (by kernel_rfl) (by kernel_rfl) ?_
  refine EL.sdraw ?_
  refine DW.run 6 (x' := ⟨(sbbq39 n), (sbbq38 s n d)⟩) (by kernel_rfl) ?_
  refine DW.fi (ar := [.ref 9 8 0 6, VI n]) (r := .tup [VI 0, VI 3]) (m' := (sbbq38 s n d)) (x' := ⟨(14, .tup [VI 0, VI 3]) :: (sbbq39 n), (sbbq38 s n d)⟩) (by kernel_rfl) (by kernel_rfl) F83_call ?_ (by kernel_rfl) (by kernel_rfl) (by kernel_rfl) ?_
  refine fi_walkW F83_ok (of_decide_eq_true (by kernel_rfl)) ?_
  refine EL.sreg ?_
  refine OW.last 2 [0, 1] (x' := ⟨[(0, .ref 9 8 0 6), (1, VI n)], (sbbq38 s n d)⟩) (by kernel_rfl) (by kernel_rfl) ?_
  refine EL.seq ?_
  refine EL.sreg ?_
  refine OW.run 6 (x' := ⟨(12, VI (IntKind.i64.wrap ((List.length s.there : Int) - 1))) :: (sbbq40 s n), (sbbq38 s n d)⟩) (by kernel_rfl) ?_
  have e12 : IntKind.i64.wrap ((List.length s.there : Int) - 1) = (List.length s.there : Int) - 1 := wr64 (by omega)
  rw [e12]
  refine OW.fn (ar := [VI n, VI 0, VI ((List.length s.there : Int) - 1)]) (x' := ⟨(13, .v (.bool (wi n 0 ((List.length s.there : Int) - 1)))) :: (sbbq41 s n), (sbbq38 s n d)⟩) (by kernel_rfl) (by kernel_rfl) F31_call (within_fn n 0 ((List.length s.there : Int) - 1)) (by kernel_rfl) (by kernel_rfl) ?_
  refine OW.last 1 [0, 1, 14] (x' := ⟨[(14, .v (.bool (!(wi n 0 ((List.length s.there : Int) - 1))))), (0, .ref 9 8 0 6), (1, VI n)], (sbbq38 s n d)⟩) (by kernel_rfl) (by kernel_rfl) ?_
  rw [h8]
  refine EL.condT (by kernel_rfl) ?_
  refine EL.sreg ?_
  refine OW.last 2 [4, 5] (x' := ⟨[(5, VI 3), (4, VI 0)], (sbbq38 s n d)⟩) (by kernel_rfl) (by kernel_rfl) ?_
  refine EL.ret ?_
  refine thenL_ret ?_
  refine ⟨.inr rfl, ⟨[(4, VI 0), (5, VI 3)], (sbbq38 s n d)⟩, norm_le (live := [4, 5]) (src := [.old 0 false, .old 1 false, .old 2 false, .old 3 false, .old 4 true, .old 5 true, .old 6 true, .old 7 true, .old 8 true, .old 9 false, .old 10 false]) (es := []) (by kernel_rfl) ⟨pucZ s.first (by kernel_rfl), pucZ s.second (by kernel_rfl), pu 2 Record.cs s.log (by kernel_rfl) (by intro y; kernel_rfl), pucI s.there (by kernel_rfl), pucI s.back (by kernel_rfl), trivial⟩, by kernel_rfl, rfl⟩
  refine DW.last 5 [6] (x' := ⟨[(6, VI 3)], (sbbq38 s n d)⟩) (by kernel_rfl) (by kernel_rfl) ?_
  refine EL.sreg ?_
  refine OW.last 2 [4] (x' := ⟨[(4, VI 3)], (sbbq38 s n d)⟩) (by kernel_rfl) (by kernel_rfl) ?_
  refine EL.ret ?_
  refine ⟨.inr rfl, ⟨[(4, VI 3)], (sbbq24 s n d)⟩, norm_le (live := [4]) (src := [.old 0 false, .old 1 false, .old 2 false, .old 3 false, .old 4 true, .old 5 true, .old 6 true, .old 7 true, .old 8 true, .old 9 false]) (es := []) (by kernel_rfl) ⟨pucZ s.first (by kernel_rfl), pucZ s.second (by kernel_rfl), pu 2 Record.cs s.log (by kernel_rfl) (by intro y; kernel_rfl), pucI s.there (by kernel_rfl), pucI s.back (by kernel_rfl), trivial⟩, by kernel_rfl, rfl⟩
  refine OW.end 1 (x' := ⟨(9, VI 3) :: (23, VI 3) :: (sbbq37 n d), (sbbq24 s n d)⟩) (by kernel_rfl) (by kernel_rfl) ?_
  refine inBlk_norm ?_
  refine thenL_norm ?_
  refine EL.seq ?_
  refine EL.sreg ?_
  refine OW.last 2 [4, 6, 9, 44] (x' := ⟨sbbq58, (sbbq24 s n d)⟩) (by kernel_rfl) (by kernel_rfl) ?_
  refine EL.condT (by kernel_rfl) ?_
  refine EL.sreg ?_
  refine OW.last 4 [4, 5] (x' := ⟨[(5, VI 3), (4, .ref 2 8 0 0)], (sbbq24 s n d)⟩) (by kernel_rfl) (by kernel_rfl) ?_
  refine EL.ret ?_
  refine thenL_ret ?_
  refine ⟨.inr rfl, .tup [.agg [.emp, .emp, .emp, VI 0, VI 0, VI 0, .emp, .emp], VI 3], by kernel_rfl, Ale.trans (b := .tup [sbbq59, VI 3]) (Ale.tup (.cons (Ale.agg (.cons (Ale.emp) (.cons (Ale.emp) (.cons (Ale.emp) (.cons (Ale.refl) (.cons (Ale.refl) (.cons (Ale.refl) (.cons (Ale.emp) (.cons (Ale.emp) (.nil)))))))))) (.cons (Ale.refl) (.nil)))) (Ale.of_eq ?_)⟩
  focus (skip; clear ee tt bb; rw [Ship.step_4]; (try split) <;> first | rfl | contradiction | (exfalso; omega) | (exfalso; simp_all; done) | (simp only [Ship.loseP, wi_iff]; (repeat' split) <;> first | rfl | (exfalso; omega) | (simp; done) | (simp; omega) | (simp_all; done) | (simp_all; omega)))
  have g7 : ¬ (d = (⟨#[]⟩)) := fun hh => Bool.noConfusion ((strEq_iff.2 hh).symm.trans h7)
  refine EL.condT (by kernel_rfl) ?_
  refine EL.reg0 ?_
  refine OW.end 1 (x' := ⟨(9, VI 1) :: sbbq36, (sbbq24 s n d)⟩) (by kernel_rfl) (by kernel_rfl) ?_
  refine inBlk_norm ?_
  refine thenL_norm ?_
  refine EL.seq ?_
  refine EL.sreg ?_
  refine OW.last 2 [4, 6, 9, 44] (x' := ⟨sbbq60, (sbbq24 s n d)⟩) (by kernel_rfl) (by kernel_rfl) ?_
  refine EL.condT (by kernel_rfl) ?_
  refine EL.sreg ?_
  refine OW.last 4 [4, 5] (x' := ⟨[(5, VI 1), (4, .ref 2 8 0 0)], (sbbq24 s n d)⟩) (by kernel_rfl) (by kernel_rfl) ?_
  refine EL.ret ?_
  refine thenL_ret ?_
  refine ⟨.inr rfl, .tup [.agg [.emp, .emp, .emp, VI 0, VI 0, VI 0, .emp, .emp], VI 1], by kernel_rfl, Ale.trans (b := .tup [sbbq59, VI 1]) (Ale.tup (.cons (Ale.agg (.cons (Ale.emp) (.cons (Ale.emp) (.cons (Ale.emp) (.cons (Ale.refl) (.cons (Ale.refl) (.cons (Ale.refl) (.cons (Ale.emp) (.cons (Ale.emp) (.nil)))))))))) (.cons (Ale.refl) (.nil)))) (Ale.of_eq ?_)⟩
  focus (skip; rw [Ship.step_4, if_neg ‹_›]; rfl)
  try rw [h1]
  have g1 : ¬ ((1 : Int) ≤ 4 ∧ (4 : Int) ≤ 8) := fun hh => Bool.noConfusion ((wi_iff.2 hh).symm.trans h1)
  refine OW.fi (ar := [.ref 9 8 0 0, VI 4]) (r := .tup [.v (.nilFunc), .v (.bool false)]) (m' := (sbbq24 s n d)) (x' := ⟨sbbq61, (sbbq24 s n d)⟩) (by kernel_rfl) (by kernel_rfl) F58_call ?_ (by kernel_rfl) ?_
  refine fi_walkW F58_ok (of_decide_eq_true (by kernel_rfl)) ?_
  refine EL.sreg ?_
  refine OW.last 2 [0, 1] (x' := ⟨[(0, .ref 9 8 0 0), (1, VI 4)], (sbbq24 s n d)⟩) (by kernel_rfl) (by kernel_rfl) ?_
  refine EL.sreg ?_
  refine OW.last 19 [1, 6] (x' := ⟨[(6, .ref 10 9 0 0), (1, VI 4)], (sbbq28 s n d)⟩) (by kernel_rfl) (by kernel_rfl) ?_
  refine EL.seq ?_
  refine EL.sreg ?_
  refine OW.run 1 (x' := ⟨[(24, VI 4), (6, .ref 10 9 0 0), (1, VI 4)], (sbbq28 s n d)⟩) (by kernel_rfl) ?_
  refine OW.fn (ar := [VI 4, VI 1, VI 8]) (x' := ⟨[(25, .v (.bool (wi 4 1 8))), (24, VI 4), (6, .ref 10 9 0 0), (1, VI 4)], (sbbq28 s n d)⟩) (by kernel_rfl) (by kernel_rfl) F31_call (within_fn 4 1 8) (by kernel_rfl) (by kernel_rfl) ?_
  refine OW.last 1 [1, 6, 26] (x' := ⟨[(26, .v (.bool (!(wi 4 1 8)))), (6, .ref 10 9 0 0), (1, VI 4)], (sbbq28 s n d)⟩) (by kernel_rfl) (by kernel_rfl) ?_
  rw [h1]
  refine EL.condT (by kernel_rfl) ?_
  refine EL.sreg ?_
  refine OW.last 2 [4, 5] (x' := ⟨[(5, .v (.bool false)), (4, .v (.nilFunc))], (sbbq28 s n d)⟩) (by kernel_rfl) (by kernel_rfl) ?_
  refine EL.ret ?_
  refine thenL_ret ?_
  refine ⟨.inr rfl, ⟨[(4, .v (.nilFunc)), (5, .v (.bool false))], (sbbq24 s n d)⟩, norm_le (live := [4, 5]) (src := [.old 0 false, .old 1 false, .old 2 false, .old 3 false, .old 4 true, .old 5 true, .old 6 true, .old 7 true, .old 8 true, .old 9 false]) (es := []) (by kernel_rfl) ⟨pucZ s.first (by kernel_rfl), pucZ s.second (by kernel_rfl), pu 2 Record.cs s.log (by kernel_rfl) (by intro y; kernel_rfl), pucI s.there (by kernel_rfl), pucI s.back (by kernel_rfl), trivial⟩, by kernel_rfl, rfl⟩
  refine OW.last 5 [3, 4, 6, 7, 8] (x' := ⟨(8, .v (.bool false)) :: (7, .v (.nilFunc)) :: sbbq25, (sbbq24 s n d)⟩) (by kernel_rfl) (by kernel_rfl) ?_
  refine EL.sreg ?_
  refine OW.last 1 [3, 4, 6, 7, 8] (x' := ⟨(8, .v (.bool false)) :: (7, .v (.nilFunc)) :: sbbq25, (sbbq24 s n d)⟩) (by kernel_rfl) (by kernel_rfl) ?_
  refine EL.seq ?_
  refine EL.block ?_
  refine EL.sreg ?_
  refine OW.last 3 [3, 4, 6, 7, 8, 24] (x' := ⟨sbbq62, (sbbq24 s n d)⟩) (by kernel_rfl) (by kernel_rfl) ?_
  refine EL.condT (by kernel_rfl) ?_
  refine EL.reg0 ?_
  refine OW.end 1 (x' := ⟨(9, VI 7) :: sbbq62, (sbbq24 s n d)⟩) (by kernel_rfl) (by kernel_rfl) ?_
  refine inBlk_norm ?_
  refine thenL_norm ?_
  refine EL.seq ?_
  refine EL.sreg ?_
  refine OW.last 2 [4, 6, 9, 44] (x' := ⟨sbbq63, (sbbq24 s n d)⟩) (by kernel_rfl) (by kernel_rfl) ?_
  refine EL.condT (by kernel_rfl) ?_
  refine EL.sreg ?_
  refine OW.last 4 [4, 5] (x' := ⟨[(5, VI 7), (4, .ref 2 8 0 0)], (sbbq24 s n d)⟩) (by kernel_rfl) (by kernel_rfl) ?_
  refine EL.ret ?_
  refine thenL_ret ?_
  refine ⟨.inr rfl, .tup [.agg [.emp, .emp, .emp, VI 0, VI 0, VI 0, .emp, .emp], VI 7], by kernel_rfl, Ale.trans (b := .tup [sbbq59, VI 7]) (Ale.tup (.cons (Ale.agg (.cons (Ale.emp) (.cons (Ale.emp) (.cons (Ale.emp) (.cons (Ale.refl) (.cons (Ale.refl) (.cons (Ale.refl) (.cons (Ale.emp) (.cons (Ale.emp) (.nil)))))))))) (.cons (Ale.refl) (.nil)))) (Ale.of_eq ?_)⟩
  focus (skip; exfalso; omega)
abbrev sbbq64 (s : Ship) (n : Int) (d : ByteArray) : LB := [(sbbq0 s), some ⟨3, [[VI 5, VI n, .v (.string d)]]⟩, sbbq1]
abbrev sbbq65 (s : Ship) (n : Int) (d : ByteArray) : LB := [(sbbq0 s), some ⟨3, [[VI 5, VI n, .v (.string d)]]⟩, sbbq1, (sbbq0 s), sbbq1]
abbrev sbbq66 (s : Ship) (n : Int) (d : ByteArray) : LB := [(sbbq0 s), some ⟨3, [[VI 5, VI n, .v (.string d)]]⟩, sbbq1, (sbbq0 s), sbbq1, some ⟨1, (s.first.map cZ)⟩]
abbrev sbbq67 (s : Ship) (n : Int) (d : ByteArray) : LB := [(sbbq0 s), some ⟨3, [[VI 5, VI n, .v (.string d)]]⟩, sbbq1, (sbbq0 s), sbbq1, some ⟨1, (s.first.map cZ)⟩, some ⟨1, (s.second.map cZ)⟩]
abbrev sbbq68 (s : Ship) (n : Int) (d : ByteArray) : LB := [(sbbq0 s), some ⟨3, [[VI 5, VI n, .v (.string d)]]⟩, sbbq1, (sbbq0 s), sbbq1, some ⟨1, (s.first.map cZ)⟩, some ⟨1, (s.second.map cZ)⟩, some ⟨2, (s.log.map Record.cs)⟩]
abbrev sbbq69 (s : Ship) (n : Int) (d : ByteArray) : LB := [(sbbq0 s), some ⟨3, [[VI 5, VI n, .v (.string d)]]⟩, sbbq1, (sbbq12 s), sbbq1, some ⟨1, (s.first.map cZ)⟩, some ⟨1, (s.second.map cZ)⟩, some ⟨2, (s.log.map Record.cs)⟩]
abbrev sbbq70 (s : Ship) (n : Int) (d : ByteArray) : LB := [(sbbq0 s), some ⟨3, [[VI 5, VI n, .v (.string d)]]⟩, sbbq1, (sbbq12 s), sbbq1, some ⟨1, (s.first.map cZ)⟩, some ⟨1, (s.second.map cZ)⟩, some ⟨2, (s.log.map Record.cs)⟩, some ⟨1, (s.there.map cI)⟩]
abbrev sbbq71 (s : Ship) (n : Int) (d : ByteArray) : LB := [(sbbq0 s), some ⟨3, [[VI 5, VI n, .v (.string d)]]⟩, sbbq1, (sbbq12 s), sbbq1, some ⟨1, (s.first.map cZ)⟩, some ⟨1, (s.second.map cZ)⟩, some ⟨2, (s.log.map Record.cs)⟩, some ⟨1, (s.there.map cI)⟩, some ⟨1, (s.back.map cI)⟩]
abbrev sbbq72 (s : Ship) (n : Int) (d : ByteArray) : LB := [(sbbq0 s), some ⟨3, [[VI 5, VI n, .v (.string d)]]⟩, sbbq1, (sbbq18 s), sbbq1, some ⟨1, (s.first.map cZ)⟩, some ⟨1, (s.second.map cZ)⟩, some ⟨2, (s.log.map Record.cs)⟩, some ⟨1, (s.there.map cI)⟩, some ⟨1, (s.back.map cI)⟩]
abbrev sbbq73 (s : Ship) (n : Int) (d : ByteArray) : LB := [(sbbq0 s), some ⟨3, [[VI 5, VI n, .v (.string d)]]⟩, sbbq1, (sbbq18 s), (sbbq18 s), some ⟨1, (s.first.map cZ)⟩, some ⟨1, (s.second.map cZ)⟩, some ⟨2, (s.log.map Record.cs)⟩, some ⟨1, (s.there.map cI)⟩, some ⟨1, (s.back.map cI)⟩]
abbrev sbbq74 (s : Ship) (n : Int) (d : ByteArray) : LB := [(sbbq0 s), some ⟨3, [[VI 5, VI n, .v (.string d)]]⟩, sbbq1, (sbbq22 s), some ⟨1, (s.first.map cZ)⟩, some ⟨1, (s.second.map cZ)⟩, some ⟨2, (s.log.map Record.cs)⟩, some ⟨1, (s.there.map cI)⟩, some ⟨1, (s.back.map cI)⟩]
abbrev sbbq75 (s : Ship) (n : Int) (d : ByteArray) : LB := [(sbbq0 s), some ⟨3, [[VI 5, VI n, .v (.string d)]]⟩, sbbq1, (sbbq22 s), some ⟨1, (s.first.map cZ)⟩, some ⟨1, (s.second.map cZ)⟩, some ⟨2, (s.log.map Record.cs)⟩, some ⟨1, (s.there.map cI)⟩, some ⟨1, (s.back.map cI)⟩, (sbbq22 s)]
abbrev sbbq76 : LS := (17, VI 5) :: (16, .ref 1 3 0 0) :: (15, .ref 9 8 0 0) :: sbbq25
abbrev sbbq77 (s : Ship) (n : Int) (d : ByteArray) : LB := [(sbbq0 s), some ⟨3, [[VI 5, VI n, .v (.string d)]]⟩, sbbq1, (sbbq22 s), some ⟨1, (s.first.map cZ)⟩, some ⟨1, (s.second.map cZ)⟩, some ⟨2, (s.log.map Record.cs)⟩, some ⟨1, (s.there.map cI)⟩, some ⟨1, (s.back.map cI)⟩, (sbbq22 s), sbbq27]
abbrev sbbq78 : LS := (18, .tup [.bf 77 [.ref 9 8 0 0], .v (.bool true)]) :: sbbq76
abbrev sbbq79 : LS := (8, .v (.bool true)) :: (7, .bf 77 [.ref 9 8 0 0]) :: sbbq25
abbrev sbbq80 (d : ByteArray) : LS := (29, .v (.string d)) :: (28, .ref 1 3 0 2) :: (24, .v (.bool false)) :: sbbq79
abbrev sbbq81 (n : Int) : LS := (37, VI n) :: (36, .ref 1 3 0 1) :: (27, .v (.bool false)) :: sbbq79
abbrev sbbq82 (n : Int) : LS := (27, .v (.bool false)) :: (42, .v (.bool false)) :: (41, .v (.bool false)) :: (40, .v (.bool true)) :: (39, .v (.bool true)) :: (38, .v (.bool true)) :: (37, VI n) :: (36, .ref 1 3 0 1) :: sbbq79
abbrev sbbq83 (n : Int) : LS := (27, .v (.bool false)) :: (42, .v (.bool false)) :: (41, .v undef) :: (40, .v undef) :: (39, .v (.bool false)) :: (38, .v (.bool false)) :: (37, VI n) :: (36, .ref 1 3 0 1) :: sbbq79
abbrev sbbq84 : LS := [(3, .ref 1 3 0 0), (4, .ref 2 8 0 0), (6, .ref 9 8 0 0), (7, .bf 77 [.ref 9 8 0 0]), (27, .v (.bool false))]
abbrev sbbq85 : LS := [(3, .ref 1 3 0 0), (4, .ref 2 8 0 0), (6, .ref 9 8 0 0), (7, .bf 77 [.ref 9 8 0 0]), (27, .v (.bool true))]
abbrev sbbq86 (n : Int) (d : ByteArray) : LS := (22, .agg [VI 5, VI n, .v (.string d)]) :: (21, .bf 77 [.ref 9 8 0 0]) :: sbbq84
abbrev sbbq87 (s : Ship) (n : Int) (d : ByteArray) : LB := [(sbbq0 s), some ⟨3, [[VI 5, VI n, .v (.string d)]]⟩, sbbq1, (sbbq22 s), some ⟨1, (s.first.map cZ)⟩, some ⟨1, (s.second.map cZ)⟩, some ⟨2, (s.log.map Record.cs)⟩, some ⟨1, (s.there.map cI)⟩, some ⟨1, (s.back.map cI)⟩, (sbbq22 s), some ⟨3, [[VI 5, VI n, .v (.string d)]]⟩]
abbrev sbbq88 (n : Int) : LS := [(13, VI n), (12, .ref 10 3 0 1), (11, .ref 9 8 0 7), (10, .ref 9 8 0 0), (9, .ref 9 8 0 0), (8, .ref 9 8 0 0), (3, .ref 10 3 0 0), (0, .ref 9 8 0 0)]
abbrev sbbq89 (s : Ship) (n : Int) : LS := [(11, VI (List.length s.back : Int)), (10, .own 8 1 0 (List.length s.back)), (9, .ref 9 8 0 7), (8, .ref 9 8 0 7), (7, VI n), (0, .ref 9 8 0 7), (1, VI n)]
abbrev sbbq90 (s : Ship) (n : Int) : LS := (12, VI ((List.length s.back : Int) - 1)) :: (sbbq89 s n)
abbrev sbbq91 (n : Int) (s : Ship) : LS := [(18, VI n), (17, .own 8 1 0 (List.length s.back)), (16, .ref 9 8 0 7), (15, .ref 9 8 0 7), (14, .v (.bool false)), (0, .ref 9 8 0 7), (1, VI n)]
abbrev sbbq92 (a9 : Int) (n : Int) (s : Ship) : LS := (20, VI a9) :: (19, .ref 8 1 (0 + Int.toNat n) 0) :: (sbbq91 n s)
abbrev sbbq93 (n : Int) (s : Ship) (a9 : Int) : LS := [(26, VI n), (25, VI n), (24, .own 8 1 0 (List.length s.back)), (23, .ref 9 8 0 7), (22, .ref 9 8 0 7), (21, .ref 9 8 0 7), (6, VI a9), (0, .ref 9 8 0 7), (1, VI n)]
abbrev sbbq94 (s : Ship) (n : Int) (d : ByteArray) : LB := [(sbbq0 s), some ⟨3, [[VI 5, VI n, .v (.string d)]]⟩, sbbq1, (sbbq22 s), some ⟨1, (s.first.map cZ)⟩, some ⟨1, (s.second.map cZ)⟩, some ⟨2, (s.log.map Record.cs)⟩, some ⟨1, (s.there.map cI)⟩, none, (sbbq22 s), some ⟨3, [[VI 5, VI n, .v (.string d)]]⟩, none, some ⟨1, ((List.eraseIdx s.back (Int.toNat n)).map cI)⟩]
abbrev sbbq95 (s : Ship) (n : Int) (a9 : Int) : LS := (28, .own 12 1 0 (List.length (List.eraseIdx s.back (Int.toNat n)))) :: (27, VI (n + 1)) :: (sbbq93 n s a9)
abbrev sbbq96 (s : Ship) (n : Int) : OB := some ⟨8, [[.own 4 1 0 (List.length s.first), .own 5 1 0 (List.length s.second), .own 6 2 0 (List.length s.log), VI s.sent, VI s.applied, VI s.known, .own 7 1 0 (List.length s.there), .own 12 1 0 (List.length (List.eraseIdx s.back (Int.toNat n)))]]⟩
abbrev sbbq97 (s : Ship) (n : Int) (d : ByteArray) : LB := [(sbbq0 s), some ⟨3, [[VI 5, VI n, .v (.string d)]]⟩, sbbq1, (sbbq22 s), some ⟨1, (s.first.map cZ)⟩, some ⟨1, (s.second.map cZ)⟩, some ⟨2, (s.log.map Record.cs)⟩, some ⟨1, (s.there.map cI)⟩, none, (sbbq96 s n), some ⟨3, [[VI 5, VI n, .v (.string d)]]⟩, none, some ⟨1, ((List.eraseIdx s.back (Int.toNat n)).map cI)⟩]
abbrev sbbq98 (s : Ship) : OB := some ⟨8, [[.own 4 1 0 (List.length s.first), .own 5 1 0 (List.length s.second), .own 6 2 0 (List.length s.log), VI s.sent, VI s.applied, VI s.known, .own 7 1 0 (List.length s.there), .dead]]⟩
abbrev sbbq99 (s : Ship) (n : Int) : OB := some ⟨8, [[.own 4 1 0 (List.length s.first), .own 5 1 0 (List.length s.second), .own 6 2 0 (List.length s.log), VI s.sent, VI s.applied, VI s.known, .own 7 1 0 (List.length s.there), .own 11 1 0 (List.length (List.eraseIdx s.back (Int.toNat n)))]]⟩
abbrev sbbq100 (s : Ship) (n : Int) (d : ByteArray) : LB := [(sbbq0 s), some ⟨3, [[VI 5, VI n, .v (.string d)]]⟩, sbbq1, (sbbq98 s), some ⟨1, (s.first.map cZ)⟩, some ⟨1, (s.second.map cZ)⟩, some ⟨2, (s.log.map Record.cs)⟩, some ⟨1, (s.there.map cI)⟩, none, (sbbq99 s n), some ⟨3, [[VI 5, VI n, .v (.string d)]]⟩, some ⟨1, ((List.eraseIdx s.back (Int.toNat n)).map cI)⟩]
abbrev sbbq101 (a9 : Int) : LS := [(18, .v (.bool true)), (6, VI 0), (5, VI a9), (0, .ref 9 8 0 0)]
abbrev sbbq102 (s : Ship) : LS := [(39, .ref 9 8 0 5), (38, .ref 9 8 0 0), (37, .ref 9 8 0 0), (36, .ref 9 8 0 0), (35, VI s.sent), (34, .ref 9 8 0 3), (33, .ref 9 8 0 0), (32, .ref 9 8 0 0), (31, .ref 9 8 0 0), (30, .ref 9 8 0 0), (6, VI 0), (0, .ref 9 8 0 0)]
abbrev sbbq103 : LS := [(18, .v (.bool false)), (6, VI 3), (5, VI 0), (0, .ref 9 8 0 0)]
abbrev sbbq104 : LS := (18, .tup [.v (.nilFunc), .v (.bool false)]) :: sbbq76
theorem step5_fn (s : Ship) (n : Int) (d : ByteArray) (ok : s.Ok) : Fn Try.prog 32 [.agg [.lst 1 (s.first.map cZ), .lst 1 (s.second.map cZ), .lst 2 (s.log.map Record.cs), VI s.sent, VI s.applied, VI s.known, .lst 1 (s.there.map cI), .lst 1 (s.back.map cI)], .agg [VI 5, VI n, .v (.string d)]] (.tup [.agg [.lst 1 ((((s.stepP ⟨5, n, d⟩).1).first).map cZ), .lst 1 ((((s.stepP ⟨5, n, d⟩).1).second).map cZ), .lst 2 ((((s.stepP ⟨5, n, d⟩).1).log).map Record.cs), VI (((s.stepP ⟨5, n, d⟩).1).sent), VI (((s.stepP ⟨5, n, d⟩).1).applied), VI (((s.stepP ⟨5, n, d⟩).1).known), .lst 1 ((((s.stepP ⟨5, n, d⟩).1).there).map cI), .lst 1 ((((s.stepP ⟨5, n, d⟩).1).back).map cI)], VI ((s.stepP ⟨5, n, d⟩).2)]) := by
  obtain ⟨⟨a1, a2⟩, b1, c1, c2, ⟨d1, d2, d3⟩, ee, ⟨k1, k2, k3, k4, k5⟩, tt, bb⟩ := ok
  refine fn_walkW F32_ok (of_decide_eq_true (by kernel_rfl)) ?_
  refine EL.sreg ?_
  refine OW.last 4 [2, 3, 4] (x' := ⟨sbbq3, (sbbq64 s n d)⟩) (by kernel_rfl) (by kernel_rfl) ?_
  refine EL.sreg ?_
  refine OW.run 1 (x' := ⟨(10, (sbbq4 s)) :: sbbq3, (sbbq64 s n d)⟩) (by kernel_rfl) ?_
  refine OW.fi (ar := [(sbbq4 s)]) (r := (sbbq21 s)) (m' := (sbbq74 s n d)) (x' := ⟨(11, (sbbq21 s)) :: (10, (sbbq4 s)) :: sbbq3, (sbbq74 s n d)⟩) (by kernel_rfl) (by kernel_rfl) F42_call ?_ (by kernel_rfl) ?_
  refine fi_walkW F42_ok (of_decide_eq_true (by kernel_rfl)) ?_
  refine EL.sreg ?_
  refine OW.last 2 [1, 2] (x' := ⟨[(2, .ref 4 8 0 0), (1, .ref 3 8 0 0)], (sbbq65 s n d)⟩) (by kernel_rfl) (by kernel_rfl) ?_
  refine EL.sdraw ?_
  refine DW.run 2 (x' := ⟨(sbbq6 s), (sbbq65 s n d)⟩) (by kernel_rfl) ?_
  refine DW.fo (ar := [.lst 1 (s.first.map cZ)]) (fe := cZ) (xs := s.first) (x' := ⟨(5, .own 5 1 0 (List.length s.first)) :: (sbbq6 s), (sbbq66 s n d)⟩) (by kernel_rfl) (by kernel_rfl) F61_call (cloneZ_fo s.first (by omega)) (by intro y; kernel_rfl) (by kernel_rfl) (by kernel_rfl) ?_
  refine DW.run 2 (x' := ⟨(sbbq8 s), (sbbq66 s n d)⟩) (by kernel_rfl) ?_
  refine DW.fo (ar := [.lst 1 (s.second.map cZ)]) (fe := cZ) (xs := s.second) (x' := ⟨(8, .own 6 1 0 (List.length s.second)) :: (sbbq8 s), (sbbq67 s n d)⟩) (by kernel_rfl) (by kernel_rfl) F61_call (cloneZ_fo s.second (by omega)) (by intro y; kernel_rfl) (by kernel_rfl) (by kernel_rfl) ?_
  refine DW.run 2 (x' := ⟨(sbbq10 s), (sbbq67 s n d)⟩) (by kernel_rfl) ?_
  refine DW.fo (ar := [.lst 2 (s.log.map Record.cs)]) (fe := Record.cs) (xs := s.log) (x' := ⟨(11, .own 7 2 0 (List.length s.log)) :: (sbbq10 s), (sbbq68 s n d)⟩) (by kernel_rfl) (by kernel_rfl) F62_call (cloneR_fo s.log (by omega)) (by intro y; kernel_rfl) (by kernel_rfl) (by kernel_rfl) ?_
  refine DW.last 6 [1, 2] (x' := ⟨[(2, .ref 4 8 0 0), (1, .ref 3 8 0 0)], (sbbq69 s n d)⟩) (by kernel_rfl) (by kernel_rfl) ?_
  refine EL.sdraw ?_
  refine DW.run 2 (x' := ⟨(sbbq14 s), (sbbq69 s n d)⟩) (by kernel_rfl) ?_
  refine DW.fo (ar := [.lst 1 (s.there.map cI)]) (fe := cI) (xs := s.there) (x' := ⟨(17, .own 8 1 0 (List.length s.there)) :: (sbbq14 s), (sbbq70 s n d)⟩) (by kernel_rfl) (by kernel_rfl) F50_call (cloneI_fo s.there (by omega)) (by intro y; kernel_rfl) (by kernel_rfl) (by kernel_rfl) ?_
  refine DW.run 2 (x' := ⟨(sbbq16 s), (sbbq70 s n d)⟩) (by kernel_rfl) ?_
  refine DW.fo (ar := [.lst 1 (s.back.map cI)]) (fe := cI) (xs := s.back) (x' := ⟨(20, .own 9 1 0 (List.length s.back)) :: (sbbq16 s), (sbbq71 s n d)⟩) (by kernel_rfl) (by kernel_rfl) F50_call (cloneI_fo s.back (by omega)) (by intro y; kernel_rfl) (by kernel_rfl) (by kernel_rfl) ?_
  refine DW.last 4 [1, 2] (x' := ⟨[(2, .ref 4 8 0 0), (1, .ref 3 8 0 0)], (sbbq72 s n d)⟩) (by kernel_rfl) (by kernel_rfl) ?_
  refine EL.sreg ?_
  refine OW.last 2 [2] (x' := ⟨[(2, .ref 4 8 0 0)], (sbbq73 s n d)⟩) (by kernel_rfl) (by kernel_rfl) ?_
  refine EL.ret ?_
  refine ⟨.inr rfl, ⟨[(2, .ref 3 8 0 0)], (sbbq74 s n d)⟩, norm_le (live := [2]) (src := [.old 0 false, .old 1 false, .old 2 false, .old 4 false, .old 5 true, .old 6 true, .old 7 true, .old 8 true, .old 9 true]) (es := []) (by kernel_rfl) ⟨pucZ s.first (by kernel_rfl), pucZ s.second (by kernel_rfl), pu 2 Record.cs s.log (by kernel_rfl) (by intro y; kernel_rfl), pucI s.there (by kernel_rfl), pucI s.back (by kernel_rfl), trivial⟩, by kernel_rfl, rfl⟩
  refine OW.last 3 [3, 4, 6] (x' := ⟨sbbq25, (sbbq75 s n d)⟩) (by kernel_rfl) (by kernel_rfl) ?_
  refine EL.sreg ?_
  refine OW.run 3 (x' := ⟨sbbq76, (sbbq75 s n d)⟩) (by kernel_rfl) ?_
  rcases Bool.eq_false_or_eq_true (wi 5 1 8) with h1 | h1
  try rw [h1]
  have g1 : ((1 : Int) ≤ 5 ∧ (5 : Int) ≤ 8) := wi_iff.1 h1
  refine OW.fi (ar := [.ref 9 8 0 0, VI 5]) (r := .tup [.bf 77 [.ref 9 8 0 0], .v (.bool true)]) (m' := (sbbq75 s n d)) (x' := ⟨sbbq78, (sbbq75 s n d)⟩) (by kernel_rfl) (by kernel_rfl) F58_call ?_ (by kernel_rfl) ?_
  refine fi_walkW F58_ok (of_decide_eq_true (by kernel_rfl)) ?_
  refine EL.sreg ?_
  refine OW.last 2 [0, 1] (x' := ⟨[(0, .ref 9 8 0 0), (1, VI 5)], (sbbq75 s n d)⟩) (by kernel_rfl) (by kernel_rfl) ?_
  refine EL.sreg ?_
  refine OW.last 19 [1, 6] (x' := ⟨[(6, .ref 10 9 0 0), (1, VI 5)], (sbbq77 s n d)⟩) (by kernel_rfl) (by kernel_rfl) ?_
  refine EL.seq ?_
  refine EL.sreg ?_
  refine OW.run 1 (x' := ⟨[(24, VI 5), (6, .ref 10 9 0 0), (1, VI 5)], (sbbq77 s n d)⟩) (by kernel_rfl) ?_
  refine OW.fn (ar := [VI 5, VI 1, VI 8]) (x' := ⟨[(25, .v (.bool (wi 5 1 8))), (24, VI 5), (6, .ref 10 9 0 0), (1, VI 5)], (sbbq77 s n d)⟩) (by kernel_rfl) (by kernel_rfl) F31_call (within_fn 5 1 8) (by kernel_rfl) (by kernel_rfl) ?_
  refine OW.last 1 [1, 6, 26] (x' := ⟨[(26, .v (.bool (!(wi 5 1 8)))), (6, .ref 10 9 0 0), (1, VI 5)], (sbbq77 s n d)⟩) (by kernel_rfl) (by kernel_rfl) ?_
  rw [h1]
  refine EL.condF (by kernel_rfl) ?_
  refine EL.skip ?_
  refine thenL_norm ?_
  refine EL.sreg ?_
  refine OW.last 11 [4, 5] (x' := ⟨[(5, .v (.bool true)), (4, .bf 77 [.ref 9 8 0 0])], (sbbq77 s n d)⟩) (by kernel_rfl) (by kernel_rfl) ?_
  refine EL.ret ?_
  refine ⟨.inr rfl, ⟨[(4, .bf 77 [.ref 9 8 0 0]), (5, .v (.bool true))], (sbbq75 s n d)⟩, norm_le (live := [4, 5]) (src := [.old 0 false, .old 1 false, .old 2 false, .old 3 false, .old 4 true, .old 5 true, .old 6 true, .old 7 true, .old 8 true, .old 9 false]) (es := []) (by kernel_rfl) ⟨pucZ s.first (by kernel_rfl), pucZ s.second (by kernel_rfl), pu 2 Record.cs s.log (by kernel_rfl) (by intro y; kernel_rfl), pucI s.there (by kernel_rfl), pucI s.back (by kernel_rfl), trivial⟩, by kernel_rfl, rfl⟩
  refine OW.last 5 [3, 4, 6, 7, 8] (x' := ⟨sbbq79, (sbbq75 s n d)⟩) (by kernel_rfl) (by kernel_rfl) ?_
  refine EL.sreg ?_
  refine OW.last 1 [3, 4, 6, 7, 8] (x' := ⟨sbbq79, (sbbq75 s n d)⟩) (by kernel_rfl) (by kernel_rfl) ?_
  refine EL.seq ?_
  refine EL.block ?_
  refine EL.sreg ?_
  refine OW.last 3 [3, 4, 6, 7, 8, 24] (x' := ⟨(24, .v (.bool false)) :: sbbq79, (sbbq75 s n d)⟩) (by kernel_rfl) (by kernel_rfl) ?_
  refine EL.condF (by kernel_rfl) ?_
  refine EL.seqG [3, 4, 6, 7, 27] (fun y => (y = ⟨sbbq84, (sbbq75 s n d)⟩ ∧ strEq d (⟨#[]⟩) = true ∧ ((¬ (n = 0)) ∨ ((n = 0)))) ∨ (y = ⟨sbbq85, (sbbq75 s n d)⟩ ∧ strEq d (⟨#[]⟩) = false)) ?_ ?_
  intro IHJ2 HJ2
  refine EL.sreg ?_
  refine OW.run 4 (x' := ⟨(31, .v (.bool (!(strEq d (⟨#[]⟩))))) :: (30, .v (.bool (!(strEq d (⟨#[]⟩))))) :: (sbbq80 d), (sbbq75 s n d)⟩) (by kernel_rfl) ?_
  rcases Bool.eq_false_or_eq_true (strEq d (⟨#[]⟩)) with h3 | h3
  rw [h3]
  have g3 : (d = (⟨#[]⟩)) := strEq_iff.1 h3
  refine OW.last 5 [3, 4, 6, 7, 8, 27] (x' := ⟨(27, .v (.bool false)) :: sbbq79, (sbbq75 s n d)⟩) (by kernel_rfl) (by kernel_rfl) ?_
  refine EL.condF (by kernel_rfl) ?_
  refine EL.reg0 ?_
  refine OW.run 4 (x' := ⟨(39, .v (.bool (n != 0))) :: (38, .v (.bool (n != 0))) :: (sbbq81 n), (sbbq75 s n d)⟩) (by kernel_rfl) ?_
  rcases Bool.eq_false_or_eq_true ((n != 0)) with h4 | h4
  rw [h4]
  have g4 : ¬ (n = 0) := by simpa using h4
  refine OW.end 4 (x' := ⟨(sbbq82 n), (sbbq75 s n d)⟩) (by kernel_rfl) (by kernel_rfl) ?_
  exact thenL_norm (HJ2.get (Or.inl ⟨by kernel_rfl, h3, (Or.inl (by first | exact g4 | exact h4 | simp_all | omega))⟩))
  rw [h4]
  have g4 : (n = 0) := by simpa using h4
  refine OW.end 4 (x' := ⟨(sbbq83 n), (sbbq75 s n d)⟩) (by kernel_rfl) (by kernel_rfl) ?_
  exact thenL_norm (HJ2.get (Or.inl ⟨by kernel_rfl, h3, (Or.inr (by first | exact g4 | exact h4 | simp_all | omega))⟩))
  rw [h3]
  have g3 : ¬ (d = (⟨#[]⟩)) := fun hh => Bool.noConfusion ((strEq_iff.2 hh).symm.trans h3)
  refine OW.last 5 [3, 4, 6, 7, 8, 27] (x' := ⟨(27, .v (.bool true)) :: sbbq79, (sbbq75 s n d)⟩) (by kernel_rfl) (by kernel_rfl) ?_
  refine EL.condT (by kernel_rfl) ?_
  refine EL.skip ?_
  exact thenL_norm (HJ2.get (Or.inr ⟨by kernel_rfl, h3⟩))
  rintro _ (⟨rfl, h5, hD6⟩ | ⟨rfl, h7⟩)
  have g5 : (d = (⟨#[]⟩)) := strEq_iff.1 h5
  refine EL.condF (by kernel_rfl) ?_
  refine EL.reg0 ?_
  refine OW.run 2 (x' := ⟨(sbbq86 n d), (sbbq75 s n d)⟩) (by kernel_rfl) ?_
  rcases Bool.eq_false_or_eq_true (wi n 0 ((List.length s.back : Int) - 1)) with h8 | h8
  try rw [h8]
  have g8 : ((0 : Int) ≤ n ∧ (n : Int) ≤ ((List.length s.back : Int) - 1)) := wi_iff.1 h8
  obtain ⟨a9, ha9⟩ : ∃ y, s.back[(n : Int).toNat]? = some y := idx_ex ⟨by omega, by omega⟩
  have ma9 := bb _ (List.mem_of_getElem? ha9)
  refine OW.fi (ar := [.ref 9 8 0 0, .agg [VI 5, VI n, .v (.string d)]]) (r := VI 0) (m' := [(sbbq0 s), some ⟨3, [[VI 5, VI n, .v (.string d)]]⟩, sbbq1, (sbbq98 s), some ⟨1, (s.first.map cZ)⟩, some ⟨1, (s.second.map cZ)⟩, some ⟨2, (s.log.map Record.cs)⟩, some ⟨1, (s.there.map cI)⟩, none, some ⟨8, [[.own 4 1 0 (List.length s.first), .own 5 1 0 (List.length s.second), .own 6 2 0 (List.length s.log), VI (if (if a9 > s.known then a9 else s.known) > s.sent then (if a9 > s.known then a9 else s.known) else s.sent), VI s.applied, VI (if a9 > s.known then a9 else s.known), .own 7 1 0 (List.length s.there), .own 10 1 0 (List.length (List.eraseIdx s.back (Int.toNat n)))]]⟩, some ⟨1, ((List.eraseIdx s.back (Int.toNat n)).map cI)⟩]) (x' := ⟨(23, VI 0) :: (sbbq86 n d), [(sbbq0 s), some ⟨3, [[VI 5, VI n, .v (.string d)]]⟩, sbbq1, (sbbq98 s), some ⟨1, (s.first.map cZ)⟩, some ⟨1, (s.second.map cZ)⟩, some ⟨2, (s.log.map Record.cs)⟩, some ⟨1, (s.there.map cI)⟩, none, some ⟨8, [[.own 4 1 0 (List.length s.first), .own 5 1 0 (List.length s.second), .own 6 2 0 (List.length s.log), VI (if (if a9 > s.known then a9 else s.known) > s.sent then (if a9 > s.known then a9 else s.known) else s.sent), VI s.applied, VI (if a9 > s.known then a9 else s.known), .own 7 1 0 (List.length s.there), .own 10 1 0 (List.length (List.eraseIdx s.back (Int.toNat n)))]]⟩, some ⟨1, ((List.eraseIdx s.back (Int.toNat n)).map cI)⟩]⟩) (by kernel_rfl) (by kernel_rfl) F77_call ?_ (by kernel_rfl) ?_
  refine fi_walkW F77_ok (of_decide_eq_true (by kernel_rfl)) ?_
  refine EL.sreg ?_
  refine OW.last 2 [0, 3] (x' := ⟨[(3, .ref 10 3 0 0), (0, .ref 9 8 0 0)], (sbbq87 s n d)⟩) (by kernel_rfl) (by kernel_rfl) ?_
  refine EL.sdraw ?_
  refine DW.run 6 (x' := ⟨(sbbq88 n), (sbbq87 s n d)⟩) (by kernel_rfl) ?_
  refine DW.fi (ar := [.ref 9 8 0 7, VI n]) (r := .tup [VI a9, VI 0]) (m' := (sbbq100 s n d)) (x' := ⟨(14, .tup [VI a9, VI 0]) :: (sbbq88 n), (sbbq100 s n d)⟩) (by kernel_rfl) (by kernel_rfl) F83_call ?_ (by kernel_rfl) (by kernel_rfl) (by kernel_rfl) ?_
  refine fi_walkW F83_ok (of_decide_eq_true (by kernel_rfl)) ?_
  refine EL.sreg ?_
  refine OW.last 2 [0, 1] (x' := ⟨[(0, .ref 9 8 0 7), (1, VI n)], (sbbq87 s n d)⟩) (by kernel_rfl) (by kernel_rfl) ?_
  refine EL.seq ?_
  refine EL.sreg ?_
  refine OW.run 6 (x' := ⟨(12, VI (IntKind.i64.wrap ((List.length s.back : Int) - 1))) :: (sbbq89 s n), (sbbq87 s n d)⟩) (by kernel_rfl) ?_
  have e10 : IntKind.i64.wrap ((List.length s.back : Int) - 1) = (List.length s.back : Int) - 1 := wr64 (by omega)
  rw [e10]
  refine OW.fn (ar := [VI n, VI 0, VI ((List.length s.back : Int) - 1)]) (x' := ⟨(13, .v (.bool (wi n 0 ((List.length s.back : Int) - 1)))) :: (sbbq90 s n), (sbbq87 s n d)⟩) (by kernel_rfl) (by kernel_rfl) F31_call (within_fn n 0 ((List.length s.back : Int) - 1)) (by kernel_rfl) (by kernel_rfl) ?_
  refine OW.last 1 [0, 1, 14] (x' := ⟨[(14, .v (.bool (!(wi n 0 ((List.length s.back : Int) - 1))))), (0, .ref 9 8 0 7), (1, VI n)], (sbbq87 s n d)⟩) (by kernel_rfl) (by kernel_rfl) ?_
  rw [h8]
  refine EL.condF (by kernel_rfl) ?_
  refine EL.skip ?_
  refine thenL_norm ?_
  refine EL.sreg ?_
  refine OW.run 4 (x' := ⟨(sbbq91 n s), (sbbq87 s n d)⟩) (by kernel_rfl) ?_
  refine OW.ope (v := .ref 8 1 (0 + Int.toNat n) 0) (u := []) (acc := [8]) (x' := ⟨(19, .ref 8 1 (0 + Int.toNat n) 0) :: (sbbq91 n s), (sbbq87 s n d)⟩) (by kernel_rfl) (opE_iado (.s 17) (.s 18) 1 8 0 (List.length s.back) .i64 n ⟨1, (s.back.map cI)⟩ (by kernel_rfl) (by kernel_rfl) rfl rfl ⟨by omega, by omega⟩ (by kernel_rfl)) (by kernel_rfl) ?_
  refine OW.ope (v := VI a9) (u := []) (acc := [8]) (x' := ⟨(sbbq92 a9 n s), (sbbq87 s n d)⟩) (by kernel_rfl) (opE_ldoS cI s.back none (.s 19) 8 1 (0 + Int.toNat n) 0 a9 (VI a9) (by kernel_rfl) (by kernel_rfl) rfl (by kernel_rfl) (by simpa using ha9) (by kernel_rfl)) (by kernel_rfl) ?_
  refine OW.last 1 [0, 1, 6] (x' := ⟨[(6, VI a9), (0, .ref 9 8 0 7), (1, VI n)], (sbbq87 s n d)⟩) (by kernel_rfl) (by kernel_rfl) ?_
  refine EL.sreg ?_
  refine OW.run 7 (x' := ⟨(27, VI (IntKind.i64.wrap (n + 1))) :: (sbbq93 n s a9), (sbbq87 s n d)⟩) (by kernel_rfl) ?_
  have e11 : IntKind.i64.wrap (n + 1) = n + 1 := wr64 (by omega)
  rw [e11]
  refine OW.fi (ar := [.own 8 1 0 (List.length s.back), VI n, VI (n + 1)]) (r := .own 12 1 0 (List.length (List.eraseIdx s.back (Int.toNat n)))) (m' := (sbbq94 s n d)) (x' := ⟨(sbbq95 s n a9), (sbbq94 s n d)⟩) (by kernel_rfl) (by kernel_rfl) F84_call (delete_map (fe := cI) (xs := s.back) (m := (sbbq87 s n d)) (id := 8) (by_ := 8) (zs := [VI 0]) (F84_ok.trans (by kernel_rfl)) rfl (by kernel_rfl) (by omega) (by omega) (by omega)) (by kernel_rfl) ?_
  refine OW.last 2 [6] (x' := ⟨[(6, VI a9)], (sbbq97 s n d)⟩) (by kernel_rfl) (by kernel_rfl) ?_
  refine EL.sreg ?_
  refine OW.last 3 [4, 5] (x' := ⟨[(5, VI 0), (4, VI a9)], (sbbq97 s n d)⟩) (by kernel_rfl) (by kernel_rfl) ?_
  refine EL.ret ?_
  refine ⟨.inr rfl, ⟨[(4, VI a9), (5, VI 0)], (sbbq100 s n d)⟩, norm_le (live := [4, 5]) (src := [.old 0 false, .old 1 false, .old 2 false, .old 3 false, .old 4 true, .old 5 true, .old 6 true, .old 7 true, .old 8 false, .old 9 false, .old 10 false, .old 12 true]) (es := []) (by kernel_rfl) ⟨pucZ s.first (by kernel_rfl), pucZ s.second (by kernel_rfl), pu 2 Record.cs s.log (by kernel_rfl) (by intro y; kernel_rfl), pucI s.there (by kernel_rfl), pucI (List.eraseIdx s.back (Int.toNat n)) (by kernel_rfl), trivial⟩, by kernel_rfl, rfl⟩
  refine DW.last 5 [0, 5, 6] (x' := ⟨[(6, VI 0), (5, VI a9), (0, .ref 9 8 0 0)], (sbbq100 s n d)⟩) (by kernel_rfl) (by kernel_rfl) ?_
  refine EL.seq ?_
  refine EL.sreg ?_
  refine OW.last 2 [0, 5, 6, 18] (x' := ⟨(sbbq101 a9), (sbbq100 s n d)⟩) (by kernel_rfl) (by kernel_rfl) ?_
  refine EL.condT (by kernel_rfl) ?_
  refine EL.sreg ?_
  refine OW.last 12 [0, 6] (x' := ⟨[(6, VI 0), (0, .ref 9 8 0 0)], [(sbbq0 s), some ⟨3, [[VI 5, VI n, .v (.string d)]]⟩, sbbq1, (sbbq98 s), some ⟨1, (s.first.map cZ)⟩, some ⟨1, (s.second.map cZ)⟩, some ⟨2, (s.log.map Record.cs)⟩, some ⟨1, (s.there.map cI)⟩, none, some ⟨8, [[.own 4 1 0 (List.length s.first), .own 5 1 0 (List.length s.second), .own 6 2 0 (List.length s.log), VI s.sent, VI s.applied, VI (if a9 > s.known then a9 else s.known), .own 7 1 0 (List.length s.there), .own 11 1 0 (List.length (List.eraseIdx s.back (Int.toNat n)))]]⟩, some ⟨3, [[VI 5, VI n, .v (.string d)]]⟩, some ⟨1, ((List.eraseIdx s.back (Int.toNat n)).map cI)⟩]⟩) (by kernel_rfl) (by kernel_rfl) ?_
  refine EL.draw0 ?_
  refine DW.end 16 (x' := ⟨(44, .ref 9 8 0 3) :: (43, .ref 9 8 0 0) :: (42, .ref 9 8 0 0) :: (41, VI (if (if a9 > s.known then a9 else s.known) > s.sent then (if a9 > s.known then a9 else s.known) else s.sent)) :: (40, VI (if a9 > s.known then a9 else s.known)) :: (sbbq102 s), [(sbbq0 s), some ⟨3, [[VI 5, VI n, .v (.string d)]]⟩, sbbq1, (sbbq98 s), some ⟨1, (s.first.map cZ)⟩, some ⟨1, (s.second.map cZ)⟩, some ⟨2, (s.log.map Record.cs)⟩, some ⟨1, (s.there.map cI)⟩, none, some ⟨8, [[.own 4 1 0 (List.length s.first), .own 5 1 0 (List.length s.second), .own 6 2 0 (List.length s.log), VI (if (if a9 > s.known then a9 else s.known) > s.sent then (if a9 > s.known then a9 else s.known) else s.sent), VI s.applied, VI (if a9 > s.known then a9 else s.known), .own 7 1 0 (List.length s.there), .own 11 1 0 (List.length (List.eraseIdx s.back (Int.toNat n)))]]⟩, some ⟨3, [[VI 5, VI n, .v (.string d)]]⟩, some ⟨1, ((List.eraseIdx s.back (Int.toNat n)).map cI)⟩]⟩) (by kernel_rfl) (by kernel_rfl) ?_
  refine thenL_norm ?_
  refine EL.sreg ?_
  refine OW.last 2 [4] (x' := ⟨[(4, VI 0)], [(sbbq0 s), some ⟨3, [[VI 5, VI n, .v (.string d)]]⟩, sbbq1, (sbbq98 s), some ⟨1, (s.first.map cZ)⟩, some ⟨1, (s.second.map cZ)⟩, some ⟨2, (s.log.map Record.cs)⟩, some ⟨1, (s.there.map cI)⟩, none, some ⟨8, [[.own 4 1 0 (List.length s.first), .own 5 1 0 (List.length s.second), .own 6 2 0 (List.length s.log), VI (if (if a9 > s.known then a9 else s.known) > s.sent then (if a9 > s.known then a9 else s.known) else s.sent), VI s.applied, VI (if a9 > s.known then a9 else s.known), .own 7 1 0 (List.length s.there), .own 11 1 0 (List.length (List.eraseIdx s.back (Int.toNat n)))]]⟩, some ⟨3, [[VI 5, VI n, .v (.string d)]]⟩, some ⟨1, ((List.eraseIdx s.back (Int.toNat n)).map cI)⟩]⟩) (by kernel_rfl) (by kernel_rfl) ?_
  refine EL.ret ?_
  refine ⟨.inr rfl, ⟨[(4, VI 0)], [(sbbq0 s), some ⟨3, [[VI 5, VI n, .v (.string d)]]⟩, sbbq1, (sbbq98 s), some ⟨1, (s.first.map cZ)⟩, some ⟨1, (s.second.map cZ)⟩, some ⟨2, (s.log.map Record.cs)⟩, some ⟨1, (s.there.map cI)⟩, none, some ⟨8, [[.own 4 1 0 (List.length s.first), .own 5 1 0 (List.length s.second), .own 6 2 0 (List.length s.log), VI (if (if a9 > s.known then a9 else s.known) > s.sent then (if a9 > s.known then a9 else s.known) else s.sent), VI s.applied, VI (if a9 > s.known then a9 else s.known), .own 7 1 0 (List.length s.there), .own 10 1 0 (List.length (List.eraseIdx s.back (Int.toNat n)))]]⟩, some ⟨1, ((List.eraseIdx s.back (Int.toNat n)).map cI)⟩]⟩, norm_le (live := [4]) (src := [.old 0 false, .old 1 false, .old 2 false, .old 3 false, .old 4 true, .old 5 true, .old 6 true, .old 7 true, .old 8 false, .old 9 false, .old 11 true]) (es := []) (by kernel_rfl) ⟨pucZ s.first (by kernel_rfl), pucZ s.second (by kernel_rfl), pu 2 Record.cs s.log (by kernel_rfl) (by intro y; kernel_rfl), pucI s.there (by kernel_rfl), pucI (List.eraseIdx s.back (Int.toNat n)) (by kernel_rfl), trivial⟩, by kernel_rfl, rfl⟩
  refine OW.end 1 (x' := ⟨(9, VI 0) :: (23, VI 0) :: (sbbq86 n d), [(sbbq0 s), some ⟨3, [[VI 5, VI n, .v (.string d)]]⟩, sbbq1, (sbbq98 s), some ⟨1, (s.first.map cZ)⟩, some ⟨1, (s.second.map cZ)⟩, some ⟨2, (s.log.map Record.cs)⟩, some ⟨1, (s.there.map cI)⟩, none, some ⟨8, [[.own 4 1 0 (List.length s.first), .own 5 1 0 (List.length s.second), .own 6 2 0 (List.length s.log), VI (if (if a9 > s.known then a9 else s.known) > s.sent then (if a9 > s.known then a9 else s.known) else s.sent), VI s.applied, VI (if a9 > s.known then a9 else s.known), .own 7 1 0 (List.length s.there), .own 10 1 0 (List.length (List.eraseIdx s.back (Int.toNat n)))]]⟩, some ⟨1, ((List.eraseIdx s.back (Int.toNat n)).map cI)⟩]⟩) (by kernel_rfl) (by kernel_rfl) ?_
  refine inBlk_norm ?_
  refine thenL_norm ?_
  refine EL.seq ?_
  refine EL.sreg ?_
  refine OW.last 2 [4, 6, 9, 44] (x' := ⟨sbbq54, [(sbbq0 s), some ⟨3, [[VI 5, VI n, .v (.string d)]]⟩, sbbq1, (sbbq98 s), some ⟨1, (s.first.map cZ)⟩, some ⟨1, (s.second.map cZ)⟩, some ⟨2, (s.log.map Record.cs)⟩, some ⟨1, (s.there.map cI)⟩, none, some ⟨8, [[.own 4 1 0 (List.length s.first), .own 5 1 0 (List.length s.second), .own 6 2 0 (List.length s.log), VI (if (if a9 > s.known then a9 else s.known) > s.sent then (if a9 > s.known then a9 else s.known) else s.sent), VI s.applied, VI (if a9 > s.known then a9 else s.known), .own 7 1 0 (List.length s.there), .own 10 1 0 (List.length (List.eraseIdx s.back (Int.toNat n)))]]⟩, some ⟨1, ((List.eraseIdx s.back (Int.toNat n)).map cI)⟩]⟩) (by kernel_rfl) (by kernel_rfl) ?_
  refine EL.condF (by kernel_rfl) ?_
  refine EL.skip ?_
  refine thenL_norm ?_
  refine EL.sreg ?_
  refine OW.last 6 [4, 5] (x' := ⟨[(5, VI 0), (4, .ref 2 8 0 0)], [(sbbq0 s), some ⟨3, [[VI 5, VI n, .v (.string d)]]⟩, some ⟨8, [[.own 4 1 0 (List.length s.first), .own 5 1 0 (List.length s.second), .own 6 2 0 (List.length s.log), VI (if (if a9 > s.known then a9 else s.known) > s.sent then (if a9 > s.known then a9 else s.known) else s.sent), VI s.applied, VI (if a9 > s.known then a9 else s.known), .own 7 1 0 (List.length s.there), .own 10 1 0 (List.length (List.eraseIdx s.back (Int.toNat n)))]]⟩, (sbbq98 s), some ⟨1, (s.first.map cZ)⟩, some ⟨1, (s.second.map cZ)⟩, some ⟨2, (s.log.map Record.cs)⟩, some ⟨1, (s.there.map cI)⟩, none, some ⟨8, [[.own 4 1 0 (List.length s.first), .own 5 1 0 (List.length s.second), .own 6 2 0 (List.length s.log), VI (if (if a9 > s.known then a9 else s.known) > s.sent then (if a9 > s.known then a9 else s.known) else s.sent), VI s.applied, VI (if a9 > s.known then a9 else s.known), .own 7 1 0 (List.length s.there), .own 10 1 0 (List.length (List.eraseIdx s.back (Int.toNat n)))]]⟩, some ⟨1, ((List.eraseIdx s.back (Int.toNat n)).map cI)⟩]⟩) (by kernel_rfl) (by kernel_rfl) ?_
  refine EL.ret ?_
  refine ⟨.inr rfl, .tup [.agg [.lst 1 (s.first.map cZ), .lst 1 (s.second.map cZ), .lst 2 (s.log.map Record.cs), VI (if (if a9 > s.known then a9 else s.known) > s.sent then (if a9 > s.known then a9 else s.known) else s.sent), VI s.applied, VI (if a9 > s.known then a9 else s.known), .lst 1 (s.there.map cI), .lst 1 ((List.eraseIdx s.back (Int.toNat n)).map cI)], VI 0], run_snap (r0 := .tup [.agg [.own 4 1 0 (List.length s.first), .own 5 1 0 (List.length s.second), .own 6 2 0 (List.length s.log), VI (if (if a9 > s.known then a9 else s.known) > s.sent then (if a9 > s.known then a9 else s.known) else s.sent), VI s.applied, VI (if a9 > s.known then a9 else s.known), .own 7 1 0 (List.length s.there), .own 10 1 0 (List.length (List.eraseIdx s.back (Int.toNat n)))], VI 0]) (by kernel_rfl) (snapR_tup (snapAs_cons (snapA_agg (snapL_cons (snap1_map cZ s.first (by kernel_rfl) (by intro y; kernel_rfl) (by simp)) (snapL_cons (snap1_map cZ s.second (by kernel_rfl) (by intro y; kernel_rfl) (by simp)) (snapL_cons (snap1_map Record.cs s.log (by kernel_rfl) (by intro y; kernel_rfl) (by simp)) (snapL_cons (by kernel_rfl) (snapL_cons (by kernel_rfl) (snapL_cons (by kernel_rfl) (snapL_cons (snap1_map cI s.there (by kernel_rfl) (by intro y; kernel_rfl) (by simp)) (snapL_cons (snap1_map cI (List.eraseIdx s.back (Int.toNat n)) (by kernel_rfl) (by intro y; kernel_rfl) (by simp)) (rfl)))))))))) (snapAs_cons (by kernel_rfl) (snapAs_nil)))), Ale.of_eq ?_⟩
  focus (skip; clear ee tt bb; rw [Ship.step_5]; (try split) <;> first | rfl | contradiction | (exfalso; omega) | (exfalso; simp_all; done) | (simp only [Ship.hearP, wi_iff]; (repeat' split) <;> first | rfl | (exfalso; omega) | (simp; done) | (simp; omega) | (simp_all; done) | (simp_all; omega)))
  try rw [h8]
  have g8 : ¬ ((0 : Int) ≤ n ∧ (n : Int) ≤ ((List.length s.back : Int) - 1)) := fun hh => Bool.noConfusion ((wi_iff.2 hh).symm.trans h8)
  refine OW.fi (ar := [.ref 9 8 0 0, .agg [VI 5, VI n, .v (.string d)]]) (r := VI 3) (m' := (sbbq75 s n d)) (x' := ⟨(23, VI 3) :: (sbbq86 n d), (sbbq75 s n d)⟩) (by kernel_rfl) (by kernel_rfl) F77_call ?_ (by kernel_rfl) ?_
  refine fi_walkW F77_ok (of_decide_eq_true (by kernel_rfl)) ?_
  refine EL.sreg ?_
  refine OW.last 2 [0, 3] (x' := ⟨[(3, .ref 10 3 0 0), (0, .ref 9 8 0 0)], (sbbq87 s n d)⟩) (by kernel_rfl) (by kernel_rfl) ?_
  refine EL.sdraw ?_
  refine DW.run 6 (x' := ⟨(sbbq88 n), (sbbq87 s n d)⟩) (by kernel_rfl) ?_
  refine DW.fi (ar := [.ref 9 8 0 7, VI n]) (r := .tup [VI 0, VI 3]) (m' := (sbbq87 s n d)) (x' := ⟨(14, .tup [VI 0, VI 3]) :: (sbbq88 n), (sbbq87 s n d)⟩) (by kernel_rfl) (by kernel_rfl) F83_call ?_ (by kernel_rfl) (by kernel_rfl) (by kernel_rfl) ?_
  refine fi_walkW F83_ok (of_decide_eq_true (by kernel_rfl)) ?_
  refine EL.sreg ?_
  refine OW.last 2 [0, 1] (x' := ⟨[(0, .ref 9 8 0 7), (1, VI n)], (sbbq87 s n d)⟩) (by kernel_rfl) (by kernel_rfl) ?_
  refine EL.seq ?_
  refine EL.sreg ?_
  refine OW.run 6 (x' := ⟨(12, VI (IntKind.i64.wrap ((List.length s.back : Int) - 1))) :: (sbbq89 s n), (sbbq87 s n d)⟩) (by kernel_rfl) ?_
  have e12 : IntKind.i64.wrap ((List.length s.back : Int) - 1) = (List.length s.back : Int) - 1 := wr64 (by omega)
  rw [e12]
  refine OW.fn (ar := [VI n, VI 0, VI ((List.length s.back : Int) - 1)]) (x' := ⟨(13, .v (.bool (wi n 0 ((List.length s.back : Int) - 1)))) :: (sbbq90 s n), (sbbq87 s n d)⟩) (by kernel_rfl) (by kernel_rfl) F31_call (within_fn n 0 ((List.length s.back : Int) - 1)) (by kernel_rfl) (by kernel_rfl) ?_
  refine OW.last 1 [0, 1, 14] (x' := ⟨[(14, .v (.bool (!(wi n 0 ((List.length s.back : Int) - 1))))), (0, .ref 9 8 0 7), (1, VI n)], (sbbq87 s n d)⟩) (by kernel_rfl) (by kernel_rfl) ?_
  rw [h8]
  refine EL.condT (by kernel_rfl) ?_
  refine EL.sreg ?_
  refine OW.last 2 [4, 5] (x' := ⟨[(5, VI 3), (4, VI 0)], (sbbq87 s n d)⟩) (by kernel_rfl) (by kernel_rfl) ?_
  refine EL.ret ?_
  refine thenL_ret ?_
  refine ⟨.inr rfl, ⟨[(4, VI 0), (5, VI 3)], (sbbq87 s n d)⟩, norm_le (live := [4, 5]) (src := [.old 0 false, .old 1 false, .old 2 false, .old 3 false, .old 4 true, .old 5 true, .old 6 true, .old 7 true, .old 8 true, .old 9 false, .old 10 false]) (es := []) (by kernel_rfl) ⟨pucZ s.first (by kernel_rfl), pucZ s.second (by kernel_rfl), pu 2 Record.cs s.log (by kernel_rfl) (by intro y; kernel_rfl), pucI s.there (by kernel_rfl), pucI s.back (by kernel_rfl), trivial⟩, by kernel_rfl, rfl⟩
  refine DW.last 5 [0, 5, 6] (x' := ⟨[(6, VI 3), (5, VI 0), (0, .ref 9 8 0 0)], (sbbq87 s n d)⟩) (by kernel_rfl) (by kernel_rfl) ?_
  refine EL.seq ?_
  refine EL.sreg ?_
  refine OW.last 2 [0, 5, 6, 18] (x' := ⟨sbbq103, (sbbq87 s n d)⟩) (by kernel_rfl) (by kernel_rfl) ?_
  refine EL.condF (by kernel_rfl) ?_
  refine EL.skip ?_
  refine thenL_norm ?_
  refine EL.sreg ?_
  refine OW.last 2 [4] (x' := ⟨[(4, VI 3)], (sbbq87 s n d)⟩) (by kernel_rfl) (by kernel_rfl) ?_
  refine EL.ret ?_
  refine ⟨.inr rfl, ⟨[(4, VI 3)], (sbbq75 s n d)⟩, norm_le (live := [4]) (src := [.old 0 false, .old 1 false, .old 2 false, .old 3 false, .old 4 true, .old 5 true, .old 6 true, .old 7 true, .old 8 true, .old 9 false]) (es := []) (by kernel_rfl) ⟨pucZ s.first (by kernel_rfl), pucZ s.second (by kernel_rfl), pu 2 Record.cs s.log (by kernel_rfl) (by intro y; kernel_rfl), pucI s.there (by kernel_rfl), pucI s.back (by kernel_rfl), trivial⟩, by kernel_rfl, rfl⟩
  refine OW.end 1 (x' := ⟨(9, VI 3) :: (23, VI 3) :: (sbbq86 n d), (sbbq75 s n d)⟩) (by kernel_rfl) (by kernel_rfl) ?_
  refine inBlk_norm ?_
  refine thenL_norm ?_
  refine EL.seq ?_
  refine EL.sreg ?_
  refine OW.last 2 [4, 6, 9, 44] (x' := ⟨sbbq58, (sbbq75 s n d)⟩) (by kernel_rfl) (by kernel_rfl) ?_
  refine EL.condT (by kernel_rfl) ?_
  refine EL.sreg ?_
  refine OW.last 4 [4, 5] (x' := ⟨[(5, VI 3), (4, .ref 2 8 0 0)], (sbbq75 s n d)⟩) (by kernel_rfl) (by kernel_rfl) ?_
  refine EL.ret ?_
  refine thenL_ret ?_
  refine ⟨.inr rfl, .tup [.agg [.emp, .emp, .emp, VI 0, VI 0, VI 0, .emp, .emp], VI 3], by kernel_rfl, Ale.trans (b := .tup [sbbq59, VI 3]) (Ale.tup (.cons (Ale.agg (.cons (Ale.emp) (.cons (Ale.emp) (.cons (Ale.emp) (.cons (Ale.refl) (.cons (Ale.refl) (.cons (Ale.refl) (.cons (Ale.emp) (.cons (Ale.emp) (.nil)))))))))) (.cons (Ale.refl) (.nil)))) (Ale.of_eq ?_)⟩
  focus (skip; clear ee tt bb; rw [Ship.step_5]; (try split) <;> first | rfl | contradiction | (exfalso; omega) | (exfalso; simp_all; done) | (simp only [Ship.hearP, wi_iff]; (repeat' split) <;> first | rfl | (exfalso; omega) | (simp; done) | (simp; omega) | (simp_all; done) | (simp_all; omega)))
  have g7 : ¬ (d = (⟨#[]⟩)) := fun hh => Bool.noConfusion ((strEq_iff.2 hh).symm.trans h7)
  refine EL.condT (by kernel_rfl) ?_
  refine EL.reg0 ?_
  refine OW.end 1 (x' := ⟨(9, VI 1) :: sbbq85, (sbbq75 s n d)⟩) (by kernel_rfl) (by kernel_rfl) ?_
  refine inBlk_norm ?_
  refine thenL_norm ?_
  refine EL.seq ?_
  refine EL.sreg ?_
  refine OW.last 2 [4, 6, 9, 44] (x' := ⟨sbbq60, (sbbq75 s n d)⟩) (by kernel_rfl) (by kernel_rfl) ?_
  refine EL.condT (by kernel_rfl) ?_
  refine EL.sreg ?_
  refine OW.last 4 [4, 5] (x' := ⟨[(5, VI 1), (4, .ref 2 8 0 0)], (sbbq75 s n d)⟩) (by kernel_rfl) (by kernel_rfl) ?_
  refine EL.ret ?_
  refine thenL_ret ?_
  refine ⟨.inr rfl, .tup [.agg [.emp, .emp, .emp, VI 0, VI 0, VI 0, .emp, .emp], VI 1], by kernel_rfl, Ale.trans (b := .tup [sbbq59, VI 1]) (Ale.tup (.cons (Ale.agg (.cons (Ale.emp) (.cons (Ale.emp) (.cons (Ale.emp) (.cons (Ale.refl) (.cons (Ale.refl) (.cons (Ale.refl) (.cons (Ale.emp) (.cons (Ale.emp) (.nil)))))))))) (.cons (Ale.refl) (.nil)))) (Ale.of_eq ?_)⟩
  focus (skip; rw [Ship.step_5, if_neg ‹_›]; rfl)
  try rw [h1]
  have g1 : ¬ ((1 : Int) ≤ 5 ∧ (5 : Int) ≤ 8) := fun hh => Bool.noConfusion ((wi_iff.2 hh).symm.trans h1)
  refine OW.fi (ar := [.ref 9 8 0 0, VI 5]) (r := .tup [.v (.nilFunc), .v (.bool false)]) (m' := (sbbq75 s n d)) (x' := ⟨sbbq104, (sbbq75 s n d)⟩) (by kernel_rfl) (by kernel_rfl) F58_call ?_ (by kernel_rfl) ?_
  refine fi_walkW F58_ok (of_decide_eq_true (by kernel_rfl)) ?_
  refine EL.sreg ?_
  refine OW.last 2 [0, 1] (x' := ⟨[(0, .ref 9 8 0 0), (1, VI 5)], (sbbq75 s n d)⟩) (by kernel_rfl) (by kernel_rfl) ?_
  refine EL.sreg ?_
  refine OW.last 19 [1, 6] (x' := ⟨[(6, .ref 10 9 0 0), (1, VI 5)], (sbbq77 s n d)⟩) (by kernel_rfl) (by kernel_rfl) ?_
  refine EL.seq ?_
  refine EL.sreg ?_
  refine OW.run 1 (x' := ⟨[(24, VI 5), (6, .ref 10 9 0 0), (1, VI 5)], (sbbq77 s n d)⟩) (by kernel_rfl) ?_
  refine OW.fn (ar := [VI 5, VI 1, VI 8]) (x' := ⟨[(25, .v (.bool (wi 5 1 8))), (24, VI 5), (6, .ref 10 9 0 0), (1, VI 5)], (sbbq77 s n d)⟩) (by kernel_rfl) (by kernel_rfl) F31_call (within_fn 5 1 8) (by kernel_rfl) (by kernel_rfl) ?_
  refine OW.last 1 [1, 6, 26] (x' := ⟨[(26, .v (.bool (!(wi 5 1 8)))), (6, .ref 10 9 0 0), (1, VI 5)], (sbbq77 s n d)⟩) (by kernel_rfl) (by kernel_rfl) ?_
  rw [h1]
  refine EL.condT (by kernel_rfl) ?_
  refine EL.sreg ?_
  refine OW.last 2 [4, 5] (x' := ⟨[(5, .v (.bool false)), (4, .v (.nilFunc))], (sbbq77 s n d)⟩) (by kernel_rfl) (by kernel_rfl) ?_
  refine EL.ret ?_
  refine thenL_ret ?_
  refine ⟨.inr rfl, ⟨[(4, .v (.nilFunc)), (5, .v (.bool false))], (sbbq75 s n d)⟩, norm_le (live := [4, 5]) (src := [.old 0 false, .old 1 false, .old 2 false, .old 3 false, .old 4 true, .old 5 true, .old 6 true, .old 7 true, .old 8 true, .old 9 false]) (es := []) (by kernel_rfl) ⟨pucZ s.first (by kernel_rfl), pucZ s.second (by kernel_rfl), pu 2 Record.cs s.log (by kernel_rfl) (by intro y; kernel_rfl), pucI s.there (by kernel_rfl), pucI s.back (by kernel_rfl), trivial⟩, by kernel_rfl, rfl⟩
  refine OW.last 5 [3, 4, 6, 7, 8] (x' := ⟨(8, .v (.bool false)) :: (7, .v (.nilFunc)) :: sbbq25, (sbbq75 s n d)⟩) (by kernel_rfl) (by kernel_rfl) ?_
  refine EL.sreg ?_
  refine OW.last 1 [3, 4, 6, 7, 8] (x' := ⟨(8, .v (.bool false)) :: (7, .v (.nilFunc)) :: sbbq25, (sbbq75 s n d)⟩) (by kernel_rfl) (by kernel_rfl) ?_
  refine EL.seq ?_
  refine EL.block ?_
  refine EL.sreg ?_
  refine OW.last 3 [3, 4, 6, 7, 8, 24] (x' := ⟨sbbq62, (sbbq75 s n d)⟩) (by kernel_rfl) (by kernel_rfl) ?_
  refine EL.condT (by kernel_rfl) ?_
  refine EL.reg0 ?_
  refine OW.end 1 (x' := ⟨(9, VI 7) :: sbbq62, (sbbq75 s n d)⟩) (by kernel_rfl) (by kernel_rfl) ?_
  refine inBlk_norm ?_
  refine thenL_norm ?_
  refine EL.seq ?_
  refine EL.sreg ?_
  refine OW.last 2 [4, 6, 9, 44] (x' := ⟨sbbq63, (sbbq75 s n d)⟩) (by kernel_rfl) (by kernel_rfl) ?_
  refine EL.condT (by kernel_rfl) ?_
  refine EL.sreg ?_
  refine OW.last 4 [4, 5] (x' := ⟨[(5, VI 7), (4, .ref 2 8 0 0)], (sbbq75 s n d)⟩) (by kernel_rfl) (by kernel_rfl) ?_
  refine EL.ret ?_
  refine thenL_ret ?_
  refine ⟨.inr rfl, .tup [.agg [.emp, .emp, .emp, VI 0, VI 0, VI 0, .emp, .emp], VI 7], by kernel_rfl, Ale.trans (b := .tup [sbbq59, VI 7]) (Ale.tup (.cons (Ale.agg (.cons (Ale.emp) (.cons (Ale.emp) (.cons (Ale.emp) (.cons (Ale.refl) (.cons (Ale.refl) (.cons (Ale.refl) (.cons (Ale.emp) (.cons (Ale.emp) (.nil)))))))))) (.cons (Ale.refl) (.nil)))) (Ale.of_eq ?_)⟩
  focus (skip; exfalso; omega)
abbrev sbbq105 (s : Ship) (n : Int) (d : ByteArray) : LB := [(sbbq0 s), some ⟨3, [[VI 6, VI n, .v (.string d)]]⟩, sbbq1]
abbrev sbbq106 (s : Ship) (n : Int) (d : ByteArray) : LB := [(sbbq0 s), some ⟨3, [[VI 6, VI n, .v (.string d)]]⟩, sbbq1, (sbbq0 s), sbbq1]
abbrev sbbq107 (s : Ship) (n : Int) (d : ByteArray) : LB := [(sbbq0 s), some ⟨3, [[VI 6, VI n, .v (.string d)]]⟩, sbbq1, (sbbq0 s), sbbq1, some ⟨1, (s.first.map cZ)⟩]
abbrev sbbq108 (s : Ship) (n : Int) (d : ByteArray) : LB := [(sbbq0 s), some ⟨3, [[VI 6, VI n, .v (.string d)]]⟩, sbbq1, (sbbq0 s), sbbq1, some ⟨1, (s.first.map cZ)⟩, some ⟨1, (s.second.map cZ)⟩]
abbrev sbbq109 (s : Ship) (n : Int) (d : ByteArray) : LB := [(sbbq0 s), some ⟨3, [[VI 6, VI n, .v (.string d)]]⟩, sbbq1, (sbbq0 s), sbbq1, some ⟨1, (s.first.map cZ)⟩, some ⟨1, (s.second.map cZ)⟩, some ⟨2, (s.log.map Record.cs)⟩]
abbrev sbbq110 (s : Ship) (n : Int) (d : ByteArray) : LB := [(sbbq0 s), some ⟨3, [[VI 6, VI n, .v (.string d)]]⟩, sbbq1, (sbbq12 s), sbbq1, some ⟨1, (s.first.map cZ)⟩, some ⟨1, (s.second.map cZ)⟩, some ⟨2, (s.log.map Record.cs)⟩]
abbrev sbbq111 (s : Ship) (n : Int) (d : ByteArray) : LB := [(sbbq0 s), some ⟨3, [[VI 6, VI n, .v (.string d)]]⟩, sbbq1, (sbbq12 s), sbbq1, some ⟨1, (s.first.map cZ)⟩, some ⟨1, (s.second.map cZ)⟩, some ⟨2, (s.log.map Record.cs)⟩, some ⟨1, (s.there.map cI)⟩]
abbrev sbbq112 (s : Ship) (n : Int) (d : ByteArray) : LB := [(sbbq0 s), some ⟨3, [[VI 6, VI n, .v (.string d)]]⟩, sbbq1, (sbbq12 s), sbbq1, some ⟨1, (s.first.map cZ)⟩, some ⟨1, (s.second.map cZ)⟩, some ⟨2, (s.log.map Record.cs)⟩, some ⟨1, (s.there.map cI)⟩, some ⟨1, (s.back.map cI)⟩]
abbrev sbbq113 (s : Ship) (n : Int) (d : ByteArray) : LB := [(sbbq0 s), some ⟨3, [[VI 6, VI n, .v (.string d)]]⟩, sbbq1, (sbbq18 s), sbbq1, some ⟨1, (s.first.map cZ)⟩, some ⟨1, (s.second.map cZ)⟩, some ⟨2, (s.log.map Record.cs)⟩, some ⟨1, (s.there.map cI)⟩, some ⟨1, (s.back.map cI)⟩]
abbrev sbbq114 (s : Ship) (n : Int) (d : ByteArray) : LB := [(sbbq0 s), some ⟨3, [[VI 6, VI n, .v (.string d)]]⟩, sbbq1, (sbbq18 s), (sbbq18 s), some ⟨1, (s.first.map cZ)⟩, some ⟨1, (s.second.map cZ)⟩, some ⟨2, (s.log.map Record.cs)⟩, some ⟨1, (s.there.map cI)⟩, some ⟨1, (s.back.map cI)⟩]
abbrev sbbq115 (s : Ship) (n : Int) (d : ByteArray) : LB := [(sbbq0 s), some ⟨3, [[VI 6, VI n, .v (.string d)]]⟩, sbbq1, (sbbq22 s), some ⟨1, (s.first.map cZ)⟩, some ⟨1, (s.second.map cZ)⟩, some ⟨2, (s.log.map Record.cs)⟩, some ⟨1, (s.there.map cI)⟩, some ⟨1, (s.back.map cI)⟩]
abbrev sbbq116 (s : Ship) (n : Int) (d : ByteArray) : LB := [(sbbq0 s), some ⟨3, [[VI 6, VI n, .v (.string d)]]⟩, sbbq1, (sbbq22 s), some ⟨1, (s.first.map cZ)⟩, some ⟨1, (s.second.map cZ)⟩, some ⟨2, (s.log.map Record.cs)⟩, some ⟨1, (s.there.map cI)⟩, some ⟨1, (s.back.map cI)⟩, (sbbq22 s)]
abbrev sbbq117 : LS := (17, VI 6) :: (16, .ref 1 3 0 0) :: (15, .ref 9 8 0 0) :: sbbq25
abbrev sbbq118 (s : Ship) (n : Int) (d : ByteArray) : LB := [(sbbq0 s), some ⟨3, [[VI 6, VI n, .v (.string d)]]⟩, sbbq1, (sbbq22 s), some ⟨1, (s.first.map cZ)⟩, some ⟨1, (s.second.map cZ)⟩, some ⟨2, (s.log.map Record.cs)⟩, some ⟨1, (s.there.map cI)⟩, some ⟨1, (s.back.map cI)⟩, (sbbq22 s), sbbq27]
abbrev sbbq119 : LS := (18, .tup [.bf 78 [.ref 9 8 0 0], .v (.bool true)]) :: sbbq117
abbrev sbbq120 : LS := (8, .v (.bool true)) :: (7, .bf 78 [.ref 9 8 0 0]) :: sbbq25
abbrev sbbq121 (d : ByteArray) : LS := (29, .v (.string d)) :: (28, .ref 1 3 0 2) :: (24, .v (.bool false)) :: sbbq120
abbrev sbbq122 (n : Int) : LS := (37, VI n) :: (36, .ref 1 3 0 1) :: (27, .v (.bool false)) :: sbbq120
abbrev sbbq123 (n : Int) : LS := (27, .v (.bool false)) :: (42, .v (.bool false)) :: (41, .v (.bool false)) :: (40, .v (.bool true)) :: (39, .v (.bool true)) :: (38, .v (.bool true)) :: (37, VI n) :: (36, .ref 1 3 0 1) :: sbbq120
abbrev sbbq124 (n : Int) : LS := (27, .v (.bool false)) :: (42, .v (.bool false)) :: (41, .v undef) :: (40, .v undef) :: (39, .v (.bool false)) :: (38, .v (.bool false)) :: (37, VI n) :: (36, .ref 1 3 0 1) :: sbbq120
abbrev sbbq125 : LS := [(3, .ref 1 3 0 0), (4, .ref 2 8 0 0), (6, .ref 9 8 0 0), (7, .bf 78 [.ref 9 8 0 0]), (27, .v (.bool false))]
abbrev sbbq126 : LS := [(3, .ref 1 3 0 0), (4, .ref 2 8 0 0), (6, .ref 9 8 0 0), (7, .bf 78 [.ref 9 8 0 0]), (27, .v (.bool true))]
abbrev sbbq127 (n : Int) (d : ByteArray) : LS := (22, .agg [VI 6, VI n, .v (.string d)]) :: (21, .bf 78 [.ref 9 8 0 0]) :: sbbq125
abbrev sbbq128 (s : Ship) (n : Int) (d : ByteArray) : LB := [(sbbq0 s), some ⟨3, [[VI 6, VI n, .v (.string d)]]⟩, sbbq1, (sbbq22 s), some ⟨1, (s.first.map cZ)⟩, some ⟨1, (s.second.map cZ)⟩, some ⟨2, (s.log.map Record.cs)⟩, some ⟨1, (s.there.map cI)⟩, some ⟨1, (s.back.map cI)⟩, (sbbq22 s), some ⟨3, [[VI 6, VI n, .v (.string d)]]⟩]
abbrev sbbq129 (s : Ship) (n : Int) (d : ByteArray) : LB := [(sbbq0 s), some ⟨3, [[VI 6, VI n, .v (.string d)]]⟩, sbbq1, (sbbq22 s), some ⟨1, (s.first.map cZ)⟩, some ⟨1, (s.second.map cZ)⟩, some ⟨2, (s.log.map Record.cs)⟩, some ⟨1, (s.there.map cI)⟩, none, (sbbq22 s), some ⟨3, [[VI 6, VI n, .v (.string d)]]⟩, none, some ⟨1, ((List.eraseIdx s.back (Int.toNat n)).map cI)⟩]
abbrev sbbq130 (s : Ship) (n : Int) (d : ByteArray) : LB := [(sbbq0 s), some ⟨3, [[VI 6, VI n, .v (.string d)]]⟩, sbbq1, (sbbq22 s), some ⟨1, (s.first.map cZ)⟩, some ⟨1, (s.second.map cZ)⟩, some ⟨2, (s.log.map Record.cs)⟩, some ⟨1, (s.there.map cI)⟩, none, (sbbq96 s n), some ⟨3, [[VI 6, VI n, .v (.string d)]]⟩, none, some ⟨1, ((List.eraseIdx s.back (Int.toNat n)).map cI)⟩]
abbrev sbbq131 (s : Ship) (n : Int) (d : ByteArray) : LB := [(sbbq0 s), some ⟨3, [[VI 6, VI n, .v (.string d)]]⟩, sbbq1, (sbbq98 s), some ⟨1, (s.first.map cZ)⟩, some ⟨1, (s.second.map cZ)⟩, some ⟨2, (s.log.map Record.cs)⟩, some ⟨1, (s.there.map cI)⟩, none, (sbbq99 s n), some ⟨3, [[VI 6, VI n, .v (.string d)]]⟩, some ⟨1, ((List.eraseIdx s.back (Int.toNat n)).map cI)⟩]
abbrev sbbq132 (s : Ship) (n : Int) : OB := some ⟨8, [[.own 4 1 0 (List.length s.first), .own 5 1 0 (List.length s.second), .own 6 2 0 (List.length s.log), VI s.sent, VI s.applied, VI s.known, .own 7 1 0 (List.length s.there), .own 10 1 0 (List.length (List.eraseIdx s.back (Int.toNat n)))]]⟩
abbrev sbbq133 (s : Ship) (n : Int) (d : ByteArray) : LB := [(sbbq0 s), some ⟨3, [[VI 6, VI n, .v (.string d)]]⟩, sbbq1, (sbbq98 s), some ⟨1, (s.first.map cZ)⟩, some ⟨1, (s.second.map cZ)⟩, some ⟨2, (s.log.map Record.cs)⟩, some ⟨1, (s.there.map cI)⟩, none, (sbbq132 s n), some ⟨1, ((List.eraseIdx s.back (Int.toNat n)).map cI)⟩]
abbrev sbbq134 (s : Ship) (n : Int) (d : ByteArray) : LB := [(sbbq0 s), some ⟨3, [[VI 6, VI n, .v (.string d)]]⟩, (sbbq132 s n), (sbbq98 s), some ⟨1, (s.first.map cZ)⟩, some ⟨1, (s.second.map cZ)⟩, some ⟨2, (s.log.map Record.cs)⟩, some ⟨1, (s.there.map cI)⟩, none, (sbbq132 s n), some ⟨1, ((List.eraseIdx s.back (Int.toNat n)).map cI)⟩]
abbrev sbbq135 (s : Ship) (n : Int) : AV := .agg [.own 4 1 0 (List.length s.first), .own 5 1 0 (List.length s.second), .own 6 2 0 (List.length s.log), VI s.sent, VI s.applied, VI s.known, .own 7 1 0 (List.length s.there), .own 10 1 0 (List.length (List.eraseIdx s.back (Int.toNat n)))]
abbrev sbbq136 (s : Ship) (n : Int) : AV := .agg [.lst 1 (s.first.map cZ), .lst 1 (s.second.map cZ), .lst 2 (s.log.map Record.cs), VI s.sent, VI s.applied, VI s.known, .lst 1 (s.there.map cI), .lst 1 ((List.eraseIdx s.back (Int.toNat n)).map cI)]
abbrev sbbq137 : LS := (18, .tup [.v (.nilFunc), .v (.bool false)]) :: sbbq117
theorem step6_fn (s : Ship) (n : Int) (d : ByteArray) (ok : s.Ok) : Fn Try.prog 32 [.agg [.lst 1 (s.first.map cZ), .lst 1 (s.second.map cZ), .lst 2 (s.log.map Record.cs), VI s.sent, VI s.applied, VI s.known, .lst 1 (s.there.map cI), .lst 1 (s.back.map cI)], .agg [VI 6, VI n, .v (.string d)]] (.tup [.agg [.lst 1 ((((s.stepP ⟨6, n, d⟩).1).first).map cZ), .lst 1 ((((s.stepP ⟨6, n, d⟩).1).second).map cZ), .lst 2 ((((s.stepP ⟨6, n, d⟩).1).log).map Record.cs), VI (((s.stepP ⟨6, n, d⟩).1).sent), VI (((s.stepP ⟨6, n, d⟩).1).applied), VI (((s.stepP ⟨6, n, d⟩).1).known), .lst 1 ((((s.stepP ⟨6, n, d⟩).1).there).map cI), .lst 1 ((((s.stepP ⟨6, n, d⟩).1).back).map cI)], VI ((s.stepP ⟨6, n, d⟩).2)]) := by
  obtain ⟨⟨a1, a2⟩, b1, c1, c2, ⟨d1, d2, d3⟩, ee, ⟨k1, k2, k3, k4, k5⟩, tt, bb⟩ := ok
  refine fn_walkW F32_ok (of_decide_eq_true (by kernel_rfl)) ?_
  refine EL.sreg ?_
  refine OW.last 4 [2, 3, 4] (x' := ⟨sbbq3, (sbbq105 s n d)⟩) (by kernel_rfl) (by kernel_rfl) ?_
  refine EL.sreg ?_
  refine OW.run 1 (x' := ⟨(10, (sbbq4 s)) :: sbbq3, (sbbq105 s n d)⟩) (by kernel_rfl) ?_
  refine OW.fi (ar := [(sbbq4 s)]) (r := (sbbq21 s)) (m' := (sbbq115 s n d)) (x' := ⟨(11, (sbbq21 s)) :: (10, (sbbq4 s)) :: sbbq3, (sbbq115 s n d)⟩) (by kernel_rfl) (by kernel_rfl) F42_call ?_ (by kernel_rfl) ?_
  refine fi_walkW F42_ok (of_decide_eq_true (by kernel_rfl)) ?_
  refine EL.sreg ?_
  refine OW.last 2 [1, 2] (x' := ⟨[(2, .ref 4 8 0 0), (1, .ref 3 8 0 0)], (sbbq106 s n d)⟩) (by kernel_rfl) (by kernel_rfl) ?_
  refine EL.sdraw ?_
  refine DW.run 2 (x' := ⟨(sbbq6 s), (sbbq106 s n d)⟩) (by kernel_rfl) ?_
  refine DW.fo (ar := [.lst 1 (s.first.map cZ)]) (fe := cZ) (xs := s.first) (x' := ⟨(5, .own 5 1 0 (List.length s.first)) :: (sbbq6 s), (sbbq107 s n d)⟩) (by kernel_rfl) (by kernel_rfl) F61_call (cloneZ_fo s.first (by omega)) (by intro y; kernel_rfl) (by kernel_rfl) (by kernel_rfl) ?_
  refine DW.run 2 (x' := ⟨(sbbq8 s), (sbbq107 s n d)⟩) (by kernel_rfl) ?_
  refine DW.fo (ar := [.lst 1 (s.second.map cZ)]) (fe := cZ) (xs := s.second) (x' := ⟨(8, .own 6 1 0 (List.length s.second)) :: (sbbq8 s), (sbbq108 s n d)⟩) (by kernel_rfl) (by kernel_rfl) F61_call (cloneZ_fo s.second (by omega)) (by intro y; kernel_rfl) (by kernel_rfl) (by kernel_rfl) ?_
  refine DW.run 2 (x' := ⟨(sbbq10 s), (sbbq108 s n d)⟩) (by kernel_rfl) ?_
  refine DW.fo (ar := [.lst 2 (s.log.map Record.cs)]) (fe := Record.cs) (xs := s.log) (x' := ⟨(11, .own 7 2 0 (List.length s.log)) :: (sbbq10 s), (sbbq109 s n d)⟩) (by kernel_rfl) (by kernel_rfl) F62_call (cloneR_fo s.log (by omega)) (by intro y; kernel_rfl) (by kernel_rfl) (by kernel_rfl) ?_
  refine DW.last 6 [1, 2] (x' := ⟨[(2, .ref 4 8 0 0), (1, .ref 3 8 0 0)], (sbbq110 s n d)⟩) (by kernel_rfl) (by kernel_rfl) ?_
  refine EL.sdraw ?_
  refine DW.run 2 (x' := ⟨(sbbq14 s), (sbbq110 s n d)⟩) (by kernel_rfl) ?_
  refine DW.fo (ar := [.lst 1 (s.there.map cI)]) (fe := cI) (xs := s.there) (x' := ⟨(17, .own 8 1 0 (List.length s.there)) :: (sbbq14 s), (sbbq111 s n d)⟩) (by kernel_rfl) (by kernel_rfl) F50_call (cloneI_fo s.there (by omega)) (by intro y; kernel_rfl) (by kernel_rfl) (by kernel_rfl) ?_
  refine DW.run 2 (x' := ⟨(sbbq16 s), (sbbq111 s n d)⟩) (by kernel_rfl) ?_
  refine DW.fo (ar := [.lst 1 (s.back.map cI)]) (fe := cI) (xs := s.back) (x' := ⟨(20, .own 9 1 0 (List.length s.back)) :: (sbbq16 s), (sbbq112 s n d)⟩) (by kernel_rfl) (by kernel_rfl) F50_call (cloneI_fo s.back (by omega)) (by intro y; kernel_rfl) (by kernel_rfl) (by kernel_rfl) ?_
  refine DW.last 4 [1, 2] (x' := ⟨[(2, .ref 4 8 0 0), (1, .ref 3 8 0 0)], (sbbq113 s n d)⟩) (by kernel_rfl) (by kernel_rfl) ?_
  refine EL.sreg ?_
  refine OW.last 2 [2] (x' := ⟨[(2, .ref 4 8 0 0)], (sbbq114 s n d)⟩) (by kernel_rfl) (by kernel_rfl) ?_
  refine EL.ret ?_
  refine ⟨.inr rfl, ⟨[(2, .ref 3 8 0 0)], (sbbq115 s n d)⟩, norm_le (live := [2]) (src := [.old 0 false, .old 1 false, .old 2 false, .old 4 false, .old 5 true, .old 6 true, .old 7 true, .old 8 true, .old 9 true]) (es := []) (by kernel_rfl) ⟨pucZ s.first (by kernel_rfl), pucZ s.second (by kernel_rfl), pu 2 Record.cs s.log (by kernel_rfl) (by intro y; kernel_rfl), pucI s.there (by kernel_rfl), pucI s.back (by kernel_rfl), trivial⟩, by kernel_rfl, rfl⟩
  refine OW.last 3 [3, 4, 6] (x' := ⟨sbbq25, (sbbq116 s n d)⟩) (by kernel_rfl) (by kernel_rfl) ?_
  refine EL.sreg ?_
  refine OW.run 3 (x' := ⟨sbbq117, (sbbq116 s n d)⟩) (by kernel_rfl) ?_
  rcases Bool.eq_false_or_eq_true (wi 6 1 8) with h1 | h1
  try rw [h1]
  have g1 : ((1 : Int) ≤ 6 ∧ (6 : Int) ≤ 8) := wi_iff.1 h1
  refine OW.fi (ar := [.ref 9 8 0 0, VI 6]) (r := .tup [.bf 78 [.ref 9 8 0 0], .v (.bool true)]) (m' := (sbbq116 s n d)) (x' := ⟨sbbq119, (sbbq116 s n d)⟩) (by kernel_rfl) (by kernel_rfl) F58_call ?_ (by kernel_rfl) ?_
  refine fi_walkW F58_ok (of_decide_eq_true (by kernel_rfl)) ?_
  refine EL.sreg ?_
  refine OW.last 2 [0, 1] (x' := ⟨[(0, .ref 9 8 0 0), (1, VI 6)], (sbbq116 s n d)⟩) (by kernel_rfl) (by kernel_rfl) ?_
  refine EL.sreg ?_
  refine OW.last 19 [1, 6] (x' := ⟨[(6, .ref 10 9 0 0), (1, VI 6)], (sbbq118 s n d)⟩) (by kernel_rfl) (by kernel_rfl) ?_
  refine EL.seq ?_
  refine EL.sreg ?_
  refine OW.run 1 (x' := ⟨[(24, VI 6), (6, .ref 10 9 0 0), (1, VI 6)], (sbbq118 s n d)⟩) (by kernel_rfl) ?_
  refine OW.fn (ar := [VI 6, VI 1, VI 8]) (x' := ⟨[(25, .v (.bool (wi 6 1 8))), (24, VI 6), (6, .ref 10 9 0 0), (1, VI 6)], (sbbq118 s n d)⟩) (by kernel_rfl) (by kernel_rfl) F31_call (within_fn 6 1 8) (by kernel_rfl) (by kernel_rfl) ?_
  refine OW.last 1 [1, 6, 26] (x' := ⟨[(26, .v (.bool (!(wi 6 1 8)))), (6, .ref 10 9 0 0), (1, VI 6)], (sbbq118 s n d)⟩) (by kernel_rfl) (by kernel_rfl) ?_
  rw [h1]
  refine EL.condF (by kernel_rfl) ?_
  refine EL.skip ?_
  refine thenL_norm ?_
  refine EL.sreg ?_
  refine OW.last 11 [4, 5] (x' := ⟨[(5, .v (.bool true)), (4, .bf 78 [.ref 9 8 0 0])], (sbbq118 s n d)⟩) (by kernel_rfl) (by kernel_rfl) ?_
  refine EL.ret ?_
  refine ⟨.inr rfl, ⟨[(4, .bf 78 [.ref 9 8 0 0]), (5, .v (.bool true))], (sbbq116 s n d)⟩, norm_le (live := [4, 5]) (src := [.old 0 false, .old 1 false, .old 2 false, .old 3 false, .old 4 true, .old 5 true, .old 6 true, .old 7 true, .old 8 true, .old 9 false]) (es := []) (by kernel_rfl) ⟨pucZ s.first (by kernel_rfl), pucZ s.second (by kernel_rfl), pu 2 Record.cs s.log (by kernel_rfl) (by intro y; kernel_rfl), pucI s.there (by kernel_rfl), pucI s.back (by kernel_rfl), trivial⟩, by kernel_rfl, rfl⟩
  refine OW.last 5 [3, 4, 6, 7, 8] (x' := ⟨sbbq120, (sbbq116 s n d)⟩) (by kernel_rfl) (by kernel_rfl) ?_
  refine EL.sreg ?_
  refine OW.last 1 [3, 4, 6, 7, 8] (x' := ⟨sbbq120, (sbbq116 s n d)⟩) (by kernel_rfl) (by kernel_rfl) ?_
  refine EL.seq ?_
  refine EL.block ?_
  refine EL.sreg ?_
  refine OW.last 3 [3, 4, 6, 7, 8, 24] (x' := ⟨(24, .v (.bool false)) :: sbbq120, (sbbq116 s n d)⟩) (by kernel_rfl) (by kernel_rfl) ?_
  refine EL.condF (by kernel_rfl) ?_
  refine EL.seqG [3, 4, 6, 7, 27] (fun y => (y = ⟨sbbq125, (sbbq116 s n d)⟩ ∧ strEq d (⟨#[]⟩) = true ∧ ((¬ (n = 0)) ∨ ((n = 0)))) ∨ (y = ⟨sbbq126, (sbbq116 s n d)⟩ ∧ strEq d (⟨#[]⟩) = false)) ?_ ?_
  intro IHJ2 HJ2
  refine EL.sreg ?_
  refine OW.run 4 (x' := ⟨(31, .v (.bool (!(strEq d (⟨#[]⟩))))) :: (30, .v (.bool (!(strEq d (⟨#[]⟩))))) :: (sbbq121 d), (sbbq116 s n d)⟩) (by kernel_rfl) ?_
  rcases Bool.eq_false_or_eq_true (strEq d (⟨#[]⟩)) with h3 | h3
  rw [h3]
  have g3 : (d = (⟨#[]⟩)) := strEq_iff.1 h3
  refine OW.last 5 [3, 4, 6, 7, 8, 27] (x' := ⟨(27, .v (.bool false)) :: sbbq120, (sbbq116 s n d)⟩) (by kernel_rfl) (by kernel_rfl) ?_
  refine EL.condF (by kernel_rfl) ?_
  refine EL.reg0 ?_
  refine OW.run 4 (x' := ⟨(39, .v (.bool (n != 0))) :: (38, .v (.bool (n != 0))) :: (sbbq122 n), (sbbq116 s n d)⟩) (by kernel_rfl) ?_
  rcases Bool.eq_false_or_eq_true ((n != 0)) with h4 | h4
  rw [h4]
  have g4 : ¬ (n = 0) := by simpa using h4
  refine OW.end 4 (x' := ⟨(sbbq123 n), (sbbq116 s n d)⟩) (by kernel_rfl) (by kernel_rfl) ?_
  exact thenL_norm (HJ2.get (Or.inl ⟨by kernel_rfl, h3, (Or.inl (by first | exact g4 | exact h4 | simp_all | omega))⟩))
  rw [h4]
  have g4 : (n = 0) := by simpa using h4
  refine OW.end 4 (x' := ⟨(sbbq124 n), (sbbq116 s n d)⟩) (by kernel_rfl) (by kernel_rfl) ?_
  exact thenL_norm (HJ2.get (Or.inl ⟨by kernel_rfl, h3, (Or.inr (by first | exact g4 | exact h4 | simp_all | omega))⟩))
  rw [h3]
  have g3 : ¬ (d = (⟨#[]⟩)) := fun hh => Bool.noConfusion ((strEq_iff.2 hh).symm.trans h3)
  refine OW.last 5 [3, 4, 6, 7, 8, 27] (x' := ⟨(27, .v (.bool true)) :: sbbq120, (sbbq116 s n d)⟩) (by kernel_rfl) (by kernel_rfl) ?_
  refine EL.condT (by kernel_rfl) ?_
  refine EL.skip ?_
  exact thenL_norm (HJ2.get (Or.inr ⟨by kernel_rfl, h3⟩))
  rintro _ (⟨rfl, h5, hD6⟩ | ⟨rfl, h7⟩)
  have g5 : (d = (⟨#[]⟩)) := strEq_iff.1 h5
  refine EL.condF (by kernel_rfl) ?_
  refine EL.reg0 ?_
  refine OW.run 2 (x' := ⟨(sbbq127 n d), (sbbq116 s n d)⟩) (by kernel_rfl) ?_
  rcases Bool.eq_false_or_eq_true (wi n 0 ((List.length s.back : Int) - 1)) with h8 | h8
  try rw [h8]
  have g8 : ((0 : Int) ≤ n ∧ (n : Int) ≤ ((List.length s.back : Int) - 1)) := wi_iff.1 h8
  obtain ⟨a9, ha9⟩ : ∃ y, s.back[(n : Int).toNat]? = some y := idx_ex ⟨by omega, by omega⟩
  have ma9 := bb _ (List.mem_of_getElem? ha9)
  refine OW.fi (ar := [.ref 9 8 0 0, .agg [VI 6, VI n, .v (.string d)]]) (r := VI 0) (m' := (sbbq133 s n d)) (x' := ⟨(23, VI 0) :: (sbbq127 n d), (sbbq133 s n d)⟩) (by kernel_rfl) (by kernel_rfl) F78_call ?_ (by kernel_rfl) ?_
  refine fi_walkW F78_ok (of_decide_eq_true (by kernel_rfl)) ?_
  refine EL.sreg ?_
  refine OW.last 2 [0, 3] (x' := ⟨[(3, .ref 10 3 0 0), (0, .ref 9 8 0 0)], (sbbq128 s n d)⟩) (by kernel_rfl) (by kernel_rfl) ?_
  refine EL.sdraw ?_
  refine DW.run 6 (x' := ⟨(sbbq88 n), (sbbq128 s n d)⟩) (by kernel_rfl) ?_
  refine DW.fi (ar := [.ref 9 8 0 7, VI n]) (r := .tup [VI a9, VI 0]) (m' := (sbbq131 s n d)) (x' := ⟨(14, .tup [VI a9, VI 0]) :: (sbbq88 n), (sbbq131 s n d)⟩) (by kernel_rfl) (by kernel_rfl) F83_call ?_ (by kernel_rfl) (by kernel_rfl) (by kernel_rfl) ?_
  refine fi_walkW F83_ok (of_decide_eq_true (by kernel_rfl)) ?_
  refine EL.sreg ?_
  refine OW.last 2 [0, 1] (x' := ⟨[(0, .ref 9 8 0 7), (1, VI n)], (sbbq128 s n d)⟩) (by kernel_rfl) (by kernel_rfl) ?_
  refine EL.seq ?_
  refine EL.sreg ?_
  refine OW.run 6 (x' := ⟨(12, VI (IntKind.i64.wrap ((List.length s.back : Int) - 1))) :: (sbbq89 s n), (sbbq128 s n d)⟩) (by kernel_rfl) ?_
  have e10 : IntKind.i64.wrap ((List.length s.back : Int) - 1) = (List.length s.back : Int) - 1 := wr64 (by omega)
  rw [e10]
  refine OW.fn (ar := [VI n, VI 0, VI ((List.length s.back : Int) - 1)]) (x' := ⟨(13, .v (.bool (wi n 0 ((List.length s.back : Int) - 1)))) :: (sbbq90 s n), (sbbq128 s n d)⟩) (by kernel_rfl) (by kernel_rfl) F31_call (within_fn n 0 ((List.length s.back : Int) - 1)) (by kernel_rfl) (by kernel_rfl) ?_
  refine OW.last 1 [0, 1, 14] (x' := ⟨[(14, .v (.bool (!(wi n 0 ((List.length s.back : Int) - 1))))), (0, .ref 9 8 0 7), (1, VI n)], (sbbq128 s n d)⟩) (by kernel_rfl) (by kernel_rfl) ?_
  rw [h8]
  refine EL.condF (by kernel_rfl) ?_
  refine EL.skip ?_
  refine thenL_norm ?_
  refine EL.sreg ?_
  refine OW.run 4 (x' := ⟨(sbbq91 n s), (sbbq128 s n d)⟩) (by kernel_rfl) ?_
  refine OW.ope (v := .ref 8 1 (0 + Int.toNat n) 0) (u := []) (acc := [8]) (x' := ⟨(19, .ref 8 1 (0 + Int.toNat n) 0) :: (sbbq91 n s), (sbbq128 s n d)⟩) (by kernel_rfl) (opE_iado (.s 17) (.s 18) 1 8 0 (List.length s.back) .i64 n ⟨1, (s.back.map cI)⟩ (by kernel_rfl) (by kernel_rfl) rfl rfl ⟨by omega, by omega⟩ (by kernel_rfl)) (by kernel_rfl) ?_
  refine OW.ope (v := VI a9) (u := []) (acc := [8]) (x' := ⟨(sbbq92 a9 n s), (sbbq128 s n d)⟩) (by kernel_rfl) (opE_ldoS cI s.back none (.s 19) 8 1 (0 + Int.toNat n) 0 a9 (VI a9) (by kernel_rfl) (by kernel_rfl) rfl (by kernel_rfl) (by simpa using ha9) (by kernel_rfl)) (by kernel_rfl) ?_
  refine OW.last 1 [0, 1, 6] (x' := ⟨[(6, VI a9), (0, .ref 9 8 0 7), (1, VI n)], (sbbq128 s n d)⟩) (by kernel_rfl) (by kernel_rfl) ?_
  refine EL.sreg ?_
  refine OW.run 7 (x' := ⟨(27, VI (IntKind.i64.wrap (n + 1))) :: (sbbq93 n s a9), (sbbq128 s n d)⟩) (by kernel_rfl) ?_
  have e11 : IntKind.i64.wrap (n + 1) = n + 1 := wr64 (by omega)
  rw [e11]
  refine OW.fi (ar := [.own 8 1 0 (List.length s.back), VI n, VI (n + 1)]) (r := .own 12 1 0 (List.length (List.eraseIdx s.back (Int.toNat n)))) (m' := (sbbq129 s n d)) (x' := ⟨(sbbq95 s n a9), (sbbq129 s n d)⟩) (by kernel_rfl) (by kernel_rfl) F84_call (delete_map (fe := cI) (xs := s.back) (m := (sbbq128 s n d)) (id := 8) (by_ := 8) (zs := [VI 0]) (F84_ok.trans (by kernel_rfl)) rfl (by kernel_rfl) (by omega) (by omega) (by omega)) (by kernel_rfl) ?_
  refine OW.last 2 [6] (x' := ⟨[(6, VI a9)], (sbbq130 s n d)⟩) (by kernel_rfl) (by kernel_rfl) ?_
  refine EL.sreg ?_
  refine OW.last 3 [4, 5] (x' := ⟨[(5, VI 0), (4, VI a9)], (sbbq130 s n d)⟩) (by kernel_rfl) (by kernel_rfl) ?_
  refine EL.ret ?_
  refine ⟨.inr rfl, ⟨[(4, VI a9), (5, VI 0)], (sbbq131 s n d)⟩, norm_le (live := [4, 5]) (src := [.old 0 false, .old 1 false, .old 2 false, .old 3 false, .old 4 true, .old 5 true, .old 6 true, .old 7 true, .old 8 false, .old 9 false, .old 10 false, .old 12 true]) (es := []) (by kernel_rfl) ⟨pucZ s.first (by kernel_rfl), pucZ s.second (by kernel_rfl), pu 2 Record.cs s.log (by kernel_rfl) (by intro y; kernel_rfl), pucI s.there (by kernel_rfl), pucI (List.eraseIdx s.back (Int.toNat n)) (by kernel_rfl), trivial⟩, by kernel_rfl, rfl⟩
  refine DW.last 5 [6] (x' := ⟨[(6, VI 0)], (sbbq131 s n d)⟩) (by kernel_rfl) (by kernel_rfl) ?_
  refine EL.sreg ?_
  refine OW.last 2 [4] (x' := ⟨[(4, VI 0)], (sbbq131 s n d)⟩) (by kernel_rfl) (by kernel_rfl) ?_
  refine EL.ret ?_
  refine ⟨.inr rfl, ⟨[(4, VI 0)], (sbbq133 s n d)⟩, norm_le (live := [4]) (src := [.old 0 false, .old 1 false, .old 2 false, .old 3 false, .old 4 true, .old 5 true, .old 6 true, .old 7 true, .old 8 false, .old 9 false, .old 11 true]) (es := []) (by kernel_rfl) ⟨pucZ s.first (by kernel_rfl), pucZ s.second (by kernel_rfl), pu 2 Record.cs s.log (by kernel_rfl) (by intro y; kernel_rfl), pucI s.there (by kernel_rfl), pucI (List.eraseIdx s.back (Int.toNat n)) (by kernel_rfl), trivial⟩, by kernel_rfl, rfl⟩
  refine OW.end 1 (x' := ⟨(9, VI 0) :: (23, VI 0) :: (sbbq127 n d), (sbbq133 s n d)⟩) (by kernel_rfl) (by kernel_rfl) ?_
  refine inBlk_norm ?_
  refine thenL_norm ?_
  refine EL.seq ?_
  refine EL.sreg ?_
  refine OW.last 2 [4, 6, 9, 44] (x' := ⟨sbbq54, (sbbq133 s n d)⟩) (by kernel_rfl) (by kernel_rfl) ?_
  refine EL.condF (by kernel_rfl) ?_
  refine EL.skip ?_
  refine thenL_norm ?_
  refine EL.sreg ?_
  refine OW.last 6 [4, 5] (x' := ⟨[(5, VI 0), (4, .ref 2 8 0 0)], (sbbq134 s n d)⟩) (by kernel_rfl) (by kernel_rfl) ?_
  refine EL.ret ?_
  refine ⟨.inr rfl, .tup [(sbbq136 s n), VI 0], run_snap (r0 := .tup [(sbbq135 s n), VI 0]) (by kernel_rfl) (snapR_tup (snapAs_cons (snapA_agg (snapL_cons (snap1_map cZ s.first (by kernel_rfl) (by intro y; kernel_rfl) (by simp)) (snapL_cons (snap1_map cZ s.second (by kernel_rfl) (by intro y; kernel_rfl) (by simp)) (snapL_cons (snap1_map Record.cs s.log (by kernel_rfl) (by intro y; kernel_rfl) (by simp)) (snapL_cons (by kernel_rfl) (snapL_cons (by kernel_rfl) (snapL_cons (by kernel_rfl) (snapL_cons (snap1_map cI s.there (by kernel_rfl) (by intro y; kernel_rfl) (by simp)) (snapL_cons (snap1_map cI (List.eraseIdx s.back (Int.toNat n)) (by kernel_rfl) (by intro y; kernel_rfl) (by simp)) (rfl)))))))))) (snapAs_cons (by kernel_rfl) (snapAs_nil)))), Ale.of_eq ?_⟩
  focus (skip; clear ee tt bb; rw [Ship.step_6]; (try split) <;> first | rfl | contradiction | (exfalso; omega) | (exfalso; simp_all; done) | (simp only [Ship.dropP, wi_iff]; (repeat' split) <;> first | rfl | (exfalso; omega) | (simp; done) | (simp; omega) | (simp_all; done) | (simp_all; omega)))
  try rw [h8]
  have g8 : ¬ ((0 : Int) ≤ n ∧ (n : Int) ≤ ((List.length s.back : Int) - 1)) := fun hh => Bool.noConfusion ((wi_iff.2 hh).symm.trans h8)
  refine OW.fi (ar := [.ref 9 8 0 0, .agg [VI 6, VI n, .v (.string d)]]) (r := VI 3) (m' := (sbbq116 s n d)) (x' := ⟨(23, VI 3) :: (sbbq127 n d), (sbbq116 s n d)⟩) (by kernel_rfl) (by kernel_rfl) F78_call ?_ (by kernel_rfl) ?_
  refine fi_walkW F78_ok (of_decide_eq_true (by kernel_rfl)) ?_
  refine EL.sreg ?_
  refine OW.last 2 [0, 3] (x' := ⟨[(3, .ref 10 3 0 0), (0, .ref 9 8 0 0)], (sbbq128 s n d)⟩) (by kernel_rfl) (by kernel_rfl) ?_
  refine EL.sdraw ?_
  refine DW.run 6 (x' := ⟨(sbbq88 n), (sbbq128 s n d)⟩) (by kernel_rfl) ?_
  refine DW.fi (ar := [.ref 9 8 0 7, VI n]) (r := .tup [VI 0, VI 3]) (m' := (sbbq128 s n d)) (x' := ⟨(14, .tup [VI 0, VI 3]) :: (sbbq88 n), (sbbq128 s n d)⟩) (by kernel_rfl) (by kernel_rfl) F83_call ?_ (by kernel_rfl) (by kernel_rfl) (by kernel_rfl) ?_
  refine fi_walkW F83_ok (of_decide_eq_true (by kernel_rfl)) ?_
  refine EL.sreg ?_
  refine OW.last 2 [0, 1] (x' := ⟨[(0, .ref 9 8 0 7), (1, VI n)], (sbbq128 s n d)⟩) (by kernel_rfl) (by kernel_rfl) ?_
  refine EL.seq ?_
  refine EL.sreg ?_
  refine OW.run 6 (x' := ⟨(12, VI (IntKind.i64.wrap ((List.length s.back : Int) - 1))) :: (sbbq89 s n), (sbbq128 s n d)⟩) (by kernel_rfl) ?_
  have e12 : IntKind.i64.wrap ((List.length s.back : Int) - 1) = (List.length s.back : Int) - 1 := wr64 (by omega)
  rw [e12]
  refine OW.fn (ar := [VI n, VI 0, VI ((List.length s.back : Int) - 1)]) (x' := ⟨(13, .v (.bool (wi n 0 ((List.length s.back : Int) - 1)))) :: (sbbq90 s n), (sbbq128 s n d)⟩) (by kernel_rfl) (by kernel_rfl) F31_call (within_fn n 0 ((List.length s.back : Int) - 1)) (by kernel_rfl) (by kernel_rfl) ?_
  refine OW.last 1 [0, 1, 14] (x' := ⟨[(14, .v (.bool (!(wi n 0 ((List.length s.back : Int) - 1))))), (0, .ref 9 8 0 7), (1, VI n)], (sbbq128 s n d)⟩) (by kernel_rfl) (by kernel_rfl) ?_
  rw [h8]
  refine EL.condT (by kernel_rfl) ?_
  refine EL.sreg ?_
  refine OW.last 2 [4, 5] (x' := ⟨[(5, VI 3), (4, VI 0)], (sbbq128 s n d)⟩) (by kernel_rfl) (by kernel_rfl) ?_
  refine EL.ret ?_
  refine thenL_ret ?_
  refine ⟨.inr rfl, ⟨[(4, VI 0), (5, VI 3)], (sbbq128 s n d)⟩, norm_le (live := [4, 5]) (src := [.old 0 false, .old 1 false, .old 2 false, .old 3 false, .old 4 true, .old 5 true, .old 6 true, .old 7 true, .old 8 true, .old 9 false, .old 10 false]) (es := []) (by kernel_rfl) ⟨pucZ s.first (by kernel_rfl), pucZ s.second (by kernel_rfl), pu 2 Record.cs s.log (by kernel_rfl) (by intro y; kernel_rfl), pucI s.there (by kernel_rfl), pucI s.back (by kernel_rfl), trivial⟩, by kernel_rfl, rfl⟩
  refine DW.last 5 [6] (x' := ⟨[(6, VI 3)], (sbbq128 s n d)⟩) (by kernel_rfl) (by kernel_rfl) ?_
  refine EL.sreg ?_
  refine OW.last 2 [4] (x' := ⟨[(4, VI 3)], (sbbq128 s n d)⟩) (by kernel_rfl) (by kernel_rfl) ?_
  refine EL.ret ?_
  refine ⟨.inr rfl, ⟨[(4, VI 3)], (sbbq116 s n d)⟩, norm_le (live := [4]) (src := [.old 0 false, .old 1 false, .old 2 false, .old 3 false, .old 4 true, .old 5 true, .old 6 true, .old 7 true, .old 8 true, .old 9 false]) (es := []) (by kernel_rfl) ⟨pucZ s.first (by kernel_rfl), pucZ s.second (by kernel_rfl), pu 2 Record.cs s.log (by kernel_rfl) (by intro y; kernel_rfl), pucI s.there (by kernel_rfl), pucI s.back (by kernel_rfl), trivial⟩, by kernel_rfl, rfl⟩
  refine OW.end 1 (x' := ⟨(9, VI 3) :: (23, VI 3) :: (sbbq127 n d), (sbbq116 s n d)⟩) (by kernel_rfl) (by kernel_rfl) ?_
  refine inBlk_norm ?_
  refine thenL_norm ?_
  refine EL.seq ?_
  refine EL.sreg ?_
  refine OW.last 2 [4, 6, 9, 44] (x' := ⟨sbbq58, (sbbq116 s n d)⟩) (by kernel_rfl) (by kernel_rfl) ?_
  refine EL.condT (by kernel_rfl) ?_
  refine EL.sreg ?_
  refine OW.last 4 [4, 5] (x' := ⟨[(5, VI 3), (4, .ref 2 8 0 0)], (sbbq116 s n d)⟩) (by kernel_rfl) (by kernel_rfl) ?_
  refine EL.ret ?_
  refine thenL_ret ?_
  refine ⟨.inr rfl, .tup [.agg [.emp, .emp, .emp, VI 0, VI 0, VI 0, .emp, .emp], VI 3], by kernel_rfl, Ale.trans (b := .tup [sbbq59, VI 3]) (Ale.tup (.cons (Ale.agg (.cons (Ale.emp) (.cons (Ale.emp) (.cons (Ale.emp) (.cons (Ale.refl) (.cons (Ale.refl) (.cons (Ale.refl) (.cons (Ale.emp) (.cons (Ale.emp) (.nil)))))))))) (.cons (Ale.refl) (.nil)))) (Ale.of_eq ?_)⟩
  focus (skip; clear ee tt bb; rw [Ship.step_6]; (try split) <;> first | rfl | contradiction | (exfalso; omega) | (exfalso; simp_all; done) | (simp only [Ship.dropP, wi_iff]; (repeat' split) <;> first | rfl | (exfalso; omega) | (simp; done) | (simp; omega) | (simp_all; done) | (simp_all; omega)))
  have g7 : ¬ (d = (⟨#[]⟩)) := fun hh => Bool.noConfusion ((strEq_iff.2 hh).symm.trans h7)
  refine EL.condT (by kernel_rfl) ?_
  refine EL.reg0 ?_
  refine OW.end 1 (x' := ⟨(9, VI 1) :: sbbq126, (sbbq116 s n d)⟩) (by kernel_rfl) (by kernel_rfl) ?_
  refine inBlk_norm ?_
  refine thenL_norm ?_
  refine EL.seq ?_
  refine EL.sreg ?_
  refine OW.last 2 [4, 6, 9, 44] (x' := ⟨sbbq60, (sbbq116 s n d)⟩) (by kernel_rfl) (by kernel_rfl) ?_
  refine EL.condT (by kernel_rfl) ?_
  refine EL.sreg ?_
  refine OW.last 4 [4, 5] (x' := ⟨[(5, VI 1), (4, .ref 2 8 0 0)], (sbbq116 s n d)⟩) (by kernel_rfl) (by kernel_rfl) ?_
  refine EL.ret ?_
  refine thenL_ret ?_
  refine ⟨.inr rfl, .tup [.agg [.emp, .emp, .emp, VI 0, VI 0, VI 0, .emp, .emp], VI 1], by kernel_rfl, Ale.trans (b := .tup [sbbq59, VI 1]) (Ale.tup (.cons (Ale.agg (.cons (Ale.emp) (.cons (Ale.emp) (.cons (Ale.emp) (.cons (Ale.refl) (.cons (Ale.refl) (.cons (Ale.refl) (.cons (Ale.emp) (.cons (Ale.emp) (.nil)))))))))) (.cons (Ale.refl) (.nil)))) (Ale.of_eq ?_)⟩
  focus (skip; rw [Ship.step_6, if_neg ‹_›]; rfl)
  try rw [h1]
  have g1 : ¬ ((1 : Int) ≤ 6 ∧ (6 : Int) ≤ 8) := fun hh => Bool.noConfusion ((wi_iff.2 hh).symm.trans h1)
  refine OW.fi (ar := [.ref 9 8 0 0, VI 6]) (r := .tup [.v (.nilFunc), .v (.bool false)]) (m' := (sbbq116 s n d)) (x' := ⟨sbbq137, (sbbq116 s n d)⟩) (by kernel_rfl) (by kernel_rfl) F58_call ?_ (by kernel_rfl) ?_
  refine fi_walkW F58_ok (of_decide_eq_true (by kernel_rfl)) ?_
  refine EL.sreg ?_
  refine OW.last 2 [0, 1] (x' := ⟨[(0, .ref 9 8 0 0), (1, VI 6)], (sbbq116 s n d)⟩) (by kernel_rfl) (by kernel_rfl) ?_
  refine EL.sreg ?_
  refine OW.last 19 [1, 6] (x' := ⟨[(6, .ref 10 9 0 0), (1, VI 6)], (sbbq118 s n d)⟩) (by kernel_rfl) (by kernel_rfl) ?_
  refine EL.seq ?_
  refine EL.sreg ?_
  refine OW.run 1 (x' := ⟨[(24, VI 6), (6, .ref 10 9 0 0), (1, VI 6)], (sbbq118 s n d)⟩) (by kernel_rfl) ?_
  refine OW.fn (ar := [VI 6, VI 1, VI 8]) (x' := ⟨[(25, .v (.bool (wi 6 1 8))), (24, VI 6), (6, .ref 10 9 0 0), (1, VI 6)], (sbbq118 s n d)⟩) (by kernel_rfl) (by kernel_rfl) F31_call (within_fn 6 1 8) (by kernel_rfl) (by kernel_rfl) ?_
  refine OW.last 1 [1, 6, 26] (x' := ⟨[(26, .v (.bool (!(wi 6 1 8)))), (6, .ref 10 9 0 0), (1, VI 6)], (sbbq118 s n d)⟩) (by kernel_rfl) (by kernel_rfl) ?_
  rw [h1]
  refine EL.condT (by kernel_rfl) ?_
  refine EL.sreg ?_
  refine OW.last 2 [4, 5] (x' := ⟨[(5, .v (.bool false)), (4, .v (.nilFunc))], (sbbq118 s n d)⟩) (by kernel_rfl) (by kernel_rfl) ?_
  refine EL.ret ?_
  refine thenL_ret ?_
  refine ⟨.inr rfl, ⟨[(4, .v (.nilFunc)), (5, .v (.bool false))], (sbbq116 s n d)⟩, norm_le (live := [4, 5]) (src := [.old 0 false, .old 1 false, .old 2 false, .old 3 false, .old 4 true, .old 5 true, .old 6 true, .old 7 true, .old 8 true, .old 9 false]) (es := []) (by kernel_rfl) ⟨pucZ s.first (by kernel_rfl), pucZ s.second (by kernel_rfl), pu 2 Record.cs s.log (by kernel_rfl) (by intro y; kernel_rfl), pucI s.there (by kernel_rfl), pucI s.back (by kernel_rfl), trivial⟩, by kernel_rfl, rfl⟩
  refine OW.last 5 [3, 4, 6, 7, 8] (x' := ⟨(8, .v (.bool false)) :: (7, .v (.nilFunc)) :: sbbq25, (sbbq116 s n d)⟩) (by kernel_rfl) (by kernel_rfl) ?_
  refine EL.sreg ?_
  refine OW.last 1 [3, 4, 6, 7, 8] (x' := ⟨(8, .v (.bool false)) :: (7, .v (.nilFunc)) :: sbbq25, (sbbq116 s n d)⟩) (by kernel_rfl) (by kernel_rfl) ?_
  refine EL.seq ?_
  refine EL.block ?_
  refine EL.sreg ?_
  refine OW.last 3 [3, 4, 6, 7, 8, 24] (x' := ⟨sbbq62, (sbbq116 s n d)⟩) (by kernel_rfl) (by kernel_rfl) ?_
  refine EL.condT (by kernel_rfl) ?_
  refine EL.reg0 ?_
  refine OW.end 1 (x' := ⟨(9, VI 7) :: sbbq62, (sbbq116 s n d)⟩) (by kernel_rfl) (by kernel_rfl) ?_
  refine inBlk_norm ?_
  refine thenL_norm ?_
  refine EL.seq ?_
  refine EL.sreg ?_
  refine OW.last 2 [4, 6, 9, 44] (x' := ⟨sbbq63, (sbbq116 s n d)⟩) (by kernel_rfl) (by kernel_rfl) ?_
  refine EL.condT (by kernel_rfl) ?_
  refine EL.sreg ?_
  refine OW.last 4 [4, 5] (x' := ⟨[(5, VI 7), (4, .ref 2 8 0 0)], (sbbq116 s n d)⟩) (by kernel_rfl) (by kernel_rfl) ?_
  refine EL.ret ?_
  refine thenL_ret ?_
  refine ⟨.inr rfl, .tup [.agg [.emp, .emp, .emp, VI 0, VI 0, VI 0, .emp, .emp], VI 7], by kernel_rfl, Ale.trans (b := .tup [sbbq59, VI 7]) (Ale.tup (.cons (Ale.agg (.cons (Ale.emp) (.cons (Ale.emp) (.cons (Ale.emp) (.cons (Ale.refl) (.cons (Ale.refl) (.cons (Ale.refl) (.cons (Ale.emp) (.cons (Ale.emp) (.nil)))))))))) (.cons (Ale.refl) (.nil)))) (Ale.of_eq ?_)⟩
  focus (skip; exfalso; omega)
abbrev sbbq138 (s : Ship) (n : Int) (d : ByteArray) : LB := [(sbbq0 s), some ⟨3, [[VI 7, VI n, .v (.string d)]]⟩, sbbq1]
abbrev sbbq139 (s : Ship) (n : Int) (d : ByteArray) : LB := [(sbbq0 s), some ⟨3, [[VI 7, VI n, .v (.string d)]]⟩, sbbq1, (sbbq0 s), sbbq1]
abbrev sbbq140 (s : Ship) (n : Int) (d : ByteArray) : LB := [(sbbq0 s), some ⟨3, [[VI 7, VI n, .v (.string d)]]⟩, sbbq1, (sbbq0 s), sbbq1, some ⟨1, (s.first.map cZ)⟩]
abbrev sbbq141 (s : Ship) (n : Int) (d : ByteArray) : LB := [(sbbq0 s), some ⟨3, [[VI 7, VI n, .v (.string d)]]⟩, sbbq1, (sbbq0 s), sbbq1, some ⟨1, (s.first.map cZ)⟩, some ⟨1, (s.second.map cZ)⟩]
abbrev sbbq142 (s : Ship) (n : Int) (d : ByteArray) : LB := [(sbbq0 s), some ⟨3, [[VI 7, VI n, .v (.string d)]]⟩, sbbq1, (sbbq0 s), sbbq1, some ⟨1, (s.first.map cZ)⟩, some ⟨1, (s.second.map cZ)⟩, some ⟨2, (s.log.map Record.cs)⟩]
abbrev sbbq143 (s : Ship) (n : Int) (d : ByteArray) : LB := [(sbbq0 s), some ⟨3, [[VI 7, VI n, .v (.string d)]]⟩, sbbq1, (sbbq12 s), sbbq1, some ⟨1, (s.first.map cZ)⟩, some ⟨1, (s.second.map cZ)⟩, some ⟨2, (s.log.map Record.cs)⟩]
abbrev sbbq144 (s : Ship) (n : Int) (d : ByteArray) : LB := [(sbbq0 s), some ⟨3, [[VI 7, VI n, .v (.string d)]]⟩, sbbq1, (sbbq12 s), sbbq1, some ⟨1, (s.first.map cZ)⟩, some ⟨1, (s.second.map cZ)⟩, some ⟨2, (s.log.map Record.cs)⟩, some ⟨1, (s.there.map cI)⟩]
abbrev sbbq145 (s : Ship) (n : Int) (d : ByteArray) : LB := [(sbbq0 s), some ⟨3, [[VI 7, VI n, .v (.string d)]]⟩, sbbq1, (sbbq12 s), sbbq1, some ⟨1, (s.first.map cZ)⟩, some ⟨1, (s.second.map cZ)⟩, some ⟨2, (s.log.map Record.cs)⟩, some ⟨1, (s.there.map cI)⟩, some ⟨1, (s.back.map cI)⟩]
abbrev sbbq146 (s : Ship) (n : Int) (d : ByteArray) : LB := [(sbbq0 s), some ⟨3, [[VI 7, VI n, .v (.string d)]]⟩, sbbq1, (sbbq18 s), sbbq1, some ⟨1, (s.first.map cZ)⟩, some ⟨1, (s.second.map cZ)⟩, some ⟨2, (s.log.map Record.cs)⟩, some ⟨1, (s.there.map cI)⟩, some ⟨1, (s.back.map cI)⟩]
abbrev sbbq147 (s : Ship) (n : Int) (d : ByteArray) : LB := [(sbbq0 s), some ⟨3, [[VI 7, VI n, .v (.string d)]]⟩, sbbq1, (sbbq18 s), (sbbq18 s), some ⟨1, (s.first.map cZ)⟩, some ⟨1, (s.second.map cZ)⟩, some ⟨2, (s.log.map Record.cs)⟩, some ⟨1, (s.there.map cI)⟩, some ⟨1, (s.back.map cI)⟩]
abbrev sbbq148 (s : Ship) (n : Int) (d : ByteArray) : LB := [(sbbq0 s), some ⟨3, [[VI 7, VI n, .v (.string d)]]⟩, sbbq1, (sbbq22 s), some ⟨1, (s.first.map cZ)⟩, some ⟨1, (s.second.map cZ)⟩, some ⟨2, (s.log.map Record.cs)⟩, some ⟨1, (s.there.map cI)⟩, some ⟨1, (s.back.map cI)⟩]
abbrev sbbq149 (s : Ship) (n : Int) (d : ByteArray) : LB := [(sbbq0 s), some ⟨3, [[VI 7, VI n, .v (.string d)]]⟩, sbbq1, (sbbq22 s), some ⟨1, (s.first.map cZ)⟩, some ⟨1, (s.second.map cZ)⟩, some ⟨2, (s.log.map Record.cs)⟩, some ⟨1, (s.there.map cI)⟩, some ⟨1, (s.back.map cI)⟩, (sbbq22 s)]
abbrev sbbq150 : LS := (17, VI 7) :: (16, .ref 1 3 0 0) :: (15, .ref 9 8 0 0) :: sbbq25
abbrev sbbq151 (s : Ship) (n : Int) (d : ByteArray) : LB := [(sbbq0 s), some ⟨3, [[VI 7, VI n, .v (.string d)]]⟩, sbbq1, (sbbq22 s), some ⟨1, (s.first.map cZ)⟩, some ⟨1, (s.second.map cZ)⟩, some ⟨2, (s.log.map Record.cs)⟩, some ⟨1, (s.there.map cI)⟩, some ⟨1, (s.back.map cI)⟩, (sbbq22 s), sbbq27]
abbrev sbbq152 : LS := (18, .tup [.bf 79 [.ref 9 8 0 0], .v (.bool false)]) :: sbbq150
abbrev sbbq153 : LS := (8, .v (.bool false)) :: (7, .bf 79 [.ref 9 8 0 0]) :: sbbq25
abbrev sbbq154 (d : ByteArray) : LS := (29, .v (.string d)) :: (28, .ref 1 3 0 2) :: (24, .v (.bool false)) :: sbbq153
abbrev sbbq155 (n : Int) : LS := (37, VI n) :: (36, .ref 1 3 0 1) :: (27, .v (.bool false)) :: sbbq153
abbrev sbbq156 (n : Int) : LS := (27, .v (.bool true)) :: (42, .v (.bool true)) :: (41, .v (.bool true)) :: (40, .v (.bool false)) :: (39, .v (.bool true)) :: (38, .v (.bool true)) :: (37, VI n) :: (36, .ref 1 3 0 1) :: sbbq153
abbrev sbbq157 (n : Int) : LS := (27, .v (.bool false)) :: (42, .v (.bool false)) :: (41, .v undef) :: (40, .v undef) :: (39, .v (.bool false)) :: (38, .v (.bool false)) :: (37, VI n) :: (36, .ref 1 3 0 1) :: sbbq153
abbrev sbbq158 : LS := [(3, .ref 1 3 0 0), (4, .ref 2 8 0 0), (6, .ref 9 8 0 0), (7, .bf 79 [.ref 9 8 0 0]), (27, .v (.bool true))]
abbrev sbbq159 : LS := [(3, .ref 1 3 0 0), (4, .ref 2 8 0 0), (6, .ref 9 8 0 0), (7, .bf 79 [.ref 9 8 0 0]), (27, .v (.bool false))]
abbrev sbbq160 (n : Int) (d : ByteArray) : LS := (22, .agg [VI 7, VI n, .v (.string d)]) :: (21, .bf 79 [.ref 9 8 0 0]) :: sbbq159
abbrev sbbq161 (s : Ship) (n : Int) (d : ByteArray) : LB := [(sbbq0 s), some ⟨3, [[VI 7, VI n, .v (.string d)]]⟩, sbbq1, (sbbq22 s), some ⟨1, (s.first.map cZ)⟩, some ⟨1, (s.second.map cZ)⟩, some ⟨2, (s.log.map Record.cs)⟩, some ⟨1, (s.there.map cI)⟩, some ⟨1, (s.back.map cI)⟩, (sbbq22 s), some ⟨3, [[VI 7, VI n, .v (.string d)]]⟩]
abbrev sbbq162 (s : Ship) : OB := some ⟨8, [[.own 4 1 0 (List.length s.first), .own 5 1 0 (List.length s.second), .own 6 2 0 (List.length s.log), VI s.known, VI s.applied, VI s.known, .own 7 1 0 (List.length s.there), .own 8 1 0 (List.length s.back)]]⟩
abbrev sbbq163 (s : Ship) (n : Int) (d : ByteArray) : LB := [(sbbq0 s), some ⟨3, [[VI 7, VI n, .v (.string d)]]⟩, sbbq1, (sbbq22 s), some ⟨1, (s.first.map cZ)⟩, some ⟨1, (s.second.map cZ)⟩, some ⟨2, (s.log.map Record.cs)⟩, some ⟨1, (s.there.map cI)⟩, some ⟨1, (s.back.map cI)⟩, (sbbq162 s), some ⟨3, [[VI 7, VI n, .v (.string d)]]⟩]
abbrev sbbq164 (s : Ship) (n : Int) (d : ByteArray) : LB := [(sbbq0 s), some ⟨3, [[VI 7, VI n, .v (.string d)]]⟩, sbbq1, (sbbq22 s), some ⟨1, (s.first.map cZ)⟩, some ⟨1, (s.second.map cZ)⟩, some ⟨2, (s.log.map Record.cs)⟩, some ⟨1, (s.there.map cI)⟩, some ⟨1, (s.back.map cI)⟩, (sbbq162 s)]
abbrev sbbq165 (s : Ship) (n : Int) (d : ByteArray) : LB := [(sbbq0 s), some ⟨3, [[VI 7, VI n, .v (.string d)]]⟩, (sbbq162 s), (sbbq22 s), some ⟨1, (s.first.map cZ)⟩, some ⟨1, (s.second.map cZ)⟩, some ⟨2, (s.log.map Record.cs)⟩, some ⟨1, (s.there.map cI)⟩, some ⟨1, (s.back.map cI)⟩, (sbbq162 s)]
abbrev sbbq166 (s : Ship) : AV := .agg [.own 4 1 0 (List.length s.first), .own 5 1 0 (List.length s.second), .own 6 2 0 (List.length s.log), VI s.known, VI s.applied, VI s.known, .own 7 1 0 (List.length s.there), .own 8 1 0 (List.length s.back)]
abbrev sbbq167 (s : Ship) : AV := .agg [.lst 1 (s.first.map cZ), .lst 1 (s.second.map cZ), .lst 2 (s.log.map Record.cs), VI s.known, VI s.applied, VI s.known, .lst 1 (s.there.map cI), .lst 1 (s.back.map cI)]
abbrev sbbq168 : LS := (18, .tup [.v (.nilFunc), .v (.bool false)]) :: sbbq150
theorem step7_fn (s : Ship) (n : Int) (d : ByteArray) (ok : s.Ok) : Fn Try.prog 32 [.agg [.lst 1 (s.first.map cZ), .lst 1 (s.second.map cZ), .lst 2 (s.log.map Record.cs), VI s.sent, VI s.applied, VI s.known, .lst 1 (s.there.map cI), .lst 1 (s.back.map cI)], .agg [VI 7, VI n, .v (.string d)]] (.tup [.agg [.lst 1 ((((s.stepP ⟨7, n, d⟩).1).first).map cZ), .lst 1 ((((s.stepP ⟨7, n, d⟩).1).second).map cZ), .lst 2 ((((s.stepP ⟨7, n, d⟩).1).log).map Record.cs), VI (((s.stepP ⟨7, n, d⟩).1).sent), VI (((s.stepP ⟨7, n, d⟩).1).applied), VI (((s.stepP ⟨7, n, d⟩).1).known), .lst 1 ((((s.stepP ⟨7, n, d⟩).1).there).map cI), .lst 1 ((((s.stepP ⟨7, n, d⟩).1).back).map cI)], VI ((s.stepP ⟨7, n, d⟩).2)]) := by
  obtain ⟨⟨a1, a2⟩, b1, c1, c2, ⟨d1, d2, d3⟩, ee, ⟨k1, k2, k3, k4, k5⟩, tt, bb⟩ := ok
  refine fn_walkW F32_ok (of_decide_eq_true (by kernel_rfl)) ?_
  refine EL.sreg ?_
  refine OW.last 4 [2, 3, 4] (x' := ⟨sbbq3, (sbbq138 s n d)⟩) (by kernel_rfl) (by kernel_rfl) ?_
  refine EL.sreg ?_
  refine OW.run 1 (x' := ⟨(10, (sbbq4 s)) :: sbbq3, (sbbq138 s n d)⟩) (by kernel_rfl) ?_
  refine OW.fi (ar := [(sbbq4 s)]) (r := (sbbq21 s)) (m' := (sbbq148 s n d)) (x' := ⟨(11, (sbbq21 s)) :: (10, (sbbq4 s)) :: sbbq3, (sbbq148 s n d)⟩) (by kernel_rfl) (by kernel_rfl) F42_call ?_ (by kernel_rfl) ?_
  refine fi_walkW F42_ok (of_decide_eq_true (by kernel_rfl)) ?_
  refine EL.sreg ?_
  refine OW.last 2 [1, 2] (x' := ⟨[(2, .ref 4 8 0 0), (1, .ref 3 8 0 0)], (sbbq139 s n d)⟩) (by kernel_rfl) (by kernel_rfl) ?_
  refine EL.sdraw ?_
  refine DW.run 2 (x' := ⟨(sbbq6 s), (sbbq139 s n d)⟩) (by kernel_rfl) ?_
  refine DW.fo (ar := [.lst 1 (s.first.map cZ)]) (fe := cZ) (xs := s.first) (x' := ⟨(5, .own 5 1 0 (List.length s.first)) :: (sbbq6 s), (sbbq140 s n d)⟩) (by kernel_rfl) (by kernel_rfl) F61_call (cloneZ_fo s.first (by omega)) (by intro y; kernel_rfl) (by kernel_rfl) (by kernel_rfl) ?_
  refine DW.run 2 (x' := ⟨(sbbq8 s), (sbbq140 s n d)⟩) (by kernel_rfl) ?_
  refine DW.fo (ar := [.lst 1 (s.second.map cZ)]) (fe := cZ) (xs := s.second) (x' := ⟨(8, .own 6 1 0 (List.length s.second)) :: (sbbq8 s), (sbbq141 s n d)⟩) (by kernel_rfl) (by kernel_rfl) F61_call (cloneZ_fo s.second (by omega)) (by intro y; kernel_rfl) (by kernel_rfl) (by kernel_rfl) ?_
  refine DW.run 2 (x' := ⟨(sbbq10 s), (sbbq141 s n d)⟩) (by kernel_rfl) ?_
  refine DW.fo (ar := [.lst 2 (s.log.map Record.cs)]) (fe := Record.cs) (xs := s.log) (x' := ⟨(11, .own 7 2 0 (List.length s.log)) :: (sbbq10 s), (sbbq142 s n d)⟩) (by kernel_rfl) (by kernel_rfl) F62_call (cloneR_fo s.log (by omega)) (by intro y; kernel_rfl) (by kernel_rfl) (by kernel_rfl) ?_
  refine DW.last 6 [1, 2] (x' := ⟨[(2, .ref 4 8 0 0), (1, .ref 3 8 0 0)], (sbbq143 s n d)⟩) (by kernel_rfl) (by kernel_rfl) ?_
  refine EL.sdraw ?_
  refine DW.run 2 (x' := ⟨(sbbq14 s), (sbbq143 s n d)⟩) (by kernel_rfl) ?_
  refine DW.fo (ar := [.lst 1 (s.there.map cI)]) (fe := cI) (xs := s.there) (x' := ⟨(17, .own 8 1 0 (List.length s.there)) :: (sbbq14 s), (sbbq144 s n d)⟩) (by kernel_rfl) (by kernel_rfl) F50_call (cloneI_fo s.there (by omega)) (by intro y; kernel_rfl) (by kernel_rfl) (by kernel_rfl) ?_
  refine DW.run 2 (x' := ⟨(sbbq16 s), (sbbq144 s n d)⟩) (by kernel_rfl) ?_
  refine DW.fo (ar := [.lst 1 (s.back.map cI)]) (fe := cI) (xs := s.back) (x' := ⟨(20, .own 9 1 0 (List.length s.back)) :: (sbbq16 s), (sbbq145 s n d)⟩) (by kernel_rfl) (by kernel_rfl) F50_call (cloneI_fo s.back (by omega)) (by intro y; kernel_rfl) (by kernel_rfl) (by kernel_rfl) ?_
  refine DW.last 4 [1, 2] (x' := ⟨[(2, .ref 4 8 0 0), (1, .ref 3 8 0 0)], (sbbq146 s n d)⟩) (by kernel_rfl) (by kernel_rfl) ?_
  refine EL.sreg ?_
  refine OW.last 2 [2] (x' := ⟨[(2, .ref 4 8 0 0)], (sbbq147 s n d)⟩) (by kernel_rfl) (by kernel_rfl) ?_
  refine EL.ret ?_
  refine ⟨.inr rfl, ⟨[(2, .ref 3 8 0 0)], (sbbq148 s n d)⟩, norm_le (live := [2]) (src := [.old 0 false, .old 1 false, .old 2 false, .old 4 false, .old 5 true, .old 6 true, .old 7 true, .old 8 true, .old 9 true]) (es := []) (by kernel_rfl) ⟨pucZ s.first (by kernel_rfl), pucZ s.second (by kernel_rfl), pu 2 Record.cs s.log (by kernel_rfl) (by intro y; kernel_rfl), pucI s.there (by kernel_rfl), pucI s.back (by kernel_rfl), trivial⟩, by kernel_rfl, rfl⟩
  refine OW.last 3 [3, 4, 6] (x' := ⟨sbbq25, (sbbq149 s n d)⟩) (by kernel_rfl) (by kernel_rfl) ?_
  refine EL.sreg ?_
  refine OW.run 3 (x' := ⟨sbbq150, (sbbq149 s n d)⟩) (by kernel_rfl) ?_
  rcases Bool.eq_false_or_eq_true (wi 7 1 8) with h1 | h1
  try rw [h1]
  have g1 : ((1 : Int) ≤ 7 ∧ (7 : Int) ≤ 8) := wi_iff.1 h1
  refine OW.fi (ar := [.ref 9 8 0 0, VI 7]) (r := .tup [.bf 79 [.ref 9 8 0 0], .v (.bool false)]) (m' := (sbbq149 s n d)) (x' := ⟨sbbq152, (sbbq149 s n d)⟩) (by kernel_rfl) (by kernel_rfl) F58_call ?_ (by kernel_rfl) ?_
  refine fi_walkW F58_ok (of_decide_eq_true (by kernel_rfl)) ?_
  refine EL.sreg ?_
  refine OW.last 2 [0, 1] (x' := ⟨[(0, .ref 9 8 0 0), (1, VI 7)], (sbbq149 s n d)⟩) (by kernel_rfl) (by kernel_rfl) ?_
  refine EL.sreg ?_
  refine OW.last 19 [1, 6] (x' := ⟨[(6, .ref 10 9 0 0), (1, VI 7)], (sbbq151 s n d)⟩) (by kernel_rfl) (by kernel_rfl) ?_
  refine EL.seq ?_
  refine EL.sreg ?_
  refine OW.run 1 (x' := ⟨[(24, VI 7), (6, .ref 10 9 0 0), (1, VI 7)], (sbbq151 s n d)⟩) (by kernel_rfl) ?_
  refine OW.fn (ar := [VI 7, VI 1, VI 8]) (x' := ⟨[(25, .v (.bool (wi 7 1 8))), (24, VI 7), (6, .ref 10 9 0 0), (1, VI 7)], (sbbq151 s n d)⟩) (by kernel_rfl) (by kernel_rfl) F31_call (within_fn 7 1 8) (by kernel_rfl) (by kernel_rfl) ?_
  refine OW.last 1 [1, 6, 26] (x' := ⟨[(26, .v (.bool (!(wi 7 1 8)))), (6, .ref 10 9 0 0), (1, VI 7)], (sbbq151 s n d)⟩) (by kernel_rfl) (by kernel_rfl) ?_
  rw [h1]
  refine EL.condF (by kernel_rfl) ?_
  refine EL.skip ?_
  refine thenL_norm ?_
  refine EL.sreg ?_
  refine OW.last 11 [4, 5] (x' := ⟨[(5, .v (.bool false)), (4, .bf 79 [.ref 9 8 0 0])], (sbbq151 s n d)⟩) (by kernel_rfl) (by kernel_rfl) ?_
  refine EL.ret ?_
  refine ⟨.inr rfl, ⟨[(4, .bf 79 [.ref 9 8 0 0]), (5, .v (.bool false))], (sbbq149 s n d)⟩, norm_le (live := [4, 5]) (src := [.old 0 false, .old 1 false, .old 2 false, .old 3 false, .old 4 true, .old 5 true, .old 6 true, .old 7 true, .old 8 true, .old 9 false]) (es := []) (by kernel_rfl) ⟨pucZ s.first (by kernel_rfl), pucZ s.second (by kernel_rfl), pu 2 Record.cs s.log (by kernel_rfl) (by intro y; kernel_rfl), pucI s.there (by kernel_rfl), pucI s.back (by kernel_rfl), trivial⟩, by kernel_rfl, rfl⟩
  refine OW.last 5 [3, 4, 6, 7, 8] (x' := ⟨sbbq153, (sbbq149 s n d)⟩) (by kernel_rfl) (by kernel_rfl) ?_
  refine EL.sreg ?_
  refine OW.last 1 [3, 4, 6, 7, 8] (x' := ⟨sbbq153, (sbbq149 s n d)⟩) (by kernel_rfl) (by kernel_rfl) ?_
  refine EL.seq ?_
  refine EL.block ?_
  refine EL.sreg ?_
  refine OW.last 3 [3, 4, 6, 7, 8, 24] (x' := ⟨(24, .v (.bool false)) :: sbbq153, (sbbq149 s n d)⟩) (by kernel_rfl) (by kernel_rfl) ?_
  refine EL.condF (by kernel_rfl) ?_
  refine EL.seqG [3, 4, 6, 7, 27] (fun y => (y = ⟨sbbq158, (sbbq149 s n d)⟩ ∧ ((¬ (n = 0) ∧ (d = (⟨#[]⟩))) ∨ (¬ (d = (⟨#[]⟩))))) ∨ (y = ⟨sbbq159, (sbbq149 s n d)⟩ ∧ (n != 0) = false ∧ strEq d (⟨#[]⟩) = true)) ?_ ?_
  intro IHJ2 HJ2
  refine EL.sreg ?_
  refine OW.run 4 (x' := ⟨(31, .v (.bool (!(strEq d (⟨#[]⟩))))) :: (30, .v (.bool (!(strEq d (⟨#[]⟩))))) :: (sbbq154 d), (sbbq149 s n d)⟩) (by kernel_rfl) ?_
  rcases Bool.eq_false_or_eq_true (strEq d (⟨#[]⟩)) with h3 | h3
  rw [h3]
  have g3 : (d = (⟨#[]⟩)) := strEq_iff.1 h3
  refine OW.last 5 [3, 4, 6, 7, 8, 27] (x' := ⟨(27, .v (.bool false)) :: sbbq153, (sbbq149 s n d)⟩) (by kernel_rfl) (by kernel_rfl) ?_
  refine EL.condF (by kernel_rfl) ?_
  refine EL.reg0 ?_
  refine OW.run 4 (x' := ⟨(39, .v (.bool (n != 0))) :: (38, .v (.bool (n != 0))) :: (sbbq155 n), (sbbq149 s n d)⟩) (by kernel_rfl) ?_
  rcases Bool.eq_false_or_eq_true ((n != 0)) with h4 | h4
  rw [h4]
  have g4 : ¬ (n = 0) := by simpa using h4
  refine OW.end 4 (x' := ⟨(sbbq156 n), (sbbq149 s n d)⟩) (by kernel_rfl) (by kernel_rfl) ?_
  exact thenL_norm (HJ2.get (Or.inl ⟨by kernel_rfl, (Or.inl (by refine ⟨(by first | exact g4 | exact h4 | simp_all | omega), (by first | exact g3 | exact h3 | simp_all | omega)⟩))⟩))
  rw [h4]
  have g4 : (n = 0) := by simpa using h4
  refine OW.end 4 (x' := ⟨(sbbq157 n), (sbbq149 s n d)⟩) (by kernel_rfl) (by kernel_rfl) ?_
  exact thenL_norm (HJ2.get (Or.inr ⟨by kernel_rfl, h4, h3⟩))
  rw [h3]
  have g3 : ¬ (d = (⟨#[]⟩)) := fun hh => Bool.noConfusion ((strEq_iff.2 hh).symm.trans h3)
  refine OW.last 5 [3, 4, 6, 7, 8, 27] (x' := ⟨(27, .v (.bool true)) :: sbbq153, (sbbq149 s n d)⟩) (by kernel_rfl) (by kernel_rfl) ?_
  refine EL.condT (by kernel_rfl) ?_
  refine EL.skip ?_
  exact thenL_norm (HJ2.get (Or.inl ⟨by kernel_rfl, (Or.inr (by first | exact g3 | exact h3 | simp_all | omega))⟩))
  rintro _ (⟨rfl, hD5⟩ | ⟨rfl, h6, h7⟩)
  refine EL.condT (by kernel_rfl) ?_
  refine EL.reg0 ?_
  refine OW.end 1 (x' := ⟨(9, VI 1) :: sbbq158, (sbbq149 s n d)⟩) (by kernel_rfl) (by kernel_rfl) ?_
  refine inBlk_norm ?_
  refine thenL_norm ?_
  refine EL.seq ?_
  refine EL.sreg ?_
  refine OW.last 2 [4, 6, 9, 44] (x' := ⟨sbbq60, (sbbq149 s n d)⟩) (by kernel_rfl) (by kernel_rfl) ?_
  refine EL.condT (by kernel_rfl) ?_
  refine EL.sreg ?_
  refine OW.last 4 [4, 5] (x' := ⟨[(5, VI 1), (4, .ref 2 8 0 0)], (sbbq149 s n d)⟩) (by kernel_rfl) (by kernel_rfl) ?_
  refine EL.ret ?_
  refine thenL_ret ?_
  refine ⟨.inr rfl, .tup [.agg [.emp, .emp, .emp, VI 0, VI 0, VI 0, .emp, .emp], VI 1], by kernel_rfl, Ale.trans (b := .tup [sbbq59, VI 1]) (Ale.tup (.cons (Ale.agg (.cons (Ale.emp) (.cons (Ale.emp) (.cons (Ale.emp) (.cons (Ale.refl) (.cons (Ale.refl) (.cons (Ale.refl) (.cons (Ale.emp) (.cons (Ale.emp) (.nil)))))))))) (.cons (Ale.refl) (.nil)))) (Ale.of_eq ?_)⟩
  focus (skip; first | (exfalso; omega) | (rw [Ship.step_7, if_neg (by rintro ⟨hh, _⟩; exact absurd hh ‹_›)]; rfl) | (clear ee tt bb; rw [Ship.step_7]; (try split) <;> first | rfl | contradiction | (exfalso; omega) | (exfalso; simp_all; done) | (simp only [Ship.zero, wi_iff]; (repeat' split) <;> first | rfl | (exfalso; omega) | (simp; done) | (simp; omega) | (simp_all; done) | (simp_all; omega))))
  have g6 : (n = 0) := by simpa using h6
  have g7 : (d = (⟨#[]⟩)) := strEq_iff.1 h7
  refine EL.condF (by kernel_rfl) ?_
  refine EL.reg0 ?_
  refine OW.run 2 (x' := ⟨(sbbq160 n d), (sbbq149 s n d)⟩) (by kernel_rfl) ?_
  refine OW.fi (ar := [.ref 9 8 0 0, .agg [VI 7, VI n, .v (.string d)]]) (r := VI 0) (m' := (sbbq164 s n d)) (x' := ⟨(23, VI 0) :: (sbbq160 n d), (sbbq164 s n d)⟩) (by kernel_rfl) (by kernel_rfl) F79_call ?_ (by kernel_rfl) ?_
  refine fi_walkW F79_ok (of_decide_eq_true (by kernel_rfl)) ?_
  refine EL.sreg ?_
  refine OW.last 2 [0] (x' := ⟨[(0, .ref 9 8 0 0)], (sbbq161 s n d)⟩) (by kernel_rfl) (by kernel_rfl) ?_
  refine EL.sreg ?_
  refine OW.last 10 [] (x' := ⟨[], (sbbq163 s n d)⟩) (by kernel_rfl) (by kernel_rfl) ?_
  refine EL.sreg ?_
  refine OW.last 1 [4] (x' := ⟨[(4, VI 0)], (sbbq163 s n d)⟩) (by kernel_rfl) (by kernel_rfl) ?_
  refine EL.ret ?_
  refine ⟨.inr rfl, ⟨[(4, VI 0)], (sbbq164 s n d)⟩, norm_le (live := [4]) (src := [.old 0 false, .old 1 false, .old 2 false, .old 3 false, .old 4 true, .old 5 true, .old 6 true, .old 7 true, .old 8 true, .old 9 false]) (es := []) (by kernel_rfl) ⟨pucZ s.first (by kernel_rfl), pucZ s.second (by kernel_rfl), pu 2 Record.cs s.log (by kernel_rfl) (by intro y; kernel_rfl), pucI s.there (by kernel_rfl), pucI s.back (by kernel_rfl), trivial⟩, by kernel_rfl, rfl⟩
  refine OW.end 1 (x' := ⟨(9, VI 0) :: (23, VI 0) :: (sbbq160 n d), (sbbq164 s n d)⟩) (by kernel_rfl) (by kernel_rfl) ?_
  refine inBlk_norm ?_
  refine thenL_norm ?_
  refine EL.seq ?_
  refine EL.sreg ?_
  refine OW.last 2 [4, 6, 9, 44] (x' := ⟨sbbq54, (sbbq164 s n d)⟩) (by kernel_rfl) (by kernel_rfl) ?_
  refine EL.condF (by kernel_rfl) ?_
  refine EL.skip ?_
  refine thenL_norm ?_
  refine EL.sreg ?_
  refine OW.last 6 [4, 5] (x' := ⟨[(5, VI 0), (4, .ref 2 8 0 0)], (sbbq165 s n d)⟩) (by kernel_rfl) (by kernel_rfl) ?_
  refine EL.ret ?_
  refine ⟨.inr rfl, .tup [(sbbq167 s), VI 0], run_snap (r0 := .tup [(sbbq166 s), VI 0]) (by kernel_rfl) (snapR_tup (snapAs_cons (snapA_agg (snapL_cons (snap1_map cZ s.first (by kernel_rfl) (by intro y; kernel_rfl) (by simp)) (snapL_cons (snap1_map cZ s.second (by kernel_rfl) (by intro y; kernel_rfl) (by simp)) (snapL_cons (snap1_map Record.cs s.log (by kernel_rfl) (by intro y; kernel_rfl) (by simp)) (snapL_cons (by kernel_rfl) (snapL_cons (by kernel_rfl) (snapL_cons (by kernel_rfl) (snapL_cons (snap1_map cI s.there (by kernel_rfl) (by intro y; kernel_rfl) (by simp)) (snapL_cons (snap1_map cI s.back (by kernel_rfl) (by intro y; kernel_rfl) (by simp)) (rfl)))))))))) (snapAs_cons (by kernel_rfl) (snapAs_nil)))), Ale.of_eq ?_⟩
  focus (skip; first | (exfalso; omega) | (rw [Ship.step_7, if_neg (by rintro ⟨hh, _⟩; exact absurd hh ‹_›)]; rfl) | (clear ee tt bb; rw [Ship.step_7]; (try split) <;> first | rfl | contradiction | (exfalso; omega) | (exfalso; simp_all; done) | (simp only [Ship.zero, wi_iff]; (repeat' split) <;> first | rfl | (exfalso; omega) | (simp; done) | (simp; omega) | (simp_all; done) | (simp_all; omega))))
  try rw [h1]
  have g1 : ¬ ((1 : Int) ≤ 7 ∧ (7 : Int) ≤ 8) := fun hh => Bool.noConfusion ((wi_iff.2 hh).symm.trans h1)
  refine OW.fi (ar := [.ref 9 8 0 0, VI 7]) (r := .tup [.v (.nilFunc), .v (.bool false)]) (m' := (sbbq149 s n d)) (x' := ⟨sbbq168, (sbbq149 s n d)⟩) (by kernel_rfl) (by kernel_rfl) F58_call ?_ (by kernel_rfl) ?_
  refine fi_walkW F58_ok (of_decide_eq_true (by kernel_rfl)) ?_
  refine EL.sreg ?_
  refine OW.last 2 [0, 1] (x' := ⟨[(0, .ref 9 8 0 0), (1, VI 7)], (sbbq149 s n d)⟩) (by kernel_rfl) (by kernel_rfl) ?_
  refine EL.sreg ?_
  refine OW.last 19 [1, 6] (x' := ⟨[(6, .ref 10 9 0 0), (1, VI 7)], (sbbq151 s n d)⟩) (by kernel_rfl) (by kernel_rfl) ?_
  refine EL.seq ?_
  refine EL.sreg ?_
  refine OW.run 1 (x' := ⟨[(24, VI 7), (6, .ref 10 9 0 0), (1, VI 7)], (sbbq151 s n d)⟩) (by kernel_rfl) ?_
  refine OW.fn (ar := [VI 7, VI 1, VI 8]) (x' := ⟨[(25, .v (.bool (wi 7 1 8))), (24, VI 7), (6, .ref 10 9 0 0), (1, VI 7)], (sbbq151 s n d)⟩) (by kernel_rfl) (by kernel_rfl) F31_call (within_fn 7 1 8) (by kernel_rfl) (by kernel_rfl) ?_
  refine OW.last 1 [1, 6, 26] (x' := ⟨[(26, .v (.bool (!(wi 7 1 8)))), (6, .ref 10 9 0 0), (1, VI 7)], (sbbq151 s n d)⟩) (by kernel_rfl) (by kernel_rfl) ?_
  rw [h1]
  refine EL.condT (by kernel_rfl) ?_
  refine EL.sreg ?_
  refine OW.last 2 [4, 5] (x' := ⟨[(5, .v (.bool false)), (4, .v (.nilFunc))], (sbbq151 s n d)⟩) (by kernel_rfl) (by kernel_rfl) ?_
  refine EL.ret ?_
  refine thenL_ret ?_
  refine ⟨.inr rfl, ⟨[(4, .v (.nilFunc)), (5, .v (.bool false))], (sbbq149 s n d)⟩, norm_le (live := [4, 5]) (src := [.old 0 false, .old 1 false, .old 2 false, .old 3 false, .old 4 true, .old 5 true, .old 6 true, .old 7 true, .old 8 true, .old 9 false]) (es := []) (by kernel_rfl) ⟨pucZ s.first (by kernel_rfl), pucZ s.second (by kernel_rfl), pu 2 Record.cs s.log (by kernel_rfl) (by intro y; kernel_rfl), pucI s.there (by kernel_rfl), pucI s.back (by kernel_rfl), trivial⟩, by kernel_rfl, rfl⟩
  refine OW.last 5 [3, 4, 6, 7, 8] (x' := ⟨(8, .v (.bool false)) :: (7, .v (.nilFunc)) :: sbbq25, (sbbq149 s n d)⟩) (by kernel_rfl) (by kernel_rfl) ?_
  refine EL.sreg ?_
  refine OW.last 1 [3, 4, 6, 7, 8] (x' := ⟨(8, .v (.bool false)) :: (7, .v (.nilFunc)) :: sbbq25, (sbbq149 s n d)⟩) (by kernel_rfl) (by kernel_rfl) ?_
  refine EL.seq ?_
  refine EL.block ?_
  refine EL.sreg ?_
  refine OW.last 3 [3, 4, 6, 7, 8, 24] (x' := ⟨sbbq62, (sbbq149 s n d)⟩) (by kernel_rfl) (by kernel_rfl) ?_
  refine EL.condT (by kernel_rfl) ?_
  refine EL.reg0 ?_
  refine OW.end 1 (x' := ⟨(9, VI 7) :: sbbq62, (sbbq149 s n d)⟩) (by kernel_rfl) (by kernel_rfl) ?_
  refine inBlk_norm ?_
  refine thenL_norm ?_
  refine EL.seq ?_
  refine EL.sreg ?_
  refine OW.last 2 [4, 6, 9, 44] (x' := ⟨sbbq63, (sbbq149 s n d)⟩) (by kernel_rfl) (by kernel_rfl) ?_
  refine EL.condT (by kernel_rfl) ?_
  refine EL.sreg ?_
  refine OW.last 4 [4, 5] (x' := ⟨[(5, VI 7), (4, .ref 2 8 0 0)], (sbbq149 s n d)⟩) (by kernel_rfl) (by kernel_rfl) ?_
  refine EL.ret ?_
  refine thenL_ret ?_
  refine ⟨.inr rfl, .tup [.agg [.emp, .emp, .emp, VI 0, VI 0, VI 0, .emp, .emp], VI 7], by kernel_rfl, Ale.trans (b := .tup [sbbq59, VI 7]) (Ale.tup (.cons (Ale.agg (.cons (Ale.emp) (.cons (Ale.emp) (.cons (Ale.emp) (.cons (Ale.refl) (.cons (Ale.refl) (.cons (Ale.refl) (.cons (Ale.emp) (.cons (Ale.emp) (.nil)))))))))) (.cons (Ale.refl) (.nil)))) (Ale.of_eq ?_)⟩
  focus (skip; exfalso; omega)
abbrev sbbq169 (s : Ship) (n : Int) (d : ByteArray) : LB := [(sbbq0 s), some ⟨3, [[VI 8, VI n, .v (.string d)]]⟩, sbbq1]
abbrev sbbq170 (s : Ship) (n : Int) (d : ByteArray) : LB := [(sbbq0 s), some ⟨3, [[VI 8, VI n, .v (.string d)]]⟩, sbbq1, (sbbq0 s), sbbq1]
abbrev sbbq171 (s : Ship) (n : Int) (d : ByteArray) : LB := [(sbbq0 s), some ⟨3, [[VI 8, VI n, .v (.string d)]]⟩, sbbq1, (sbbq0 s), sbbq1, some ⟨1, (s.first.map cZ)⟩]
abbrev sbbq172 (s : Ship) (n : Int) (d : ByteArray) : LB := [(sbbq0 s), some ⟨3, [[VI 8, VI n, .v (.string d)]]⟩, sbbq1, (sbbq0 s), sbbq1, some ⟨1, (s.first.map cZ)⟩, some ⟨1, (s.second.map cZ)⟩]
abbrev sbbq173 (s : Ship) (n : Int) (d : ByteArray) : LB := [(sbbq0 s), some ⟨3, [[VI 8, VI n, .v (.string d)]]⟩, sbbq1, (sbbq0 s), sbbq1, some ⟨1, (s.first.map cZ)⟩, some ⟨1, (s.second.map cZ)⟩, some ⟨2, (s.log.map Record.cs)⟩]
abbrev sbbq174 (s : Ship) (n : Int) (d : ByteArray) : LB := [(sbbq0 s), some ⟨3, [[VI 8, VI n, .v (.string d)]]⟩, sbbq1, (sbbq12 s), sbbq1, some ⟨1, (s.first.map cZ)⟩, some ⟨1, (s.second.map cZ)⟩, some ⟨2, (s.log.map Record.cs)⟩]
abbrev sbbq175 (s : Ship) (n : Int) (d : ByteArray) : LB := [(sbbq0 s), some ⟨3, [[VI 8, VI n, .v (.string d)]]⟩, sbbq1, (sbbq12 s), sbbq1, some ⟨1, (s.first.map cZ)⟩, some ⟨1, (s.second.map cZ)⟩, some ⟨2, (s.log.map Record.cs)⟩, some ⟨1, (s.there.map cI)⟩]
abbrev sbbq176 (s : Ship) (n : Int) (d : ByteArray) : LB := [(sbbq0 s), some ⟨3, [[VI 8, VI n, .v (.string d)]]⟩, sbbq1, (sbbq12 s), sbbq1, some ⟨1, (s.first.map cZ)⟩, some ⟨1, (s.second.map cZ)⟩, some ⟨2, (s.log.map Record.cs)⟩, some ⟨1, (s.there.map cI)⟩, some ⟨1, (s.back.map cI)⟩]
abbrev sbbq177 (s : Ship) (n : Int) (d : ByteArray) : LB := [(sbbq0 s), some ⟨3, [[VI 8, VI n, .v (.string d)]]⟩, sbbq1, (sbbq18 s), sbbq1, some ⟨1, (s.first.map cZ)⟩, some ⟨1, (s.second.map cZ)⟩, some ⟨2, (s.log.map Record.cs)⟩, some ⟨1, (s.there.map cI)⟩, some ⟨1, (s.back.map cI)⟩]
abbrev sbbq178 (s : Ship) (n : Int) (d : ByteArray) : LB := [(sbbq0 s), some ⟨3, [[VI 8, VI n, .v (.string d)]]⟩, sbbq1, (sbbq18 s), (sbbq18 s), some ⟨1, (s.first.map cZ)⟩, some ⟨1, (s.second.map cZ)⟩, some ⟨2, (s.log.map Record.cs)⟩, some ⟨1, (s.there.map cI)⟩, some ⟨1, (s.back.map cI)⟩]
abbrev sbbq179 (s : Ship) (n : Int) (d : ByteArray) : LB := [(sbbq0 s), some ⟨3, [[VI 8, VI n, .v (.string d)]]⟩, sbbq1, (sbbq22 s), some ⟨1, (s.first.map cZ)⟩, some ⟨1, (s.second.map cZ)⟩, some ⟨2, (s.log.map Record.cs)⟩, some ⟨1, (s.there.map cI)⟩, some ⟨1, (s.back.map cI)⟩]
abbrev sbbq180 (s : Ship) (n : Int) (d : ByteArray) : LB := [(sbbq0 s), some ⟨3, [[VI 8, VI n, .v (.string d)]]⟩, sbbq1, (sbbq22 s), some ⟨1, (s.first.map cZ)⟩, some ⟨1, (s.second.map cZ)⟩, some ⟨2, (s.log.map Record.cs)⟩, some ⟨1, (s.there.map cI)⟩, some ⟨1, (s.back.map cI)⟩, (sbbq22 s)]
abbrev sbbq181 : LS := (17, VI 8) :: (16, .ref 1 3 0 0) :: (15, .ref 9 8 0 0) :: sbbq25
abbrev sbbq182 (s : Ship) (n : Int) (d : ByteArray) : LB := [(sbbq0 s), some ⟨3, [[VI 8, VI n, .v (.string d)]]⟩, sbbq1, (sbbq22 s), some ⟨1, (s.first.map cZ)⟩, some ⟨1, (s.second.map cZ)⟩, some ⟨2, (s.log.map Record.cs)⟩, some ⟨1, (s.there.map cI)⟩, some ⟨1, (s.back.map cI)⟩, (sbbq22 s), sbbq27]
abbrev sbbq183 : LS := (18, .tup [.bf 80 [.ref 9 8 0 0], .v (.bool false)]) :: sbbq181
abbrev sbbq184 : LS := (8, .v (.bool false)) :: (7, .bf 80 [.ref 9 8 0 0]) :: sbbq25
abbrev sbbq185 (d : ByteArray) : LS := (29, .v (.string d)) :: (28, .ref 1 3 0 2) :: (24, .v (.bool false)) :: sbbq184
abbrev sbbq186 (n : Int) : LS := (37, VI n) :: (36, .ref 1 3 0 1) :: (27, .v (.bool false)) :: sbbq184
abbrev sbbq187 (n : Int) : LS := (27, .v (.bool true)) :: (42, .v (.bool true)) :: (41, .v (.bool true)) :: (40, .v (.bool false)) :: (39, .v (.bool true)) :: (38, .v (.bool true)) :: (37, VI n) :: (36, .ref 1 3 0 1) :: sbbq184
abbrev sbbq188 (n : Int) : LS := (27, .v (.bool false)) :: (42, .v (.bool false)) :: (41, .v undef) :: (40, .v undef) :: (39, .v (.bool false)) :: (38, .v (.bool false)) :: (37, VI n) :: (36, .ref 1 3 0 1) :: sbbq184
abbrev sbbq189 : LS := [(3, .ref 1 3 0 0), (4, .ref 2 8 0 0), (6, .ref 9 8 0 0), (7, .bf 80 [.ref 9 8 0 0]), (27, .v (.bool true))]
abbrev sbbq190 : LS := [(3, .ref 1 3 0 0), (4, .ref 2 8 0 0), (6, .ref 9 8 0 0), (7, .bf 80 [.ref 9 8 0 0]), (27, .v (.bool false))]
abbrev sbbq191 (n : Int) (d : ByteArray) : LS := (22, .agg [VI 8, VI n, .v (.string d)]) :: (21, .bf 80 [.ref 9 8 0 0]) :: sbbq190
abbrev sbbq192 (s : Ship) (n : Int) (d : ByteArray) : LB := [(sbbq0 s), some ⟨3, [[VI 8, VI n, .v (.string d)]]⟩, sbbq1, (sbbq22 s), some ⟨1, (s.first.map cZ)⟩, some ⟨1, (s.second.map cZ)⟩, some ⟨2, (s.log.map Record.cs)⟩, some ⟨1, (s.there.map cI)⟩, some ⟨1, (s.back.map cI)⟩, (sbbq22 s), some ⟨3, [[VI 8, VI n, .v (.string d)]]⟩]
abbrev sbbq193 (s : Ship) : LS := [(10, .own 5 1 0 (List.length s.second)), (9, .ref 9 8 0 1), (8, .ref 9 8 0 0), (7, .ref 9 8 0 0), (6, .ref 9 8 0 0), (5, .ref 9 8 0 0), (0, .ref 9 8 0 0)]
abbrev sbbq194 (s : Ship) (n : Int) (d : ByteArray) : LB := [(sbbq0 s), some ⟨3, [[VI 8, VI n, .v (.string d)]]⟩, sbbq1, (sbbq22 s), some ⟨1, (s.first.map cZ)⟩, some ⟨1, (s.second.map cZ)⟩, some ⟨2, (s.log.map Record.cs)⟩, some ⟨1, (s.there.map cI)⟩, some ⟨1, (s.back.map cI)⟩, (sbbq22 s), some ⟨3, [[VI 8, VI n, .v (.string d)]]⟩, some ⟨1, (s.second.map cZ)⟩]
abbrev sbbq195 (s : Ship) : LS := (11, .own 11 1 0 (List.length s.second)) :: (sbbq193 s)
abbrev sbbq196 (s : Ship) : OB := some ⟨8, [[.own 11 1 0 (List.length s.second), .own 5 1 0 (List.length s.second), .emp, VI 0, VI 0, VI 0, .emp, .emp]]⟩
abbrev sbbq197 (s : Ship) (n : Int) (d : ByteArray) : LB := [(sbbq0 s), some ⟨3, [[VI 8, VI n, .v (.string d)]]⟩, sbbq1, (sbbq22 s), some ⟨1, (s.first.map cZ)⟩, some ⟨1, (s.second.map cZ)⟩, some ⟨2, (s.log.map Record.cs)⟩, some ⟨1, (s.there.map cI)⟩, some ⟨1, (s.back.map cI)⟩, (sbbq196 s), some ⟨3, [[VI 8, VI n, .v (.string d)]]⟩, some ⟨1, (s.second.map cZ)⟩]
abbrev sbbq198 (s : Ship) : OB := some ⟨8, [[.own 10 1 0 (List.length s.second), .own 5 1 0 (List.length s.second), .emp, VI 0, VI 0, VI 0, .emp, .emp]]⟩
abbrev sbbq199 (s : Ship) (n : Int) (d : ByteArray) : LB := [(sbbq0 s), some ⟨3, [[VI 8, VI n, .v (.string d)]]⟩, sbbq1, (sbbq22 s), some ⟨1, (s.first.map cZ)⟩, some ⟨1, (s.second.map cZ)⟩, some ⟨2, (s.log.map Record.cs)⟩, some ⟨1, (s.there.map cI)⟩, some ⟨1, (s.back.map cI)⟩, (sbbq198 s), some ⟨1, (s.second.map cZ)⟩]
abbrev sbbq200 (s : Ship) (n : Int) (d : ByteArray) : LB := [(sbbq0 s), some ⟨3, [[VI 8, VI n, .v (.string d)]]⟩, (sbbq198 s), (sbbq22 s), some ⟨1, (s.first.map cZ)⟩, some ⟨1, (s.second.map cZ)⟩, some ⟨2, (s.log.map Record.cs)⟩, some ⟨1, (s.there.map cI)⟩, some ⟨1, (s.back.map cI)⟩, (sbbq198 s), some ⟨1, (s.second.map cZ)⟩]
abbrev sbbq201 (s : Ship) : AV := .agg [.lst 1 (s.second.map cZ), .lst 1 (s.second.map cZ), .lst 2 [], VI 0, VI 0, VI 0, .lst 1 [], .lst 1 []]
abbrev sbbq202 (s : Ship) : AV := .agg [.own 10 1 0 (List.length s.second), .own 5 1 0 (List.length s.second), .emp, VI 0, VI 0, VI 0, .emp, .emp]
abbrev sbbq203 (s : Ship) : AV := .agg [.lst 1 (s.second.map cZ), .lst 1 (s.second.map cZ), .emp, VI 0, VI 0, VI 0, .emp, .emp]
abbrev sbbq204 : LS := (18, .tup [.v (.nilFunc), .v (.bool false)]) :: sbbq181
theorem step8_fn (s : Ship) (n : Int) (d : ByteArray) (ok : s.Ok) : Fn Try.prog 32 [.agg [.lst 1 (s.first.map cZ), .lst 1 (s.second.map cZ), .lst 2 (s.log.map Record.cs), VI s.sent, VI s.applied, VI s.known, .lst 1 (s.there.map cI), .lst 1 (s.back.map cI)], .agg [VI 8, VI n, .v (.string d)]] (.tup [.agg [.lst 1 ((((s.stepP ⟨8, n, d⟩).1).first).map cZ), .lst 1 ((((s.stepP ⟨8, n, d⟩).1).second).map cZ), .lst 2 ((((s.stepP ⟨8, n, d⟩).1).log).map Record.cs), VI (((s.stepP ⟨8, n, d⟩).1).sent), VI (((s.stepP ⟨8, n, d⟩).1).applied), VI (((s.stepP ⟨8, n, d⟩).1).known), .lst 1 ((((s.stepP ⟨8, n, d⟩).1).there).map cI), .lst 1 ((((s.stepP ⟨8, n, d⟩).1).back).map cI)], VI ((s.stepP ⟨8, n, d⟩).2)]) := by
  obtain ⟨⟨a1, a2⟩, b1, c1, c2, ⟨d1, d2, d3⟩, ee, ⟨k1, k2, k3, k4, k5⟩, tt, bb⟩ := ok
  refine fn_walkW F32_ok (of_decide_eq_true (by kernel_rfl)) ?_
  refine EL.sreg ?_
  refine OW.last 4 [2, 3, 4] (x' := ⟨sbbq3, (sbbq169 s n d)⟩) (by kernel_rfl) (by kernel_rfl) ?_
  refine EL.sreg ?_
  refine OW.run 1 (x' := ⟨(10, (sbbq4 s)) :: sbbq3, (sbbq169 s n d)⟩) (by kernel_rfl) ?_
  refine OW.fi (ar := [(sbbq4 s)]) (r := (sbbq21 s)) (m' := (sbbq179 s n d)) (x' := ⟨(11, (sbbq21 s)) :: (10, (sbbq4 s)) :: sbbq3, (sbbq179 s n d)⟩) (by kernel_rfl) (by kernel_rfl) F42_call ?_ (by kernel_rfl) ?_
  refine fi_walkW F42_ok (of_decide_eq_true (by kernel_rfl)) ?_
  refine EL.sreg ?_
  refine OW.last 2 [1, 2] (x' := ⟨[(2, .ref 4 8 0 0), (1, .ref 3 8 0 0)], (sbbq170 s n d)⟩) (by kernel_rfl) (by kernel_rfl) ?_
  refine EL.sdraw ?_
  refine DW.run 2 (x' := ⟨(sbbq6 s), (sbbq170 s n d)⟩) (by kernel_rfl) ?_
  refine DW.fo (ar := [.lst 1 (s.first.map cZ)]) (fe := cZ) (xs := s.first) (x' := ⟨(5, .own 5 1 0 (List.length s.first)) :: (sbbq6 s), (sbbq171 s n d)⟩) (by kernel_rfl) (by kernel_rfl) F61_call (cloneZ_fo s.first (by omega)) (by intro y; kernel_rfl) (by kernel_rfl) (by kernel_rfl) ?_
  refine DW.run 2 (x' := ⟨(sbbq8 s), (sbbq171 s n d)⟩) (by kernel_rfl) ?_
  refine DW.fo (ar := [.lst 1 (s.second.map cZ)]) (fe := cZ) (xs := s.second) (x' := ⟨(8, .own 6 1 0 (List.length s.second)) :: (sbbq8 s), (sbbq172 s n d)⟩) (by kernel_rfl) (by kernel_rfl) F61_call (cloneZ_fo s.second (by omega)) (by intro y; kernel_rfl) (by kernel_rfl) (by kernel_rfl) ?_
  refine DW.run 2 (x' := ⟨(sbbq10 s), (sbbq172 s n d)⟩) (by kernel_rfl) ?_
  refine DW.fo (ar := [.lst 2 (s.log.map Record.cs)]) (fe := Record.cs) (xs := s.log) (x' := ⟨(11, .own 7 2 0 (List.length s.log)) :: (sbbq10 s), (sbbq173 s n d)⟩) (by kernel_rfl) (by kernel_rfl) F62_call (cloneR_fo s.log (by omega)) (by intro y; kernel_rfl) (by kernel_rfl) (by kernel_rfl) ?_
  refine DW.last 6 [1, 2] (x' := ⟨[(2, .ref 4 8 0 0), (1, .ref 3 8 0 0)], (sbbq174 s n d)⟩) (by kernel_rfl) (by kernel_rfl) ?_
  refine EL.sdraw ?_
  refine DW.run 2 (x' := ⟨(sbbq14 s), (sbbq174 s n d)⟩) (by kernel_rfl) ?_
  refine DW.fo (ar := [.lst 1 (s.there.map cI)]) (fe := cI) (xs := s.there) (x' := ⟨(17, .own 8 1 0 (List.length s.there)) :: (sbbq14 s), (sbbq175 s n d)⟩) (by kernel_rfl) (by kernel_rfl) F50_call (cloneI_fo s.there (by omega)) (by intro y; kernel_rfl) (by kernel_rfl) (by kernel_rfl) ?_
  refine DW.run 2 (x' := ⟨(sbbq16 s), (sbbq175 s n d)⟩) (by kernel_rfl) ?_
  refine DW.fo (ar := [.lst 1 (s.back.map cI)]) (fe := cI) (xs := s.back) (x' := ⟨(20, .own 9 1 0 (List.length s.back)) :: (sbbq16 s), (sbbq176 s n d)⟩) (by kernel_rfl) (by kernel_rfl) F50_call (cloneI_fo s.back (by omega)) (by intro y; kernel_rfl) (by kernel_rfl) (by kernel_rfl) ?_
  refine DW.last 4 [1, 2] (x' := ⟨[(2, .ref 4 8 0 0), (1, .ref 3 8 0 0)], (sbbq177 s n d)⟩) (by kernel_rfl) (by kernel_rfl) ?_
  refine EL.sreg ?_
  refine OW.last 2 [2] (x' := ⟨[(2, .ref 4 8 0 0)], (sbbq178 s n d)⟩) (by kernel_rfl) (by kernel_rfl) ?_
  refine EL.ret ?_
  refine ⟨.inr rfl, ⟨[(2, .ref 3 8 0 0)], (sbbq179 s n d)⟩, norm_le (live := [2]) (src := [.old 0 false, .old 1 false, .old 2 false, .old 4 false, .old 5 true, .old 6 true, .old 7 true, .old 8 true, .old 9 true]) (es := []) (by kernel_rfl) ⟨pucZ s.first (by kernel_rfl), pucZ s.second (by kernel_rfl), pu 2 Record.cs s.log (by kernel_rfl) (by intro y; kernel_rfl), pucI s.there (by kernel_rfl), pucI s.back (by kernel_rfl), trivial⟩, by kernel_rfl, rfl⟩
  refine OW.last 3 [3, 4, 6] (x' := ⟨sbbq25, (sbbq180 s n d)⟩) (by kernel_rfl) (by kernel_rfl) ?_
  refine EL.sreg ?_
  refine OW.run 3 (x' := ⟨sbbq181, (sbbq180 s n d)⟩) (by kernel_rfl) ?_
  rcases Bool.eq_false_or_eq_true (wi 8 1 8) with h1 | h1
  try rw [h1]
  have g1 : ((1 : Int) ≤ 8 ∧ (8 : Int) ≤ 8) := wi_iff.1 h1
  refine OW.fi (ar := [.ref 9 8 0 0, VI 8]) (r := .tup [.bf 80 [.ref 9 8 0 0], .v (.bool false)]) (m' := (sbbq180 s n d)) (x' := ⟨sbbq183, (sbbq180 s n d)⟩) (by kernel_rfl) (by kernel_rfl) F58_call ?_ (by kernel_rfl) ?_
  refine fi_walkW F58_ok (of_decide_eq_true (by kernel_rfl)) ?_
  refine EL.sreg ?_
  refine OW.last 2 [0, 1] (x' := ⟨[(0, .ref 9 8 0 0), (1, VI 8)], (sbbq180 s n d)⟩) (by kernel_rfl) (by kernel_rfl) ?_
  refine EL.sreg ?_
  refine OW.last 19 [1, 6] (x' := ⟨[(6, .ref 10 9 0 0), (1, VI 8)], (sbbq182 s n d)⟩) (by kernel_rfl) (by kernel_rfl) ?_
  refine EL.seq ?_
  refine EL.sreg ?_
  refine OW.run 1 (x' := ⟨[(24, VI 8), (6, .ref 10 9 0 0), (1, VI 8)], (sbbq182 s n d)⟩) (by kernel_rfl) ?_
  refine OW.fn (ar := [VI 8, VI 1, VI 8]) (x' := ⟨[(25, .v (.bool (wi 8 1 8))), (24, VI 8), (6, .ref 10 9 0 0), (1, VI 8)], (sbbq182 s n d)⟩) (by kernel_rfl) (by kernel_rfl) F31_call (within_fn 8 1 8) (by kernel_rfl) (by kernel_rfl) ?_
  refine OW.last 1 [1, 6, 26] (x' := ⟨[(26, .v (.bool (!(wi 8 1 8)))), (6, .ref 10 9 0 0), (1, VI 8)], (sbbq182 s n d)⟩) (by kernel_rfl) (by kernel_rfl) ?_
  rw [h1]
  refine EL.condF (by kernel_rfl) ?_
  refine EL.skip ?_
  refine thenL_norm ?_
  refine EL.sreg ?_
  refine OW.last 11 [4, 5] (x' := ⟨[(5, .v (.bool false)), (4, .bf 80 [.ref 9 8 0 0])], (sbbq182 s n d)⟩) (by kernel_rfl) (by kernel_rfl) ?_
  refine EL.ret ?_
  refine ⟨.inr rfl, ⟨[(4, .bf 80 [.ref 9 8 0 0]), (5, .v (.bool false))], (sbbq180 s n d)⟩, norm_le (live := [4, 5]) (src := [.old 0 false, .old 1 false, .old 2 false, .old 3 false, .old 4 true, .old 5 true, .old 6 true, .old 7 true, .old 8 true, .old 9 false]) (es := []) (by kernel_rfl) ⟨pucZ s.first (by kernel_rfl), pucZ s.second (by kernel_rfl), pu 2 Record.cs s.log (by kernel_rfl) (by intro y; kernel_rfl), pucI s.there (by kernel_rfl), pucI s.back (by kernel_rfl), trivial⟩, by kernel_rfl, rfl⟩
  refine OW.last 5 [3, 4, 6, 7, 8] (x' := ⟨sbbq184, (sbbq180 s n d)⟩) (by kernel_rfl) (by kernel_rfl) ?_
  refine EL.sreg ?_
  refine OW.last 1 [3, 4, 6, 7, 8] (x' := ⟨sbbq184, (sbbq180 s n d)⟩) (by kernel_rfl) (by kernel_rfl) ?_
  refine EL.seq ?_
  refine EL.block ?_
  refine EL.sreg ?_
  refine OW.last 3 [3, 4, 6, 7, 8, 24] (x' := ⟨(24, .v (.bool false)) :: sbbq184, (sbbq180 s n d)⟩) (by kernel_rfl) (by kernel_rfl) ?_
  refine EL.condF (by kernel_rfl) ?_
  refine EL.seqG [3, 4, 6, 7, 27] (fun y => (y = ⟨sbbq189, (sbbq180 s n d)⟩ ∧ ((¬ (n = 0) ∧ (d = (⟨#[]⟩))) ∨ (¬ (d = (⟨#[]⟩))))) ∨ (y = ⟨sbbq190, (sbbq180 s n d)⟩ ∧ (n != 0) = false ∧ strEq d (⟨#[]⟩) = true)) ?_ ?_
  intro IHJ2 HJ2
  refine EL.sreg ?_
  refine OW.run 4 (x' := ⟨(31, .v (.bool (!(strEq d (⟨#[]⟩))))) :: (30, .v (.bool (!(strEq d (⟨#[]⟩))))) :: (sbbq185 d), (sbbq180 s n d)⟩) (by kernel_rfl) ?_
  rcases Bool.eq_false_or_eq_true (strEq d (⟨#[]⟩)) with h3 | h3
  rw [h3]
  have g3 : (d = (⟨#[]⟩)) := strEq_iff.1 h3
  refine OW.last 5 [3, 4, 6, 7, 8, 27] (x' := ⟨(27, .v (.bool false)) :: sbbq184, (sbbq180 s n d)⟩) (by kernel_rfl) (by kernel_rfl) ?_
  refine EL.condF (by kernel_rfl) ?_
  refine EL.reg0 ?_
  refine OW.run 4 (x' := ⟨(39, .v (.bool (n != 0))) :: (38, .v (.bool (n != 0))) :: (sbbq186 n), (sbbq180 s n d)⟩) (by kernel_rfl) ?_
  rcases Bool.eq_false_or_eq_true ((n != 0)) with h4 | h4
  rw [h4]
  have g4 : ¬ (n = 0) := by simpa using h4
  refine OW.end 4 (x' := ⟨(sbbq187 n), (sbbq180 s n d)⟩) (by kernel_rfl) (by kernel_rfl) ?_
  exact thenL_norm (HJ2.get (Or.inl ⟨by kernel_rfl, (Or.inl (by refine ⟨(by first | exact g4 | exact h4 | simp_all | omega), (by first | exact g3 | exact h3 | simp_all | omega)⟩))⟩))
  rw [h4]
  have g4 : (n = 0) := by simpa using h4
  refine OW.end 4 (x' := ⟨(sbbq188 n), (sbbq180 s n d)⟩) (by kernel_rfl) (by kernel_rfl) ?_
  exact thenL_norm (HJ2.get (Or.inr ⟨by kernel_rfl, h4, h3⟩))
  rw [h3]
  have g3 : ¬ (d = (⟨#[]⟩)) := fun hh => Bool.noConfusion ((strEq_iff.2 hh).symm.trans h3)
  refine OW.last 5 [3, 4, 6, 7, 8, 27] (x' := ⟨(27, .v (.bool true)) :: sbbq184, (sbbq180 s n d)⟩) (by kernel_rfl) (by kernel_rfl) ?_
  refine EL.condT (by kernel_rfl) ?_
  refine EL.skip ?_
  exact thenL_norm (HJ2.get (Or.inl ⟨by kernel_rfl, (Or.inr (by first | exact g3 | exact h3 | simp_all | omega))⟩))
  rintro _ (⟨rfl, hD5⟩ | ⟨rfl, h6, h7⟩)
  refine EL.condT (by kernel_rfl) ?_
  refine EL.reg0 ?_
  refine OW.end 1 (x' := ⟨(9, VI 1) :: sbbq189, (sbbq180 s n d)⟩) (by kernel_rfl) (by kernel_rfl) ?_
  refine inBlk_norm ?_
  refine thenL_norm ?_
  refine EL.seq ?_
  refine EL.sreg ?_
  refine OW.last 2 [4, 6, 9, 44] (x' := ⟨sbbq60, (sbbq180 s n d)⟩) (by kernel_rfl) (by kernel_rfl) ?_
  refine EL.condT (by kernel_rfl) ?_
  refine EL.sreg ?_
  refine OW.last 4 [4, 5] (x' := ⟨[(5, VI 1), (4, .ref 2 8 0 0)], (sbbq180 s n d)⟩) (by kernel_rfl) (by kernel_rfl) ?_
  refine EL.ret ?_
  refine thenL_ret ?_
  refine ⟨.inr rfl, .tup [.agg [.emp, .emp, .emp, VI 0, VI 0, VI 0, .emp, .emp], VI 1], by kernel_rfl, Ale.trans (b := .tup [sbbq59, VI 1]) (Ale.tup (.cons (Ale.agg (.cons (Ale.emp) (.cons (Ale.emp) (.cons (Ale.emp) (.cons (Ale.refl) (.cons (Ale.refl) (.cons (Ale.refl) (.cons (Ale.emp) (.cons (Ale.emp) (.nil)))))))))) (.cons (Ale.refl) (.nil)))) (Ale.of_eq ?_)⟩
  focus (skip; first | (exfalso; omega) | (rw [Ship.step_8, if_neg (by rintro ⟨hh, _⟩; exact absurd hh ‹_›)]; rfl) | (clear ee tt bb; rw [Ship.step_8]; (try split) <;> first | rfl | contradiction | (exfalso; omega) | (exfalso; simp_all; done) | (simp only [Ship.zero, wi_iff]; (repeat' split) <;> first | rfl | (exfalso; omega) | (simp; done) | (simp; omega) | (simp_all; done) | (simp_all; omega))))
  have g6 : (n = 0) := by simpa using h6
  have g7 : (d = (⟨#[]⟩)) := strEq_iff.1 h7
  refine EL.condF (by kernel_rfl) ?_
  refine EL.reg0 ?_
  refine OW.run 2 (x' := ⟨(sbbq191 n d), (sbbq180 s n d)⟩) (by kernel_rfl) ?_
  refine OW.fi (ar := [.ref 9 8 0 0, .agg [VI 8, VI n, .v (.string d)]]) (r := VI 0) (m' := (sbbq199 s n d)) (x' := ⟨(23, VI 0) :: (sbbq191 n d), (sbbq199 s n d)⟩) (by kernel_rfl) (by kernel_rfl) F80_call ?_ (by kernel_rfl) ?_
  refine fi_walkW F80_ok (of_decide_eq_true (by kernel_rfl)) ?_
  refine EL.sreg ?_
  refine OW.last 2 [0] (x' := ⟨[(0, .ref 9 8 0 0)], (sbbq192 s n d)⟩) (by kernel_rfl) (by kernel_rfl) ?_
  refine EL.sdraw ?_
  refine DW.run 6 (x' := ⟨(sbbq193 s), (sbbq192 s n d)⟩) (by kernel_rfl) ?_
  refine DW.fo (ar := [.own 5 1 0 (List.length s.second)]) (fe := cZ) (xs := s.second) (x' := ⟨(sbbq195 s), (sbbq194 s n d)⟩) (by kernel_rfl) (by kernel_rfl) F61_call (cloneZ_fo s.second (by omega)) (by intro y; kernel_rfl) (snapAs_cons (snapA_map cZ s.second (by kernel_rfl) (by intro y; kernel_rfl) (by simp)) (snapAs_nil)) (by kernel_rfl) ?_
  refine DW.last 9 [] (x' := ⟨[], (sbbq197 s n d)⟩) (by kernel_rfl) (by kernel_rfl) ?_
  refine EL.sreg ?_
  refine OW.last 1 [4] (x' := ⟨[(4, VI 0)], (sbbq197 s n d)⟩) (by kernel_rfl) (by kernel_rfl) ?_
  refine EL.ret ?_
  refine ⟨.inr rfl, ⟨[(4, VI 0)], (sbbq199 s n d)⟩, norm_le (live := [4]) (src := [.old 0 false, .old 1 false, .old 2 false, .old 3 false, .old 4 true, .old 5 true, .old 6 true, .old 7 true, .old 8 true, .old 9 false, .old 11 true]) (es := []) (by kernel_rfl) ⟨pucZ s.first (by kernel_rfl), pucZ s.second (by kernel_rfl), pu 2 Record.cs s.log (by kernel_rfl) (by intro y; kernel_rfl), pucI s.there (by kernel_rfl), pucI s.back (by kernel_rfl), pucZ s.second (by kernel_rfl), trivial⟩, by kernel_rfl, rfl⟩
  refine OW.end 1 (x' := ⟨(9, VI 0) :: (23, VI 0) :: (sbbq191 n d), (sbbq199 s n d)⟩) (by kernel_rfl) (by kernel_rfl) ?_
  refine inBlk_norm ?_
  refine thenL_norm ?_
  refine EL.seq ?_
  refine EL.sreg ?_
  refine OW.last 2 [4, 6, 9, 44] (x' := ⟨sbbq54, (sbbq199 s n d)⟩) (by kernel_rfl) (by kernel_rfl) ?_
  refine EL.condF (by kernel_rfl) ?_
  refine EL.skip ?_
  refine thenL_norm ?_
  refine EL.sreg ?_
  refine OW.last 6 [4, 5] (x' := ⟨[(5, VI 0), (4, .ref 2 8 0 0)], (sbbq200 s n d)⟩) (by kernel_rfl) (by kernel_rfl) ?_
  refine EL.ret ?_
  refine ⟨.inr rfl, .tup [(sbbq203 s), VI 0], run_snap (r0 := .tup [(sbbq202 s), VI 0]) (by kernel_rfl) (snapR_tup (snapAs_cons (snapA_agg (snapL_cons (snap1_map cZ s.second (by kernel_rfl) (by intro y; kernel_rfl) (by simp)) (snapL_cons (snap1_map cZ s.second (by kernel_rfl) (by intro y; kernel_rfl) (by simp)) (snapL_cons (by kernel_rfl) (snapL_cons (by kernel_rfl) (snapL_cons (by kernel_rfl) (snapL_cons (by kernel_rfl) (snapL_cons (by kernel_rfl) (snapL_cons (by kernel_rfl) (rfl)))))))))) (snapAs_cons (by kernel_rfl) (snapAs_nil)))), Ale.trans (b := .tup [(sbbq201 s), VI 0]) (Ale.tup (.cons (Ale.agg (.cons (Ale.refl) (.cons (Ale.refl) (.cons (Ale.emp) (.cons (Ale.refl) (.cons (Ale.refl) (.cons (Ale.refl) (.cons (Ale.emp) (.cons (Ale.emp) (.nil)))))))))) (.cons (Ale.refl) (.nil)))) (Ale.of_eq ?_)⟩
  focus (skip; first | (exfalso; omega) | (rw [Ship.step_8, if_neg (by rintro ⟨hh, _⟩; exact absurd hh ‹_›)]; rfl) | (clear ee tt bb; rw [Ship.step_8]; (try split) <;> first | rfl | contradiction | (exfalso; omega) | (exfalso; simp_all; done) | (simp only [Ship.zero, wi_iff]; (repeat' split) <;> first | rfl | (exfalso; omega) | (simp; done) | (simp; omega) | (simp_all; done) | (simp_all; omega))))
  try rw [h1]
  have g1 : ¬ ((1 : Int) ≤ 8 ∧ (8 : Int) ≤ 8) := fun hh => Bool.noConfusion ((wi_iff.2 hh).symm.trans h1)
  refine OW.fi (ar := [.ref 9 8 0 0, VI 8]) (r := .tup [.v (.nilFunc), .v (.bool false)]) (m' := (sbbq180 s n d)) (x' := ⟨sbbq204, (sbbq180 s n d)⟩) (by kernel_rfl) (by kernel_rfl) F58_call ?_ (by kernel_rfl) ?_
  refine fi_walkW F58_ok (of_decide_eq_true (by kernel_rfl)) ?_
  refine EL.sreg ?_
  refine OW.last 2 [0, 1] (x' := ⟨[(0, .ref 9 8 0 0), (1, VI 8)], (sbbq180 s n d)⟩) (by kernel_rfl) (by kernel_rfl) ?_
  refine EL.sreg ?_
  refine OW.last 19 [1, 6] (x' := ⟨[(6, .ref 10 9 0 0), (1, VI 8)], (sbbq182 s n d)⟩) (by kernel_rfl) (by kernel_rfl) ?_
  refine EL.seq ?_
  refine EL.sreg ?_
  refine OW.run 1 (x' := ⟨[(24, VI 8), (6, .ref 10 9 0 0), (1, VI 8)], (sbbq182 s n d)⟩) (by kernel_rfl) ?_
  refine OW.fn (ar := [VI 8, VI 1, VI 8]) (x' := ⟨[(25, .v (.bool (wi 8 1 8))), (24, VI 8), (6, .ref 10 9 0 0), (1, VI 8)], (sbbq182 s n d)⟩) (by kernel_rfl) (by kernel_rfl) F31_call (within_fn 8 1 8) (by kernel_rfl) (by kernel_rfl) ?_
  refine OW.last 1 [1, 6, 26] (x' := ⟨[(26, .v (.bool (!(wi 8 1 8)))), (6, .ref 10 9 0 0), (1, VI 8)], (sbbq182 s n d)⟩) (by kernel_rfl) (by kernel_rfl) ?_
  rw [h1]
  refine EL.condT (by kernel_rfl) ?_
  refine EL.sreg ?_
  refine OW.last 2 [4, 5] (x' := ⟨[(5, .v (.bool false)), (4, .v (.nilFunc))], (sbbq182 s n d)⟩) (by kernel_rfl) (by kernel_rfl) ?_
  refine EL.ret ?_
  refine thenL_ret ?_
  refine ⟨.inr rfl, ⟨[(4, .v (.nilFunc)), (5, .v (.bool false))], (sbbq180 s n d)⟩, norm_le (live := [4, 5]) (src := [.old 0 false, .old 1 false, .old 2 false, .old 3 false, .old 4 true, .old 5 true, .old 6 true, .old 7 true, .old 8 true, .old 9 false]) (es := []) (by kernel_rfl) ⟨pucZ s.first (by kernel_rfl), pucZ s.second (by kernel_rfl), pu 2 Record.cs s.log (by kernel_rfl) (by intro y; kernel_rfl), pucI s.there (by kernel_rfl), pucI s.back (by kernel_rfl), trivial⟩, by kernel_rfl, rfl⟩
  refine OW.last 5 [3, 4, 6, 7, 8] (x' := ⟨(8, .v (.bool false)) :: (7, .v (.nilFunc)) :: sbbq25, (sbbq180 s n d)⟩) (by kernel_rfl) (by kernel_rfl) ?_
  refine EL.sreg ?_
  refine OW.last 1 [3, 4, 6, 7, 8] (x' := ⟨(8, .v (.bool false)) :: (7, .v (.nilFunc)) :: sbbq25, (sbbq180 s n d)⟩) (by kernel_rfl) (by kernel_rfl) ?_
  refine EL.seq ?_
  refine EL.block ?_
  refine EL.sreg ?_
  refine OW.last 3 [3, 4, 6, 7, 8, 24] (x' := ⟨sbbq62, (sbbq180 s n d)⟩) (by kernel_rfl) (by kernel_rfl) ?_
  refine EL.condT (by kernel_rfl) ?_
  refine EL.reg0 ?_
  refine OW.end 1 (x' := ⟨(9, VI 7) :: sbbq62, (sbbq180 s n d)⟩) (by kernel_rfl) (by kernel_rfl) ?_
  refine inBlk_norm ?_
  refine thenL_norm ?_
  refine EL.seq ?_
  refine EL.sreg ?_
  refine OW.last 2 [4, 6, 9, 44] (x' := ⟨sbbq63, (sbbq180 s n d)⟩) (by kernel_rfl) (by kernel_rfl) ?_
  refine EL.condT (by kernel_rfl) ?_
  refine EL.sreg ?_
  refine OW.last 4 [4, 5] (x' := ⟨[(5, VI 7), (4, .ref 2 8 0 0)], (sbbq180 s n d)⟩) (by kernel_rfl) (by kernel_rfl) ?_
  refine EL.ret ?_
  refine thenL_ret ?_
  refine ⟨.inr rfl, .tup [.agg [.emp, .emp, .emp, VI 0, VI 0, VI 0, .emp, .emp], VI 7], by kernel_rfl, Ale.trans (b := .tup [sbbq59, VI 7]) (Ale.tup (.cons (Ale.agg (.cons (Ale.emp) (.cons (Ale.emp) (.cons (Ale.emp) (.cons (Ale.refl) (.cons (Ale.refl) (.cons (Ale.refl) (.cons (Ale.emp) (.cons (Ale.emp) (.nil)))))))))) (.cons (Ale.refl) (.nil)))) (Ale.of_eq ?_)⟩
  focus (skip; exfalso; omega)
end Go.Proofs.Ythdcanpbgaaneaa
