/- What the functions of package ship answer: steps. No condition. -/
import Derived.Test.YthdcanpbgaaneaaPShipM
set_option maxRecDepth 100000
set_option maxHeartbeats 4000000
set_option linter.unusedVariables false
set_option linter.unusedSimpArgs false
namespace Go.Proofs.Ythdcanpbgaaneaa
abbrev sbq0 (s : Ship) : OB := some ⟨8, [[.lst 1 (s.first.map cZ), .lst 1 (s.second.map cZ), .lst 2 (s.log.map Record.cs), VI s.sent, VI s.applied, VI s.known, .lst 1 (s.there.map cI), .lst 1 (s.back.map cI)]]⟩
abbrev sbq1 : OB := some ⟨8, [[.emp, .emp, .emp, VI 0, VI 0, VI 0, .emp, .emp]]⟩
abbrev sbq2 : LS := [(4, .ref 2 8 0 0), (3, .ref 1 3 0 0), (2, .ref 0 8 0 0)]
abbrev sbq3 (s : Ship) : AV := .agg [.lst 1 (s.first.map cZ), .lst 1 (s.second.map cZ), .lst 2 (s.log.map Record.cs), VI s.sent, VI s.applied, VI s.known, .lst 1 (s.there.map cI), .lst 1 (s.back.map cI)]
abbrev sbq4 (s : Ship) (n : Int) (d : ByteArray) : LB := [(sbq0 s), some ⟨3, [[VI 1, VI n, .v (.string d)]]⟩, sbq1, (sbq0 s), sbq1]
abbrev sbq5 (s : Ship) : LS := [(4, .lst 1 (s.first.map cZ)), (3, .ref 3 8 0 0), (2, .ref 4 8 0 0), (1, .ref 3 8 0 0)]
abbrev sbq6 (s : Ship) (n : Int) (d : ByteArray) : LB := [(sbq0 s), some ⟨3, [[VI 1, VI n, .v (.string d)]]⟩, sbq1, (sbq0 s), sbq1, some ⟨1, (s.first.map cZ)⟩]
abbrev sbq7 (s : Ship) : LS := (7, .lst 1 (s.second.map cZ)) :: (6, .ref 3 8 0 1) :: (5, .own 5 1 0 (List.length s.first)) :: (sbq5 s)
abbrev sbq8 (s : Ship) (n : Int) (d : ByteArray) : LB := [(sbq0 s), some ⟨3, [[VI 1, VI n, .v (.string d)]]⟩, sbq1, (sbq0 s), sbq1, some ⟨1, (s.first.map cZ)⟩, some ⟨1, (s.second.map cZ)⟩]
abbrev sbq9 (s : Ship) : LS := (10, .lst 2 (s.log.map Record.cs)) :: (9, .ref 3 8 0 2) :: (8, .own 6 1 0 (List.length s.second)) :: (sbq7 s)
abbrev sbq10 (s : Ship) (n : Int) (d : ByteArray) : LB := [(sbq0 s), some ⟨3, [[VI 1, VI n, .v (.string d)]]⟩, sbq1, (sbq0 s), sbq1, some ⟨1, (s.first.map cZ)⟩, some ⟨1, (s.second.map cZ)⟩, some ⟨2, (s.log.map Record.cs)⟩]
abbrev sbq11 (s : Ship) : OB := some ⟨8, [[.own 5 1 0 (List.length s.first), .own 6 1 0 (List.length s.second), .own 7 2 0 (List.length s.log), VI s.sent, VI s.applied, VI s.known, .lst 1 (s.there.map cI), .lst 1 (s.back.map cI)]]⟩
abbrev sbq12 (s : Ship) (n : Int) (d : ByteArray) : LB := [(sbq0 s), some ⟨3, [[VI 1, VI n, .v (.string d)]]⟩, sbq1, (sbq11 s), sbq1, some ⟨1, (s.first.map cZ)⟩, some ⟨1, (s.second.map cZ)⟩, some ⟨2, (s.log.map Record.cs)⟩]
abbrev sbq13 (s : Ship) : LS := [(16, .lst 1 (s.there.map cI)), (15, .ref 3 8 0 6), (2, .ref 4 8 0 0), (1, .ref 3 8 0 0)]
abbrev sbq14 (s : Ship) (n : Int) (d : ByteArray) : LB := [(sbq0 s), some ⟨3, [[VI 1, VI n, .v (.string d)]]⟩, sbq1, (sbq11 s), sbq1, some ⟨1, (s.first.map cZ)⟩, some ⟨1, (s.second.map cZ)⟩, some ⟨2, (s.log.map Record.cs)⟩, some ⟨1, (s.there.map cI)⟩]
abbrev sbq15 (s : Ship) : LS := (19, .lst 1 (s.back.map cI)) :: (18, .ref 3 8 0 7) :: (17, .own 8 1 0 (List.length s.there)) :: (sbq13 s)
abbrev sbq16 (s : Ship) (n : Int) (d : ByteArray) : LB := [(sbq0 s), some ⟨3, [[VI 1, VI n, .v (.string d)]]⟩, sbq1, (sbq11 s), sbq1, some ⟨1, (s.first.map cZ)⟩, some ⟨1, (s.second.map cZ)⟩, some ⟨2, (s.log.map Record.cs)⟩, some ⟨1, (s.there.map cI)⟩, some ⟨1, (s.back.map cI)⟩]
abbrev sbq17 (s : Ship) : OB := some ⟨8, [[.own 5 1 0 (List.length s.first), .own 6 1 0 (List.length s.second), .own 7 2 0 (List.length s.log), VI s.sent, VI s.applied, VI s.known, .own 8 1 0 (List.length s.there), .own 9 1 0 (List.length s.back)]]⟩
abbrev sbq18 (s : Ship) (n : Int) (d : ByteArray) : LB := [(sbq0 s), some ⟨3, [[VI 1, VI n, .v (.string d)]]⟩, sbq1, (sbq17 s), sbq1, some ⟨1, (s.first.map cZ)⟩, some ⟨1, (s.second.map cZ)⟩, some ⟨2, (s.log.map Record.cs)⟩, some ⟨1, (s.there.map cI)⟩, some ⟨1, (s.back.map cI)⟩]
abbrev sbq19 (s : Ship) (n : Int) (d : ByteArray) : LB := [(sbq0 s), some ⟨3, [[VI 1, VI n, .v (.string d)]]⟩, sbq1, (sbq17 s), (sbq17 s), some ⟨1, (s.first.map cZ)⟩, some ⟨1, (s.second.map cZ)⟩, some ⟨2, (s.log.map Record.cs)⟩, some ⟨1, (s.there.map cI)⟩, some ⟨1, (s.back.map cI)⟩]
abbrev sbq20 (s : Ship) : AV := .agg [.own 4 1 0 (List.length s.first), .own 5 1 0 (List.length s.second), .own 6 2 0 (List.length s.log), VI s.sent, VI s.applied, VI s.known, .own 7 1 0 (List.length s.there), .own 8 1 0 (List.length s.back)]
abbrev sbq21 (s : Ship) : OB := some ⟨8, [[.own 4 1 0 (List.length s.first), .own 5 1 0 (List.length s.second), .own 6 2 0 (List.length s.log), VI s.sent, VI s.applied, VI s.known, .own 7 1 0 (List.length s.there), .own 8 1 0 (List.length s.back)]]⟩
abbrev sbq22 (s : Ship) (n : Int) (d : ByteArray) : LB := [(sbq0 s), some ⟨3, [[VI 1, VI n, .v (.string d)]]⟩, sbq1, (sbq21 s), some ⟨1, (s.first.map cZ)⟩, some ⟨1, (s.second.map cZ)⟩, some ⟨2, (s.log.map Record.cs)⟩, some ⟨1, (s.there.map cI)⟩, some ⟨1, (s.back.map cI)⟩]
abbrev sbq23 (s : Ship) (n : Int) (d : ByteArray) : LB := [(sbq0 s), some ⟨3, [[VI 1, VI n, .v (.string d)]]⟩, sbq1, (sbq21 s), some ⟨1, (s.first.map cZ)⟩, some ⟨1, (s.second.map cZ)⟩, some ⟨2, (s.log.map Record.cs)⟩, some ⟨1, (s.there.map cI)⟩, some ⟨1, (s.back.map cI)⟩, (sbq21 s)]
abbrev sbq24 : LS := [(6, .ref 9 8 0 0), (4, .ref 2 8 0 0), (3, .ref 1 3 0 0)]
abbrev sbq25 : LS := (17, VI 1) :: (16, .ref 1 3 0 0) :: (15, .ref 9 8 0 0) :: sbq24
abbrev sbq26 : OB := some ⟨9, [[.v (.nilFunc), .bf 73 [.ref 9 8 0 0], .bf 74 [.ref 9 8 0 0], .bf 75 [.ref 9 8 0 0], .bf 76 [.ref 9 8 0 0], .bf 77 [.ref 9 8 0 0], .bf 78 [.ref 9 8 0 0], .bf 79 [.ref 9 8 0 0], .bf 80 [.ref 9 8 0 0]]]⟩
abbrev sbq27 (s : Ship) (n : Int) (d : ByteArray) : LB := [(sbq0 s), some ⟨3, [[VI 1, VI n, .v (.string d)]]⟩, sbq1, (sbq21 s), some ⟨1, (s.first.map cZ)⟩, some ⟨1, (s.second.map cZ)⟩, some ⟨2, (s.log.map Record.cs)⟩, some ⟨1, (s.there.map cI)⟩, some ⟨1, (s.back.map cI)⟩, (sbq21 s), sbq26]
abbrev sbq28 : LS := (18, .tup [.bf 73 [.ref 9 8 0 0], .v (.bool true)]) :: sbq25
abbrev sbq29 : LS := (8, .v (.bool true)) :: (7, .bf 73 [.ref 9 8 0 0]) :: sbq24
abbrev sbq30 (d : ByteArray) : LS := (29, .v (.string d)) :: (28, .ref 1 3 0 2) :: (24, .v (.bool false)) :: sbq29
abbrev sbq31 (n : Int) : LS := (37, VI n) :: (36, .ref 1 3 0 1) :: (27, .v (.bool false)) :: sbq29
abbrev sbq32 (n : Int) : LS := (27, .v (.bool false)) :: (42, .v (.bool false)) :: (41, .v (.bool false)) :: (40, .v (.bool true)) :: (39, .v (.bool true)) :: (38, .v (.bool true)) :: (37, VI n) :: (36, .ref 1 3 0 1) :: sbq29
abbrev sbq33 (n : Int) : LS := (27, .v (.bool false)) :: (42, .v (.bool false)) :: (41, .v undef) :: (40, .v undef) :: (39, .v (.bool false)) :: (38, .v (.bool false)) :: (37, VI n) :: (36, .ref 1 3 0 1) :: sbq29
abbrev sbq34 : LS := [(3, .ref 1 3 0 0), (4, .ref 2 8 0 0), (6, .ref 9 8 0 0), (7, .bf 73 [.ref 9 8 0 0]), (27, .v (.bool false))]
abbrev sbq35 (n : Int) (d : ByteArray) : LS := (22, .agg [VI 1, VI n, .v (.string d)]) :: (21, .bf 73 [.ref 9 8 0 0]) :: sbq34
abbrev sbq36 (s : Ship) (n : Int) (d : ByteArray) : LB := [(sbq0 s), some ⟨3, [[VI 1, VI n, .v (.string d)]]⟩, sbq1, (sbq21 s), some ⟨1, (s.first.map cZ)⟩, some ⟨1, (s.second.map cZ)⟩, some ⟨2, (s.log.map Record.cs)⟩, some ⟨1, (s.there.map cI)⟩, some ⟨1, (s.back.map cI)⟩, (sbq21 s), some ⟨3, [[VI 1, VI n, .v (.string d)]]⟩]
abbrev sbq37 (s : Ship) (n : Int) : LS := [(13, VI (List.length s.first : Int)), (12, .own 4 1 0 (List.length s.first)), (11, .ref 9 8 0 0), (10, .ref 9 8 0 0), (9, .ref 9 8 0 0), (8, .ref 9 8 0 0), (7, VI n), (6, .ref 10 3 0 1), (3, .ref 10 3 0 0), (0, .ref 9 8 0 0)]
abbrev sbq38 (s : Ship) (n : Int) : LS := (14, VI ((List.length s.first : Int) - 1)) :: (sbq37 s n)
abbrev sbq39 (d : ByteArray) : LS := [(19, .v (.string d)), (18, .ref 10 3 0 2), (5, .v (.bool false)), (3, .ref 10 3 0 0), (0, .ref 9 8 0 0)]
abbrev sbq40 (s : Ship) : LS := [(26, VI (List.length s.log : Int)), (25, .own 6 2 0 (List.length s.log)), (24, .ref 9 8 0 2), (23, .ref 9 8 0 0), (22, .ref 9 8 0 0), (21, .ref 9 8 0 0), (3, .ref 10 3 0 0), (0, .ref 9 8 0 0)]
abbrev sbq41 (d : ByteArray) (n : Int) (s : Ship) : LS := (36, .v (.string d)) :: (35, .ref 10 3 0 2) :: (34, VI n) :: (33, .ref 10 3 0 1) :: (32, .own 4 1 0 (List.length s.first)) :: (31, .ref 9 8 0 0) :: (30, .ref 9 8 0 0) :: (29, .ref 9 8 0 0) :: (28, .ref 9 8 0 0) :: (17, .v (.bool false)) :: (27, .v (.bool false)) :: (sbq40 s)
abbrev sbq42 (s : Ship) (n : Int) (d : ByteArray) : LB := [(sbq0 s), some ⟨3, [[VI 1, VI n, .v (.string d)]]⟩, sbq1, (sbq21 s), some ⟨1, ((List.set s.first (0 + Int.toNat n) d).map cZ)⟩, some ⟨1, (s.second.map cZ)⟩, some ⟨2, (s.log.map Record.cs)⟩, some ⟨1, (s.there.map cI)⟩, some ⟨1, (s.back.map cI)⟩, (sbq21 s), some ⟨3, [[VI 1, VI n, .v (.string d)]]⟩]
abbrev sbq43 (s : Ship) (n : Int) (d : ByteArray) : LB := [(sbq0 s), some ⟨3, [[VI 1, VI n, .v (.string d)]]⟩, sbq1, (sbq21 s), some ⟨1, ((List.set s.first (0 + Int.toNat n) d).map cZ)⟩, some ⟨1, (s.second.map cZ)⟩, some ⟨2, (s.log.map Record.cs)⟩, some ⟨1, (s.there.map cI)⟩, some ⟨1, (s.back.map cI)⟩, (sbq21 s), some ⟨3, [[VI 1, VI n, .v (.string d)]]⟩, some ⟨2, [[VI n, .v (.string d)]]⟩]
abbrev sbq44 (n : Int) (d : ByteArray) (s : Ship) : LS := [(49, .own 11 2 0 1), (48, .agg [VI n, .v (.string d)]), (47, .v (.string d)), (46, .ref 10 3 0 2), (45, VI n), (44, .ref 10 3 0 1), (43, .own 6 2 0 (List.length s.log)), (42, .ref 9 8 0 2), (41, .ref 9 8 0 0), (40, .ref 9 8 0 0), (39, .ref 9 8 0 0), (38, .ref 9 8 0 0), (3, .ref 10 3 0 0), (0, .ref 9 8 0 0)]
abbrev sbq45 (s : Ship) (n : Int) (d : ByteArray) : LB := [(sbq0 s), some ⟨3, [[VI 1, VI n, .v (.string d)]]⟩, sbq1, (sbq21 s), some ⟨1, ((List.set s.first (0 + Int.toNat n) d).map cZ)⟩, some ⟨1, (s.second.map cZ)⟩, none, some ⟨1, (s.there.map cI)⟩, some ⟨1, (s.back.map cI)⟩, (sbq21 s), some ⟨3, [[VI 1, VI n, .v (.string d)]]⟩, some ⟨2, [[VI n, .v (.string d)]]⟩, some ⟨2, ((s.log ++ ([(⟨n, d⟩ : Record)])).map Record.cs)⟩]
abbrev sbq46 (s : Ship) (n : Int) (d : ByteArray) : LS := (50, .own 12 2 0 (List.length (s.log ++ ([(⟨n, d⟩ : Record)])))) :: (sbq44 n d s)
abbrev sbq47 (s : Ship) (n : Int) (d : ByteArray) : OB := some ⟨8, [[.own 4 1 0 (List.length s.first), .own 5 1 0 (List.length s.second), .own 12 2 0 (List.length (s.log ++ ([(⟨n, d⟩ : Record)]))), VI s.sent, VI s.applied, VI s.known, .own 7 1 0 (List.length s.there), .own 8 1 0 (List.length s.back)]]⟩
abbrev sbq48 (s : Ship) (n : Int) (d : ByteArray) : LB := [(sbq0 s), some ⟨3, [[VI 1, VI n, .v (.string d)]]⟩, sbq1, (sbq21 s), some ⟨1, ((List.set s.first (0 + Int.toNat n) d).map cZ)⟩, some ⟨1, (s.second.map cZ)⟩, none, some ⟨1, (s.there.map cI)⟩, some ⟨1, (s.back.map cI)⟩, (sbq47 s n d), some ⟨3, [[VI 1, VI n, .v (.string d)]]⟩, some ⟨2, [[VI n, .v (.string d)]]⟩, some ⟨2, ((s.log ++ ([(⟨n, d⟩ : Record)])).map Record.cs)⟩]
abbrev sbq49 (s : Ship) : OB := some ⟨8, [[.own 4 1 0 (List.length s.first), .own 5 1 0 (List.length s.second), .dead, VI s.sent, VI s.applied, VI s.known, .own 7 1 0 (List.length s.there), .own 8 1 0 (List.length s.back)]]⟩
abbrev sbq50 (s : Ship) (n : Int) (d : ByteArray) : OB := some ⟨8, [[.own 4 1 0 (List.length s.first), .own 5 1 0 (List.length s.second), .own 10 2 0 (List.length (s.log ++ ([(⟨n, d⟩ : Record)]))), VI s.sent, VI s.applied, VI s.known, .own 7 1 0 (List.length s.there), .own 8 1 0 (List.length s.back)]]⟩
abbrev sbq51 (s : Ship) (n : Int) (d : ByteArray) : LB := [(sbq0 s), some ⟨3, [[VI 1, VI n, .v (.string d)]]⟩, sbq1, (sbq49 s), some ⟨1, ((List.set s.first (0 + Int.toNat n) d).map cZ)⟩, some ⟨1, (s.second.map cZ)⟩, none, some ⟨1, (s.there.map cI)⟩, some ⟨1, (s.back.map cI)⟩, (sbq50 s n d), some ⟨2, ((s.log ++ ([(⟨n, d⟩ : Record)])).map Record.cs)⟩]
abbrev sbq52 : LS := [(4, .ref 2 8 0 0), (6, .ref 9 8 0 0), (9, VI 2)]
abbrev sbq53 : LS := [(4, .ref 2 8 0 0), (6, .ref 9 8 0 0), (9, VI 0)]
abbrev sbq54 : LS := [(4, .ref 2 8 0 0), (6, .ref 9 8 0 0), (9, VI 3)]
abbrev sbq55 : AV := .agg [.lst 1 [], .lst 1 [], .lst 2 [], VI 0, VI 0, VI 0, .lst 1 [], .lst 1 []]
abbrev sbq56 (s : Ship) (n : Int) (d : ByteArray) : LB := [(sbq0 s), some ⟨3, [[VI 1, VI n, .v (.string d)]]⟩, (sbq50 s n d), (sbq49 s), some ⟨1, ((List.set s.first (0 + Int.toNat n) d).map cZ)⟩, some ⟨1, (s.second.map cZ)⟩, none, some ⟨1, (s.there.map cI)⟩, some ⟨1, (s.back.map cI)⟩, (sbq50 s n d), some ⟨2, ((s.log ++ ([(⟨n, d⟩ : Record)])).map Record.cs)⟩]
abbrev sbq57 (s : Ship) (n : Int) (d : ByteArray) : AV := .agg [.own 4 1 0 (List.length s.first), .own 5 1 0 (List.length s.second), .own 10 2 0 (List.length (s.log ++ ([(⟨n, d⟩ : Record)]))), VI s.sent, VI s.applied, VI s.known, .own 7 1 0 (List.length s.there), .own 8 1 0 (List.length s.back)]
abbrev sbq58 (s : Ship) (n : Int) (d : ByteArray) : AV := .agg [.lst 1 ((List.set s.first (0 + Int.toNat n) d).map cZ), .lst 1 (s.second.map cZ), .lst 2 ((s.log ++ ([(⟨n, d⟩ : Record)])).map Record.cs), VI s.sent, VI s.applied, VI s.known, .lst 1 (s.there.map cI), .lst 1 (s.back.map cI)]
abbrev sbq59 : LS := (18, .tup [.v (.nilFunc), .v (.bool false)]) :: sbq25
abbrev sbq60 : LS := (24, .v (.bool true)) :: (8, .v (.bool false)) :: (7, .v (.nilFunc)) :: sbq24
abbrev sbq61 : LS := [(44, .v (.bool true)), (9, VI 7), (6, .ref 9 8 0 0), (4, .ref 2 8 0 0)]
theorem step1_fn (s : Ship) (n : Int) (d : ByteArray) (ok : s.Ok) : Fn Try.prog 32 [.agg [.lst 1 (s.first.map cZ), .lst 1 (s.second.map cZ), .lst 2 (s.log.map Record.cs), VI s.sent, VI s.applied, VI s.known, .lst 1 (s.there.map cI), .lst 1 (s.back.map cI)], .agg [VI 1, VI n, .v (.string d)]] (.tup [.agg [.lst 1 ((((s.stepP ⟨1, n, d⟩).1).first).map cZ), .lst 1 ((((s.stepP ⟨1, n, d⟩).1).second).map cZ), .lst 2 ((((s.stepP ⟨1, n, d⟩).1).log).map Record.cs), VI (((s.stepP ⟨1, n, d⟩).1).sent), VI (((s.stepP ⟨1, n, d⟩).1).applied), VI (((s.stepP ⟨1, n, d⟩).1).known), .lst 1 ((((s.stepP ⟨1, n, d⟩).1).there).map cI), .lst 1 ((((s.stepP ⟨1, n, d⟩).1).back).map cI)], VI ((s.stepP ⟨1, n, d⟩).2)]) := by
  obtain ⟨⟨a1, a2⟩, b1, c1, c2, ⟨d1, d2, d3⟩, ee, ⟨k1, k2, k3, k4, k5⟩, tt, bb⟩ := ok
  refine fn_walkW F32_ok (of_decide_eq_true (by kernel_rfl)) ?_
  refine EL.sreg ?_
  refine OW.last 4 [2, 3, 4] (x' := ⟨sbq2, [(sbq0 s), some ⟨3, [[VI 1, VI n, .v (.string d)]]⟩, sbq1]⟩) (by kernel_rfl) (by kernel_rfl) ?_
  refine EL.sreg ?_
  refine OW.run 1 (x' := ⟨(10, (sbq3 s)) :: sbq2, [(sbq0 s), some ⟨3, [[VI 1, VI n, .v (.string d)]]⟩, sbq1]⟩) (by kernel_rfl) ?_
  refine OW.fi (ar := [(sbq3 s)]) (r := (sbq20 s)) (m' := (sbq22 s n d)) (x' := ⟨(11, (sbq20 s)) :: (10, (sbq3 s)) :: sbq2, (sbq22 s n d)⟩) (by kernel_rfl) (by kernel_rfl) F42_call ?_ (by kernel_rfl) ?_
  refine fi_walkW F42_ok (of_decide_eq_true (by kernel_rfl)) ?_
  refine EL.sreg ?_
  refine OW.last 2 [1, 2] (x' := ⟨[(2, .ref 4 8 0 0), (1, .ref 3 8 0 0)], (sbq4 s n d)⟩) (by kernel_rfl) (by kernel_rfl) ?_
  refine EL.sdraw ?_
  refine DW.run 2 (x' := ⟨(sbq5 s), (sbq4 s n d)⟩) (by kernel_rfl) ?_
  refine DW.fo (ar := [.lst 1 (s.first.map cZ)]) (fe := cZ) (xs := s.first) (x' := ⟨(5, .own 5 1 0 (List.length s.first)) :: (sbq5 s), (sbq6 s n d)⟩) (by kernel_rfl) (by kernel_rfl) F61_call (cloneZ_fo s.first (by omega)) (by intro y; kernel_rfl) (by kernel_rfl) (by kernel_rfl) ?_
  refine DW.run 2 (x' := ⟨(sbq7 s), (sbq6 s n d)⟩) (by kernel_rfl) ?_
  refine DW.fo (ar := [.lst 1 (s.second.map cZ)]) (fe := cZ) (xs := s.second) (x' := ⟨(8, .own 6 1 0 (List.length s.second)) :: (sbq7 s), (sbq8 s n d)⟩) (by kernel_rfl) (by kernel_rfl) F61_call (cloneZ_fo s.second (by omega)) (by intro y; kernel_rfl) (by kernel_rfl) (by kernel_rfl) ?_
  refine DW.run 2 (x' := ⟨(sbq9 s), (sbq8 s n d)⟩) (by kernel_rfl) ?_
  refine DW.fo (ar := [.lst 2 (s.log.map Record.cs)]) (fe := Record.cs) (xs := s.log) (x' := ⟨(11, .own 7 2 0 (List.length s.log)) :: (sbq9 s), (sbq10 s n d)⟩) (by kernel_rfl) (by kernel_rfl) F62_call (cloneR_fo s.log (by omega)) (by intro y; kernel_rfl) (by kernel_rfl) (by kernel_rfl) ?_
  refine DW.last 6 [1, 2] (x' := ⟨[(2, .ref 4 8 0 0), (1, .ref 3 8 0 0)], (sbq12 s n d)⟩) (by kernel_rfl) (by kernel_rfl) ?_
  refine EL.sdraw ?_
  refine DW.run 2 (x' := ⟨(sbq13 s), (sbq12 s n d)⟩) (by kernel_rfl) ?_
  refine DW.fo (ar := [.lst 1 (s.there.map cI)]) (fe := cI) (xs := s.there) (x' := ⟨(17, .own 8 1 0 (List.length s.there)) :: (sbq13 s), (sbq14 s n d)⟩) (by kernel_rfl) (by kernel_rfl) F50_call (cloneI_fo s.there (by omega)) (by intro y; kernel_rfl) (by kernel_rfl) (by kernel_rfl) ?_
  refine DW.run 2 (x' := ⟨(sbq15 s), (sbq14 s n d)⟩) (by kernel_rfl) ?_
  refine DW.fo (ar := [.lst 1 (s.back.map cI)]) (fe := cI) (xs := s.back) (x' := ⟨(20, .own 9 1 0 (List.length s.back)) :: (sbq15 s), (sbq16 s n d)⟩) (by kernel_rfl) (by kernel_rfl) F50_call (cloneI_fo s.back (by omega)) (by intro y; kernel_rfl) (by kernel_rfl) (by kernel_rfl) ?_
  refine DW.last 4 [1, 2] (x' := ⟨[(2, .ref 4 8 0 0), (1, .ref 3 8 0 0)], (sbq18 s n d)⟩) (by kernel_rfl) (by kernel_rfl) ?_
  refine EL.sreg ?_
  refine OW.last 2 [2] (x' := ⟨[(2, .ref 4 8 0 0)], (sbq19 s n d)⟩) (by kernel_rfl) (by kernel_rfl) ?_
  refine EL.ret ?_
  refine ⟨.inr rfl, ⟨[(2, .ref 3 8 0 0)], (sbq22 s n d)⟩, norm_le (live := [2]) (src := [.old 0 false, .old 1 false, .old 2 false, .old 4 false, .old 5 true, .old 6 true, .old 7 true, .old 8 true, .old 9 true]) (es := []) (by kernel_rfl) ⟨pucZ s.first (by kernel_rfl), pucZ s.second (by kernel_rfl), pu 2 Record.cs s.log (by kernel_rfl) (by intro y; kernel_rfl), pucI s.there (by kernel_rfl), pucI s.back (by kernel_rfl), trivial⟩, by kernel_rfl, rfl⟩
  refine OW.last 3 [3, 4, 6] (x' := ⟨sbq24, (sbq23 s n d)⟩) (by kernel_rfl) (by kernel_rfl) ?_
  refine EL.sreg ?_
  refine OW.run 3 (x' := ⟨sbq25, (sbq23 s n d)⟩) (by kernel_rfl) ?_
  rcases Bool.eq_false_or_eq_true (wi 1 1 8) with h1 | h1
  try rw [h1]
  have g1 : ((1 : Int) ≤ 1 ∧ (1 : Int) ≤ 8) := wi_iff.1 h1
  refine OW.fi (ar := [.ref 9 8 0 0, VI 1]) (r := .tup [.bf 73 [.ref 9 8 0 0], .v (.bool true)]) (m' := (sbq23 s n d)) (x' := ⟨sbq28, (sbq23 s n d)⟩) (by kernel_rfl) (by kernel_rfl) F58_call ?_ (by kernel_rfl) ?_
  refine fi_walkW F58_ok (of_decide_eq_true (by kernel_rfl)) ?_
  refine EL.sreg ?_
  refine OW.last 2 [0, 1] (x' := ⟨[(0, .ref 9 8 0 0), (1, VI 1)], (sbq23 s n d)⟩) (by kernel_rfl) (by kernel_rfl) ?_
  refine EL.sreg ?_
  refine OW.last 19 [1, 6] (x' := ⟨[(6, .ref 10 9 0 0), (1, VI 1)], (sbq27 s n d)⟩) (by kernel_rfl) (by kernel_rfl) ?_
  refine EL.seq ?_
  refine EL.sreg ?_
  refine OW.run 1 (x' := ⟨[(24, VI 1), (6, .ref 10 9 0 0), (1, VI 1)], (sbq27 s n d)⟩) (by kernel_rfl) ?_
  refine OW.fn (ar := [VI 1, VI 1, VI 8]) (x' := ⟨[(25, .v (.bool (wi 1 1 8))), (24, VI 1), (6, .ref 10 9 0 0), (1, VI 1)], (sbq27 s n d)⟩) (by kernel_rfl) (by kernel_rfl) F31_call (within_fn 1 1 8) (by kernel_rfl) (by kernel_rfl) ?_
  refine OW.last 1 [1, 6, 26] (x' := ⟨[(26, .v (.bool (!(wi 1 1 8)))), (6, .ref 10 9 0 0), (1, VI 1)], (sbq27 s n d)⟩) (by kernel_rfl) (by kernel_rfl) ?_
  rw [h1]
  refine EL.condF (by kernel_rfl) ?_
  refine EL.skip ?_
  refine thenL_norm ?_
  refine EL.sreg ?_
  refine OW.last 11 [4, 5] (x' := ⟨[(5, .v (.bool true)), (4, .bf 73 [.ref 9 8 0 0])], (sbq27 s n d)⟩) (by kernel_rfl) (by kernel_rfl) ?_
  refine EL.ret ?_
  refine ⟨.inr rfl, ⟨[(4, .bf 73 [.ref 9 8 0 0]), (5, .v (.bool true))], (sbq23 s n d)⟩, norm_le (live := [4, 5]) (src := [.old 0 false, .old 1 false, .old 2 false, .old 3 false, .old 4 true, .old 5 true, .old 6 true, .old 7 true, .old 8 true, .old 9 false]) (es := []) (by kernel_rfl) ⟨pucZ s.first (by kernel_rfl), pucZ s.second (by kernel_rfl), pu 2 Record.cs s.log (by kernel_rfl) (by intro y; kernel_rfl), pucI s.there (by kernel_rfl), pucI s.back (by kernel_rfl), trivial⟩, by kernel_rfl, rfl⟩
  refine OW.last 5 [3, 4, 6, 7, 8] (x' := ⟨sbq29, (sbq23 s n d)⟩) (by kernel_rfl) (by kernel_rfl) ?_
  refine EL.sreg ?_
  refine OW.last 1 [3, 4, 6, 7, 8] (x' := ⟨sbq29, (sbq23 s n d)⟩) (by kernel_rfl) (by kernel_rfl) ?_
  refine EL.seqG [4, 6, 9] (fun y => (y = ⟨sbq52, (sbq23 s n d)⟩ ∧ wi n 0 ((List.length s.first : Int) - 1) = true ∧ (((d.size > 64)) ∨ (((List.length s.log : Int) = 60) ∧ ¬ (d.size > 64)))) ∨ (y = ⟨sbq53, (sbq51 s n d)⟩ ∧ ((List.length s.log : Int) == 60) = false ∧ decide (d.size > 64) = false ∧ wi n 0 ((List.length s.first : Int) - 1) = true) ∨ (y = ⟨sbq54, (sbq23 s n d)⟩ ∧ wi n 0 ((List.length s.first : Int) - 1) = false)) ?_ ?_
  intro IHJ2 HJ2
  refine EL.block ?_
  refine EL.sreg ?_
  refine OW.last 3 [3, 4, 6, 7, 8, 24] (x' := ⟨(24, .v (.bool false)) :: sbq29, (sbq23 s n d)⟩) (by kernel_rfl) (by kernel_rfl) ?_
  refine EL.condF (by kernel_rfl) ?_
  refine EL.seqG [3, 4, 6, 7, 27] (fun y => (y = ⟨sbq34, (sbq23 s n d)⟩ ∧ ((¬ (n = 0) ∧ (d = (⟨#[]⟩))) ∨ ((n = 0) ∧ (d = (⟨#[]⟩))) ∨ (¬ (n = 0) ∧ ¬ (d = (⟨#[]⟩))) ∨ ((n = 0) ∧ ¬ (d = (⟨#[]⟩)))))) ?_ ?_
  intro IHJ3 HJ3
  refine EL.sreg ?_
  refine OW.run 4 (x' := ⟨(31, .v (.bool (!(strEq d (⟨#[]⟩))))) :: (30, .v (.bool (!(strEq d (⟨#[]⟩))))) :: (sbq30 d), (sbq23 s n d)⟩) (by kernel_rfl) ?_
  rcases Bool.eq_false_or_eq_true (strEq d (⟨#[]⟩)) with h4 | h4
  rw [h4]
  have g4 : (d = (⟨#[]⟩)) := strEq_iff.1 h4
  refine OW.last 5 [3, 4, 6, 7, 8, 27] (x' := ⟨(27, .v (.bool false)) :: sbq29, (sbq23 s n d)⟩) (by kernel_rfl) (by kernel_rfl) ?_
  refine EL.condF (by kernel_rfl) ?_
  refine EL.reg0 ?_
  refine OW.run 4 (x' := ⟨(39, .v (.bool (n != 0))) :: (38, .v (.bool (n != 0))) :: (sbq31 n), (sbq23 s n d)⟩) (by kernel_rfl) ?_
  rcases Bool.eq_false_or_eq_true ((n != 0)) with h5 | h5
  rw [h5]
  have g5 : ¬ (n = 0) := by simpa using h5
  refine OW.end 4 (x' := ⟨(sbq32 n), (sbq23 s n d)⟩) (by kernel_rfl) (by kernel_rfl) ?_
  exact thenL_norm (HJ3.get ⟨by kernel_rfl, (Or.inl (by refine ⟨(by first | exact g5 | exact h5 | simp_all | omega), (by first | exact g4 | exact h4 | simp_all | omega)⟩))⟩)
  rw [h5]
  have g5 : (n = 0) := by simpa using h5
  refine OW.end 4 (x' := ⟨(sbq33 n), (sbq23 s n d)⟩) (by kernel_rfl) (by kernel_rfl) ?_
  exact thenL_norm (HJ3.get ⟨by kernel_rfl, (Or.inr (Or.inl (by refine ⟨(by first | exact g5 | exact h5 | simp_all | omega), (by first | exact g4 | exact h4 | simp_all | omega)⟩)))⟩)
  rw [h4]
  have g4 : ¬ (d = (⟨#[]⟩)) := fun hh => Bool.noConfusion ((strEq_iff.2 hh).symm.trans h4)
  refine OW.last 5 [3, 4, 6, 7, 8, 27] (x' := ⟨(27, .v (.bool false)) :: sbq29, (sbq23 s n d)⟩) (by kernel_rfl) (by kernel_rfl) ?_
  refine EL.condF (by kernel_rfl) ?_
  refine EL.reg0 ?_
  refine OW.run 4 (x' := ⟨(39, .v (.bool (n != 0))) :: (38, .v (.bool (n != 0))) :: (sbq31 n), (sbq23 s n d)⟩) (by kernel_rfl) ?_
  rcases Bool.eq_false_or_eq_true ((n != 0)) with h6 | h6
  rw [h6]
  have g6 : ¬ (n = 0) := by simpa using h6
  refine OW.end 4 (x' := ⟨(sbq32 n), (sbq23 s n d)⟩) (by kernel_rfl) (by kernel_rfl) ?_
  exact thenL_norm (HJ3.get ⟨by kernel_rfl, (Or.inr (Or.inr (Or.inl (by refine ⟨(by first | exact g6 | exact h6 | simp_all | omega), (by first | exact g4 | exact h4 | simp_all | omega)⟩))))⟩)
  rw [h6]
  have g6 : (n = 0) := by simpa using h6
  refine OW.end 4 (x' := ⟨(sbq33 n), (sbq23 s n d)⟩) (by kernel_rfl) (by kernel_rfl) ?_
  exact thenL_norm (HJ3.get ⟨by kernel_rfl, (Or.inr (Or.inr (Or.inr (by refine ⟨(by first | exact g6 | exact h6 | simp_all | omega), (by first | exact g4 | exact h4 | simp_all | omega)⟩))))⟩)
  rintro _ (⟨rfl, hD7⟩)
  refine EL.condF (by kernel_rfl) ?_
  refine EL.reg0 ?_
  refine OW.run 2 (x' := ⟨(sbq35 n d), (sbq23 s n d)⟩) (by kernel_rfl) ?_
  rcases Bool.eq_false_or_eq_true (wi n 0 ((List.length s.first : Int) - 1)) with h8 | h8
  try rw [h8]
  have g8 : ((0 : Int) ≤ n ∧ (n : Int) ≤ ((List.length s.first : Int) - 1)) := wi_iff.1 h8
  rcases Bool.eq_false_or_eq_true (decide (d.size > 64)) with h9 | h9
  try rw [h9]
  have g9 : (d.size > 64) := of_decide_eq_true h9
  refine OW.fi (ar := [.ref 9 8 0 0, .agg [VI 1, VI n, .v (.string d)]]) (r := VI 2) (m' := (sbq23 s n d)) (x' := ⟨(23, VI 2) :: (sbq35 n d), (sbq23 s n d)⟩) (by kernel_rfl) (by kernel_rfl) F73_call ?_ (by kernel_rfl) ?_
  refine fi_walkW F73_ok (of_decide_eq_true (by kernel_rfl)) ?_
  refine EL.sreg ?_
  refine OW.last 2 [0, 3] (x' := ⟨[(3, .ref 10 3 0 0), (0, .ref 9 8 0 0)], (sbq36 s n d)⟩) (by kernel_rfl) (by kernel_rfl) ?_
  refine EL.seq ?_
  refine EL.block ?_
  refine EL.sdraw ?_
  refine DW.run 9 (x' := ⟨(14, VI (IntKind.i64.wrap ((List.length s.first : Int) - 1))) :: (sbq37 s n), (sbq36 s n d)⟩) (by kernel_rfl) ?_
  have e10 : IntKind.i64.wrap ((List.length s.first : Int) - 1) = (List.length s.first : Int) - 1 := wr64 (by omega)
  rw [e10]
  refine DW.fn (ar := [VI n, VI 0, VI ((List.length s.first : Int) - 1)]) (x' := ⟨(15, .v (.bool (wi n 0 ((List.length s.first : Int) - 1)))) :: (sbq38 s n), (sbq36 s n d)⟩) (by kernel_rfl) (by kernel_rfl) F31_call (within_fn n 0 ((List.length s.first : Int) - 1)) (by kernel_rfl) (by kernel_rfl) ?_
  refine DW.last 2 [0, 3, 5] (x' := ⟨[(5, .v (.bool (!(wi n 0 ((List.length s.first : Int) - 1))))), (3, .ref 10 3 0 0), (0, .ref 9 8 0 0)], (sbq36 s n d)⟩) (by kernel_rfl) (by kernel_rfl) ?_
  rw [h8]
  refine EL.condF (by kernel_rfl) ?_
  refine EL.seq ?_
  refine EL.sreg ?_
  refine OW.run 2 (x' := ⟨(sbq39 d), (sbq36 s n d)⟩) (by kernel_rfl) ?_
  refine OW.fn (ar := [.v (.string d)]) (x' := ⟨(20, .v (.bool (decide (d.size > 64)))) :: (sbq39 d), (sbq36 s n d)⟩) (by kernel_rfl) (by kernel_rfl) F37_call (long_fn d) (by kernel_rfl) (by kernel_rfl) ?_
  refine OW.last 1 [0, 3, 17] (x' := ⟨[(17, .v (.bool (decide (d.size > 64)))), (3, .ref 10 3 0 0), (0, .ref 9 8 0 0)], (sbq36 s n d)⟩) (by kernel_rfl) (by kernel_rfl) ?_
  rw [h9]
  refine EL.condT (by kernel_rfl) ?_
  refine EL.skip ?_
  refine thenL_norm ?_
  refine EL.condT (by kernel_rfl) ?_
  refine EL.sreg ?_
  refine OW.last 1 [4] (x' := ⟨[(4, VI 2)], (sbq36 s n d)⟩) (by kernel_rfl) (by kernel_rfl) ?_
  refine EL.ret ?_
  refine inBlk_ret ?_
  refine thenL_ret ?_
  refine ⟨.inr rfl, ⟨[(4, VI 2)], (sbq23 s n d)⟩, norm_le (live := [4]) (src := [.old 0 false, .old 1 false, .old 2 false, .old 3 false, .old 4 true, .old 5 true, .old 6 true, .old 7 true, .old 8 true, .old 9 false]) (es := []) (by kernel_rfl) ⟨pucZ s.first (by kernel_rfl), pucZ s.second (by kernel_rfl), pu 2 Record.cs s.log (by kernel_rfl) (by intro y; kernel_rfl), pucI s.there (by kernel_rfl), pucI s.back (by kernel_rfl), trivial⟩, by kernel_rfl, rfl⟩
  refine OW.end 1 (x' := ⟨(9, VI 2) :: (23, VI 2) :: (sbq35 n d), (sbq23 s n d)⟩) (by kernel_rfl) (by kernel_rfl) ?_
  refine inBlk_norm ?_
  exact thenL_norm (HJ2.get (Or.inl ⟨by kernel_rfl, h8, (Or.inl (by first | exact g9 | exact h9 | simp_all | omega))⟩))
  try rw [h9]
  have g9 : ¬ (d.size > 64) := of_decide_eq_false h9
  rcases Bool.eq_false_or_eq_true (((List.length s.log : Int) == 60)) with h11 | h11
  try rw [h11]
  have g11 : ((List.length s.log : Int) = 60) := by simpa using h11
  have n11 : ((List.length s.log) = 60) := by omega
  refine OW.fi (ar := [.ref 9 8 0 0, .agg [VI 1, VI n, .v (.string d)]]) (r := VI 2) (m' := (sbq23 s n d)) (x' := ⟨(23, VI 2) :: (sbq35 n d), (sbq23 s n d)⟩) (by kernel_rfl) (by kernel_rfl) F73_call ?_ (by kernel_rfl) ?_
  refine fi_walkW F73_ok (of_decide_eq_true (by kernel_rfl)) ?_
  refine EL.sreg ?_
  refine OW.last 2 [0, 3] (x' := ⟨[(3, .ref 10 3 0 0), (0, .ref 9 8 0 0)], (sbq36 s n d)⟩) (by kernel_rfl) (by kernel_rfl) ?_
  refine EL.seq ?_
  refine EL.block ?_
  refine EL.sdraw ?_
  refine DW.run 9 (x' := ⟨(14, VI (IntKind.i64.wrap ((List.length s.first : Int) - 1))) :: (sbq37 s n), (sbq36 s n d)⟩) (by kernel_rfl) ?_
  have e12 : IntKind.i64.wrap ((List.length s.first : Int) - 1) = (List.length s.first : Int) - 1 := wr64 (by omega)
  rw [e12]
  refine DW.fn (ar := [VI n, VI 0, VI ((List.length s.first : Int) - 1)]) (x' := ⟨(15, .v (.bool (wi n 0 ((List.length s.first : Int) - 1)))) :: (sbq38 s n), (sbq36 s n d)⟩) (by kernel_rfl) (by kernel_rfl) F31_call (within_fn n 0 ((List.length s.first : Int) - 1)) (by kernel_rfl) (by kernel_rfl) ?_
  refine DW.last 2 [0, 3, 5] (x' := ⟨[(5, .v (.bool (!(wi n 0 ((List.length s.first : Int) - 1))))), (3, .ref 10 3 0 0), (0, .ref 9 8 0 0)], (sbq36 s n d)⟩) (by kernel_rfl) (by kernel_rfl) ?_
  rw [h8]
  refine EL.condF (by kernel_rfl) ?_
  refine EL.seq ?_
  refine EL.sreg ?_
  refine OW.run 2 (x' := ⟨(sbq39 d), (sbq36 s n d)⟩) (by kernel_rfl) ?_
  refine OW.fn (ar := [.v (.string d)]) (x' := ⟨(20, .v (.bool (decide (d.size > 64)))) :: (sbq39 d), (sbq36 s n d)⟩) (by kernel_rfl) (by kernel_rfl) F37_call (long_fn d) (by kernel_rfl) (by kernel_rfl) ?_
  refine OW.last 1 [0, 3, 17] (x' := ⟨[(17, .v (.bool (decide (d.size > 64)))), (3, .ref 10 3 0 0), (0, .ref 9 8 0 0)], (sbq36 s n d)⟩) (by kernel_rfl) (by kernel_rfl) ?_
  rw [h9]
  refine EL.condF (by kernel_rfl) ?_
  refine EL.reg0 ?_
  refine OW.end 8 (x' := ⟨(17, .v (.bool ((List.length s.log : Int) == 60))) :: (27, .v (.bool ((List.length s.log : Int) == 60))) :: (sbq40 s), (sbq36 s n d)⟩) (by kernel_rfl) (by kernel_rfl) ?_
  refine thenL_norm ?_
  rw [h11]
  refine EL.condT (by kernel_rfl) ?_
  refine EL.sreg ?_
  refine OW.last 1 [4] (x' := ⟨[(4, VI 2)], (sbq36 s n d)⟩) (by kernel_rfl) (by kernel_rfl) ?_
  refine EL.ret ?_
  refine inBlk_ret ?_
  refine thenL_ret ?_
  refine ⟨.inr rfl, ⟨[(4, VI 2)], (sbq23 s n d)⟩, norm_le (live := [4]) (src := [.old 0 false, .old 1 false, .old 2 false, .old 3 false, .old 4 true, .old 5 true, .old 6 true, .old 7 true, .old 8 true, .old 9 false]) (es := []) (by kernel_rfl) ⟨pucZ s.first (by kernel_rfl), pucZ s.second (by kernel_rfl), pu 2 Record.cs s.log (by kernel_rfl) (by intro y; kernel_rfl), pucI s.there (by kernel_rfl), pucI s.back (by kernel_rfl), trivial⟩, by kernel_rfl, rfl⟩
  refine OW.end 1 (x' := ⟨(9, VI 2) :: (23, VI 2) :: (sbq35 n d), (sbq23 s n d)⟩) (by kernel_rfl) (by kernel_rfl) ?_
  refine inBlk_norm ?_
  exact thenL_norm (HJ2.get (Or.inl ⟨by kernel_rfl, h8, (Or.inr (by refine ⟨(by first | exact g11 | exact h11 | simp_all | omega), (by first | exact g9 | exact h9 | simp_all | omega)⟩))⟩))
  try rw [h11]
  have g11 : ¬ ((List.length s.log : Int) = 60) := by simpa using h11
  have n11 : ¬ ((List.length s.log) = 60) := by omega
  obtain ⟨a13, ha13⟩ : ∃ y, s.first[(n : Int).toNat]? = some y := idx_ex ⟨by omega, by omega⟩
  refine OW.fi (ar := [.ref 9 8 0 0, .agg [VI 1, VI n, .v (.string d)]]) (r := VI 0) (m' := (sbq51 s n d)) (x' := ⟨(23, VI 0) :: (sbq35 n d), (sbq51 s n d)⟩) (by kernel_rfl) (by kernel_rfl) F73_call ?_ (by kernel_rfl) ?_
  refine fi_walkW F73_ok (of_decide_eq_true (by kernel_rfl)) ?_
  refine EL.sreg ?_
  refine OW.last 2 [0, 3] (x' := ⟨[(3, .ref 10 3 0 0), (0, .ref 9 8 0 0)], (sbq36 s n d)⟩) (by kernel_rfl) (by kernel_rfl) ?_
  refine EL.seq ?_
  refine EL.block ?_
  refine EL.sdraw ?_
  refine DW.run 9 (x' := ⟨(14, VI (IntKind.i64.wrap ((List.length s.first : Int) - 1))) :: (sbq37 s n), (sbq36 s n d)⟩) (by kernel_rfl) ?_
  have e14 : IntKind.i64.wrap ((List.length s.first : Int) - 1) = (List.length s.first : Int) - 1 := wr64 (by omega)
  rw [e14]
  refine DW.fn (ar := [VI n, VI 0, VI ((List.length s.first : Int) - 1)]) (x' := ⟨(15, .v (.bool (wi n 0 ((List.length s.first : Int) - 1)))) :: (sbq38 s n), (sbq36 s n d)⟩) (by kernel_rfl) (by kernel_rfl) F31_call (within_fn n 0 ((List.length s.first : Int) - 1)) (by kernel_rfl) (by kernel_rfl) ?_
  refine DW.last 2 [0, 3, 5] (x' := ⟨[(5, .v (.bool (!(wi n 0 ((List.length s.first : Int) - 1))))), (3, .ref 10 3 0 0), (0, .ref 9 8 0 0)], (sbq36 s n d)⟩) (by kernel_rfl) (by kernel_rfl) ?_
  rw [h8]
  refine EL.condF (by kernel_rfl) ?_
  refine EL.seq ?_
  refine EL.sreg ?_
  refine OW.run 2 (x' := ⟨(sbq39 d), (sbq36 s n d)⟩) (by kernel_rfl) ?_
  refine OW.fn (ar := [.v (.string d)]) (x' := ⟨(20, .v (.bool (decide (d.size > 64)))) :: (sbq39 d), (sbq36 s n d)⟩) (by kernel_rfl) (by kernel_rfl) F37_call (long_fn d) (by kernel_rfl) (by kernel_rfl) ?_
  refine OW.last 1 [0, 3, 17] (x' := ⟨[(17, .v (.bool (decide (d.size > 64)))), (3, .ref 10 3 0 0), (0, .ref 9 8 0 0)], (sbq36 s n d)⟩) (by kernel_rfl) (by kernel_rfl) ?_
  rw [h9]
  refine EL.condF (by kernel_rfl) ?_
  refine EL.reg0 ?_
  refine OW.end 8 (x' := ⟨(17, .v (.bool ((List.length s.log : Int) == 60))) :: (27, .v (.bool ((List.length s.log : Int) == 60))) :: (sbq40 s), (sbq36 s n d)⟩) (by kernel_rfl) (by kernel_rfl) ?_
  refine thenL_norm ?_
  rw [h11]
  refine EL.condF (by kernel_rfl) ?_
  refine EL.skip ?_
  refine inBlk_norm ?_
  refine thenL_norm ?_
  refine EL.sdraw ?_
  refine DW.run 9 (x' := ⟨(sbq41 d n s), (sbq36 s n d)⟩) (by kernel_rfl) ?_
  refine DW.ope (v := .ref 4 1 (0 + Int.toNat n) 0) (u := []) (acc := [4]) (x' := ⟨(37, .ref 4 1 (0 + Int.toNat n) 0) :: (sbq41 d n s), (sbq36 s n d)⟩) (by kernel_rfl) (opE_iado (.s 32) (.s 34) 1 4 0 (List.length s.first) .i64 n ⟨1, (s.first.map cZ)⟩ (by kernel_rfl) (by kernel_rfl) rfl rfl ⟨by omega, by omega⟩ (by kernel_rfl)) (by kernel_rfl) ?_
  refine DW.ope (v := .v undef) (u := [(4, some ⟨1, ((List.set s.first (0 + Int.toNat n) d).map cZ)⟩)]) (acc := [4]) (x' := ⟨(37, .ref 4 1 (0 + Int.toNat n) 0) :: (sbq41 d n s), (sbq42 s n d)⟩) (by kernel_rfl) (opE_stoS cZ s.first 1 (.s 37) (.s 36) 4 1 (0 + Int.toNat n) 0 a13 d (.v (.string d)) (by kernel_rfl) (by kernel_rfl) rfl rfl (by kernel_rfl) (by simpa using ha13) (by kernel_rfl) (by kernel_rfl)) (by kernel_rfl) ?_
  refine DW.last 0 [0, 3] (x' := ⟨[(3, .ref 10 3 0 0), (0, .ref 9 8 0 0)], (sbq42 s n d)⟩) (by kernel_rfl) (by kernel_rfl) ?_
  refine EL.sdraw ?_
  refine DW.run 12 (x' := ⟨(sbq44 n d s), (sbq43 s n d)⟩) (by kernel_rfl) ?_
  refine DW.ope (v := .own 12 2 0 (List.length (s.log ++ ([(⟨n, d⟩ : Record)])))) (u := [(6, none), (12, some ⟨2, ((s.log ++ ([(⟨n, d⟩ : Record)])).map Record.cs)⟩)]) (acc := [11, 6]) (x' := ⟨(sbq46 s n d), (sbq45 s n d)⟩) (by kernel_rfl) (opE_appO Record.cs s.log ([(⟨n, d⟩ : Record)]) (.s 43) (.s 49) 2 24 6 (.own 11 2 0 1) _ (by kernel_rfl) (by kernel_rfl) rfl (by kernel_rfl) rfl (.own (els := [[VI n, .v (.string d)]]) (by kernel_rfl) (by kernel_rfl) (of_decide_eq_true (by kernel_rfl))) (by simp; omega)) (by kernel_rfl) ?_
  refine DW.last 4 [] (x' := ⟨[], (sbq48 s n d)⟩) (by kernel_rfl) (by kernel_rfl) ?_
  refine EL.sreg ?_
  refine OW.last 1 [4] (x' := ⟨[(4, VI 0)], (sbq48 s n d)⟩) (by kernel_rfl) (by kernel_rfl) ?_
  refine EL.ret ?_
  refine ⟨.inr rfl, ⟨[(4, VI 0)], (sbq51 s n d)⟩, norm_le (live := [4]) (src := [.old 0 false, .old 1 false, .old 2 false, .old 3 false, .old 4 true, .old 5 true, .old 6 false, .old 7 true, .old 8 true, .old 9 false, .old 12 true]) (es := []) (by kernel_rfl) ⟨pucZ (List.set s.first (0 + Int.toNat n) d) (by kernel_rfl), pucZ s.second (by kernel_rfl), pucI s.there (by kernel_rfl), pucI s.back (by kernel_rfl), pu 2 Record.cs (s.log ++ ([(⟨n, d⟩ : Record)])) (by kernel_rfl) (by intro y; kernel_rfl), trivial⟩, by kernel_rfl, rfl⟩
  refine OW.end 1 (x' := ⟨(9, VI 0) :: (23, VI 0) :: (sbq35 n d), (sbq51 s n d)⟩) (by kernel_rfl) (by kernel_rfl) ?_
  refine inBlk_norm ?_
  exact thenL_norm (HJ2.get (Or.inr (Or.inl ⟨by kernel_rfl, h11, h9, h8⟩)))
  try rw [h8]
  have g8 : ¬ ((0 : Int) ≤ n ∧ (n : Int) ≤ ((List.length s.first : Int) - 1)) := fun hh => Bool.noConfusion ((wi_iff.2 hh).symm.trans h8)
  refine OW.fi (ar := [.ref 9 8 0 0, .agg [VI 1, VI n, .v (.string d)]]) (r := VI 3) (m' := (sbq23 s n d)) (x' := ⟨(23, VI 3) :: (sbq35 n d), (sbq23 s n d)⟩) (by kernel_rfl) (by kernel_rfl) F73_call ?_ (by kernel_rfl) ?_
  refine fi_walkW F73_ok (of_decide_eq_true (by kernel_rfl)) ?_
  refine EL.sreg ?_
  refine OW.last 2 [0, 3] (x' := ⟨[(3, .ref 10 3 0 0), (0, .ref 9 8 0 0)], (sbq36 s n d)⟩) (by kernel_rfl) (by kernel_rfl) ?_
  refine EL.seq ?_
  refine EL.block ?_
  refine EL.sdraw ?_
  refine DW.run 9 (x' := ⟨(14, VI (IntKind.i64.wrap ((List.length s.first : Int) - 1))) :: (sbq37 s n), (sbq36 s n d)⟩) (by kernel_rfl) ?_
  have e15 : IntKind.i64.wrap ((List.length s.first : Int) - 1) = (List.length s.first : Int) - 1 := wr64 (by omega)
  rw [e15]
  refine DW.fn (ar := [VI n, VI 0, VI ((List.length s.first : Int) - 1)]) (x' := ⟨(15, .v (.bool (wi n 0 ((List.length s.first : Int) - 1)))) :: (sbq38 s n), (sbq36 s n d)⟩) (by kernel_rfl) (by kernel_rfl) F31_call (within_fn n 0 ((List.length s.first : Int) - 1)) (by kernel_rfl) (by kernel_rfl) ?_
  refine DW.last 2 [0, 3, 5] (x' := ⟨[(5, .v (.bool (!(wi n 0 ((List.length s.first : Int) - 1))))), (3, .ref 10 3 0 0), (0, .ref 9 8 0 0)], (sbq36 s n d)⟩) (by kernel_rfl) (by kernel_rfl) ?_
  rw [h8]
  refine EL.condT (by kernel_rfl) ?_
  refine EL.sreg ?_
  refine OW.last 1 [4] (x' := ⟨[(4, VI 3)], (sbq36 s n d)⟩) (by kernel_rfl) (by kernel_rfl) ?_
  refine EL.ret ?_
  refine inBlk_ret ?_
  refine thenL_ret ?_
  refine ⟨.inr rfl, ⟨[(4, VI 3)], (sbq23 s n d)⟩, norm_le (live := [4]) (src := [.old 0 false, .old 1 false, .old 2 false, .old 3 false, .old 4 true, .old 5 true, .old 6 true, .old 7 true, .old 8 true, .old 9 false]) (es := []) (by kernel_rfl) ⟨pucZ s.first (by kernel_rfl), pucZ s.second (by kernel_rfl), pu 2 Record.cs s.log (by kernel_rfl) (by intro y; kernel_rfl), pucI s.there (by kernel_rfl), pucI s.back (by kernel_rfl), trivial⟩, by kernel_rfl, rfl⟩
  refine OW.end 1 (x' := ⟨(9, VI 3) :: (23, VI 3) :: (sbq35 n d), (sbq23 s n d)⟩) (by kernel_rfl) (by kernel_rfl) ?_
  refine inBlk_norm ?_
  exact thenL_norm (HJ2.get (Or.inr (Or.inr ⟨by kernel_rfl, h8⟩)))
  rintro _ (⟨rfl, h16, hD17⟩ | ⟨rfl, h18, h19, h20⟩ | ⟨rfl, h21⟩)
  have g16 : ((0 : Int) ≤ n ∧ (n : Int) ≤ ((List.length s.first : Int) - 1)) := wi_iff.1 h16
  refine EL.seq ?_
  refine EL.sreg ?_
  refine OW.last 2 [4, 6, 9, 44] (x' := ⟨(44, .v (.bool true)) :: sbq52, (sbq23 s n d)⟩) (by kernel_rfl) (by kernel_rfl) ?_
  refine EL.condT (by kernel_rfl) ?_
  refine EL.sreg ?_
  refine OW.last 4 [4, 5] (x' := ⟨[(5, VI 2), (4, .ref 2 8 0 0)], (sbq23 s n d)⟩) (by kernel_rfl) (by kernel_rfl) ?_
  refine EL.ret ?_
  refine thenL_ret ?_
  refine ⟨.inr rfl, .tup [.agg [.emp, .emp, .emp, VI 0, VI 0, VI 0, .emp, .emp], VI 2], by kernel_rfl, Ale.trans (b := .tup [sbq55, VI 2]) (Ale.tup (.cons (Ale.agg (.cons (Ale.emp) (.cons (Ale.emp) (.cons (Ale.emp) (.cons (Ale.refl) (.cons (Ale.refl) (.cons (Ale.refl) (.cons (Ale.emp) (.cons (Ale.emp) (.nil)))))))))) (.cons (Ale.refl) (.nil)))) (Ale.of_eq ?_)⟩
  focus (skip; clear ee tt bb; rw [Ship.step_1]; (try split) <;> first | rfl | contradiction | (exfalso; omega) | (exfalso; simp_all; done) | (simp only [Ship.writeP, wi_iff]; (repeat' split) <;> first | rfl | (exfalso; omega) | (simp; done) | (simp; omega) | (simp_all; done) | (simp_all; omega)))
  have g18 : ¬ ((List.length s.log : Int) = 60) := by simpa using h18
  have n18 : ¬ ((List.length s.log) = 60) := by omega
  have g19 : ¬ (d.size > 64) := of_decide_eq_false h19
  have g20 : ((0 : Int) ≤ n ∧ (n : Int) ≤ ((List.length s.first : Int) - 1)) := wi_iff.1 h20
  refine EL.seq ?_
  refine EL.sreg ?_
  refine OW.last 2 [4, 6, 9, 44] (x' := ⟨(44, .v (.bool false)) :: sbq53, (sbq51 s n d)⟩) (by kernel_rfl) (by kernel_rfl) ?_
  refine EL.condF (by kernel_rfl) ?_
  refine EL.skip ?_
  refine thenL_norm ?_
  refine EL.sreg ?_
  refine OW.last 6 [4, 5] (x' := ⟨[(5, VI 0), (4, .ref 2 8 0 0)], (sbq56 s n d)⟩) (by kernel_rfl) (by kernel_rfl) ?_
  refine EL.ret ?_
  refine ⟨.inr rfl, .tup [(sbq58 s n d), VI 0], run_snap (r0 := .tup [(sbq57 s n d), VI 0]) (by kernel_rfl) (snapR_tup (snapAs_cons (snapA_agg (snapL_cons (snap1_map cZ (List.set s.first (0 + Int.toNat n) d) (by kernel_rfl) (by intro y; kernel_rfl) (by simp)) (snapL_cons (snap1_map cZ s.second (by kernel_rfl) (by intro y; kernel_rfl) (by simp)) (snapL_cons (snap1_map Record.cs (s.log ++ ([(⟨n, d⟩ : Record)])) (by kernel_rfl) (by intro y; kernel_rfl) (by simp)) (snapL_cons (by kernel_rfl) (snapL_cons (by kernel_rfl) (snapL_cons (by kernel_rfl) (snapL_cons (snap1_map cI s.there (by kernel_rfl) (by intro y; kernel_rfl) (by simp)) (snapL_cons (snap1_map cI s.back (by kernel_rfl) (by intro y; kernel_rfl) (by simp)) (rfl)))))))))) (snapAs_cons (by kernel_rfl) (snapAs_nil)))), Ale.of_eq ?_⟩
  focus (skip; clear ee tt bb; rw [Ship.step_1]; (try split) <;> first | rfl | contradiction | (exfalso; omega) | (exfalso; simp_all; done) | (simp only [Ship.writeP, wi_iff]; (repeat' split) <;> first | rfl | (exfalso; omega) | (simp; done) | (simp; omega) | (simp_all; done) | (simp_all; omega)))
  have g21 : ¬ ((0 : Int) ≤ n ∧ (n : Int) ≤ ((List.length s.first : Int) - 1)) := fun hh => Bool.noConfusion ((wi_iff.2 hh).symm.trans h21)
  refine EL.seq ?_
  refine EL.sreg ?_
  refine OW.last 2 [4, 6, 9, 44] (x' := ⟨(44, .v (.bool true)) :: sbq54, (sbq23 s n d)⟩) (by kernel_rfl) (by kernel_rfl) ?_
  refine EL.condT (by kernel_rfl) ?_
  refine EL.sreg ?_
  refine OW.last 4 [4, 5] (x' := ⟨[(5, VI 3), (4, .ref 2 8 0 0)], (sbq23 s n d)⟩) (by kernel_rfl) (by kernel_rfl) ?_
  refine EL.ret ?_
  refine thenL_ret ?_
  refine ⟨.inr rfl, .tup [.agg [.emp, .emp, .emp, VI 0, VI 0, VI 0, .emp, .emp], VI 3], by kernel_rfl, Ale.trans (b := .tup [sbq55, VI 3]) (Ale.tup (.cons (Ale.agg (.cons (Ale.emp) (.cons (Ale.emp) (.cons (Ale.emp) (.cons (Ale.refl) (.cons (Ale.refl) (.cons (Ale.refl) (.cons (Ale.emp) (.cons (Ale.emp) (.nil)))))))))) (.cons (Ale.refl) (.nil)))) (Ale.of_eq ?_)⟩
  focus (skip; clear ee tt bb; rw [Ship.step_1]; (try split) <;> first | rfl | contradiction | (exfalso; omega) | (exfalso; simp_all; done) | (simp only [Ship.writeP, wi_iff]; (repeat' split) <;> first | rfl | (exfalso; omega) | (simp; done) | (simp; omega) | (simp_all; done) | (simp_all; omega)))
  try rw [h1]
  have g1 : ¬ ((1 : Int) ≤ 1 ∧ (1 : Int) ≤ 8) := fun hh => Bool.noConfusion ((wi_iff.2 hh).symm.trans h1)
  refine OW.fi (ar := [.ref 9 8 0 0, VI 1]) (r := .tup [.v (.nilFunc), .v (.bool false)]) (m' := (sbq23 s n d)) (x' := ⟨sbq59, (sbq23 s n d)⟩) (by kernel_rfl) (by kernel_rfl) F58_call ?_ (by kernel_rfl) ?_
  refine fi_walkW F58_ok (of_decide_eq_true (by kernel_rfl)) ?_
  refine EL.sreg ?_
  refine OW.last 2 [0, 1] (x' := ⟨[(0, .ref 9 8 0 0), (1, VI 1)], (sbq23 s n d)⟩) (by kernel_rfl) (by kernel_rfl) ?_
  refine EL.sreg ?_
  refine OW.last 19 [1, 6] (x' := ⟨[(6, .ref 10 9 0 0), (1, VI 1)], (sbq27 s n d)⟩) (by kernel_rfl) (by kernel_rfl) ?_
  refine EL.seq ?_
  refine EL.sreg ?_
  refine OW.run 1 (x' := ⟨[(24, VI 1), (6, .ref 10 9 0 0), (1, VI 1)], (sbq27 s n d)⟩) (by kernel_rfl) ?_
  refine OW.fn (ar := [VI 1, VI 1, VI 8]) (x' := ⟨[(25, .v (.bool (wi 1 1 8))), (24, VI 1), (6, .ref 10 9 0 0), (1, VI 1)], (sbq27 s n d)⟩) (by kernel_rfl) (by kernel_rfl) F31_call (within_fn 1 1 8) (by kernel_rfl) (by kernel_rfl) ?_
  refine OW.last 1 [1, 6, 26] (x' := ⟨[(26, .v (.bool (!(wi 1 1 8)))), (6, .ref 10 9 0 0), (1, VI 1)], (sbq27 s n d)⟩) (by kernel_rfl) (by kernel_rfl) ?_
  rw [h1]
  refine EL.condT (by kernel_rfl) ?_
  refine EL.sreg ?_
  refine OW.last 2 [4, 5] (x' := ⟨[(5, .v (.bool false)), (4, .v (.nilFunc))], (sbq27 s n d)⟩) (by kernel_rfl) (by kernel_rfl) ?_
  refine EL.ret ?_
  refine thenL_ret ?_
  refine ⟨.inr rfl, ⟨[(4, .v (.nilFunc)), (5, .v (.bool false))], (sbq23 s n d)⟩, norm_le (live := [4, 5]) (src := [.old 0 false, .old 1 false, .old 2 false, .old 3 false, .old 4 true, .old 5 true, .old 6 true, .old 7 true, .old 8 true, .old 9 false]) (es := []) (by kernel_rfl) ⟨pucZ s.first (by kernel_rfl), pucZ s.second (by kernel_rfl), pu 2 Record.cs s.log (by kernel_rfl) (by intro y; kernel_rfl), pucI s.there (by kernel_rfl), pucI s.back (by kernel_rfl), trivial⟩, by kernel_rfl, rfl⟩
  refine OW.last 5 [3, 4, 6, 7, 8] (x' := ⟨(8, .v (.bool false)) :: (7, .v (.nilFunc)) :: sbq24, (sbq23 s n d)⟩) (by kernel_rfl) (by kernel_rfl) ?_
  refine EL.sreg ?_
  refine OW.last 1 [3, 4, 6, 7, 8] (x' := ⟨(8, .v (.bool false)) :: (7, .v (.nilFunc)) :: sbq24, (sbq23 s n d)⟩) (by kernel_rfl) (by kernel_rfl) ?_
  refine EL.seq ?_
  refine EL.block ?_
  refine EL.sreg ?_
  refine OW.last 3 [3, 4, 6, 7, 8, 24] (x' := ⟨sbq60, (sbq23 s n d)⟩) (by kernel_rfl) (by kernel_rfl) ?_
  refine EL.condT (by kernel_rfl) ?_
  refine EL.reg0 ?_
  refine OW.end 1 (x' := ⟨(9, VI 7) :: sbq60, (sbq23 s n d)⟩) (by kernel_rfl) (by kernel_rfl) ?_
  refine inBlk_norm ?_
  refine thenL_norm ?_
  refine EL.seq ?_
  refine EL.sreg ?_
  refine OW.last 2 [4, 6, 9, 44] (x' := ⟨sbq61, (sbq23 s n d)⟩) (by kernel_rfl) (by kernel_rfl) ?_
  refine EL.condT (by kernel_rfl) ?_
  refine EL.sreg ?_
  refine OW.last 4 [4, 5] (x' := ⟨[(5, VI 7), (4, .ref 2 8 0 0)], (sbq23 s n d)⟩) (by kernel_rfl) (by kernel_rfl) ?_
  refine EL.ret ?_
  refine thenL_ret ?_
  refine ⟨.inr rfl, .tup [.agg [.emp, .emp, .emp, VI 0, VI 0, VI 0, .emp, .emp], VI 7], by kernel_rfl, Ale.trans (b := .tup [sbq55, VI 7]) (Ale.tup (.cons (Ale.agg (.cons (Ale.emp) (.cons (Ale.emp) (.cons (Ale.emp) (.cons (Ale.refl) (.cons (Ale.refl) (.cons (Ale.refl) (.cons (Ale.emp) (.cons (Ale.emp) (.nil)))))))))) (.cons (Ale.refl) (.nil)))) (Ale.of_eq ?_)⟩
  focus (skip; exfalso; omega)
abbrev sbq62 (s : Ship) (n : Int) (d : ByteArray) : LB := [(sbq0 s), some ⟨3, [[VI 2, VI n, .v (.string d)]]⟩, sbq1, (sbq0 s), sbq1]
abbrev sbq63 (s : Ship) (n : Int) (d : ByteArray) : LB := [(sbq0 s), some ⟨3, [[VI 2, VI n, .v (.string d)]]⟩, sbq1, (sbq0 s), sbq1, some ⟨1, (s.first.map cZ)⟩]
abbrev sbq64 (s : Ship) (n : Int) (d : ByteArray) : LB := [(sbq0 s), some ⟨3, [[VI 2, VI n, .v (.string d)]]⟩, sbq1, (sbq0 s), sbq1, some ⟨1, (s.first.map cZ)⟩, some ⟨1, (s.second.map cZ)⟩]
abbrev sbq65 (s : Ship) (n : Int) (d : ByteArray) : LB := [(sbq0 s), some ⟨3, [[VI 2, VI n, .v (.string d)]]⟩, sbq1, (sbq0 s), sbq1, some ⟨1, (s.first.map cZ)⟩, some ⟨1, (s.second.map cZ)⟩, some ⟨2, (s.log.map Record.cs)⟩]
abbrev sbq66 (s : Ship) (n : Int) (d : ByteArray) : LB := [(sbq0 s), some ⟨3, [[VI 2, VI n, .v (.string d)]]⟩, sbq1, (sbq11 s), sbq1, some ⟨1, (s.first.map cZ)⟩, some ⟨1, (s.second.map cZ)⟩, some ⟨2, (s.log.map Record.cs)⟩]
abbrev sbq67 (s : Ship) (n : Int) (d : ByteArray) : LB := [(sbq0 s), some ⟨3, [[VI 2, VI n, .v (.string d)]]⟩, sbq1, (sbq11 s), sbq1, some ⟨1, (s.first.map cZ)⟩, some ⟨1, (s.second.map cZ)⟩, some ⟨2, (s.log.map Record.cs)⟩, some ⟨1, (s.there.map cI)⟩]
abbrev sbq68 (s : Ship) (n : Int) (d : ByteArray) : LB := [(sbq0 s), some ⟨3, [[VI 2, VI n, .v (.string d)]]⟩, sbq1, (sbq11 s), sbq1, some ⟨1, (s.first.map cZ)⟩, some ⟨1, (s.second.map cZ)⟩, some ⟨2, (s.log.map Record.cs)⟩, some ⟨1, (s.there.map cI)⟩, some ⟨1, (s.back.map cI)⟩]
abbrev sbq69 (s : Ship) (n : Int) (d : ByteArray) : LB := [(sbq0 s), some ⟨3, [[VI 2, VI n, .v (.string d)]]⟩, sbq1, (sbq17 s), sbq1, some ⟨1, (s.first.map cZ)⟩, some ⟨1, (s.second.map cZ)⟩, some ⟨2, (s.log.map Record.cs)⟩, some ⟨1, (s.there.map cI)⟩, some ⟨1, (s.back.map cI)⟩]
abbrev sbq70 (s : Ship) (n : Int) (d : ByteArray) : LB := [(sbq0 s), some ⟨3, [[VI 2, VI n, .v (.string d)]]⟩, sbq1, (sbq17 s), (sbq17 s), some ⟨1, (s.first.map cZ)⟩, some ⟨1, (s.second.map cZ)⟩, some ⟨2, (s.log.map Record.cs)⟩, some ⟨1, (s.there.map cI)⟩, some ⟨1, (s.back.map cI)⟩]
abbrev sbq71 (s : Ship) (n : Int) (d : ByteArray) : LB := [(sbq0 s), some ⟨3, [[VI 2, VI n, .v (.string d)]]⟩, sbq1, (sbq21 s), some ⟨1, (s.first.map cZ)⟩, some ⟨1, (s.second.map cZ)⟩, some ⟨2, (s.log.map Record.cs)⟩, some ⟨1, (s.there.map cI)⟩, some ⟨1, (s.back.map cI)⟩]
abbrev sbq72 (s : Ship) (n : Int) (d : ByteArray) : LB := [(sbq0 s), some ⟨3, [[VI 2, VI n, .v (.string d)]]⟩, sbq1, (sbq21 s), some ⟨1, (s.first.map cZ)⟩, some ⟨1, (s.second.map cZ)⟩, some ⟨2, (s.log.map Record.cs)⟩, some ⟨1, (s.there.map cI)⟩, some ⟨1, (s.back.map cI)⟩, (sbq21 s)]
abbrev sbq73 : LS := (17, VI 2) :: (16, .ref 1 3 0 0) :: (15, .ref 9 8 0 0) :: sbq24
abbrev sbq74 (s : Ship) (n : Int) (d : ByteArray) : LB := [(sbq0 s), some ⟨3, [[VI 2, VI n, .v (.string d)]]⟩, sbq1, (sbq21 s), some ⟨1, (s.first.map cZ)⟩, some ⟨1, (s.second.map cZ)⟩, some ⟨2, (s.log.map Record.cs)⟩, some ⟨1, (s.there.map cI)⟩, some ⟨1, (s.back.map cI)⟩, (sbq21 s), sbq26]
abbrev sbq75 : LS := (18, .tup [.bf 74 [.ref 9 8 0 0], .v (.bool false)]) :: sbq73
abbrev sbq76 : LS := (8, .v (.bool false)) :: (7, .bf 74 [.ref 9 8 0 0]) :: sbq24
abbrev sbq77 (d : ByteArray) : LS := (29, .v (.string d)) :: (28, .ref 1 3 0 2) :: (24, .v (.bool false)) :: sbq76
abbrev sbq78 (n : Int) : LS := (37, VI n) :: (36, .ref 1 3 0 1) :: (27, .v (.bool false)) :: sbq76
abbrev sbq79 (n : Int) : LS := (27, .v (.bool true)) :: (42, .v (.bool true)) :: (41, .v (.bool true)) :: (40, .v (.bool false)) :: (39, .v (.bool true)) :: (38, .v (.bool true)) :: (37, VI n) :: (36, .ref 1 3 0 1) :: sbq76
abbrev sbq80 (n : Int) : LS := (27, .v (.bool false)) :: (42, .v (.bool false)) :: (41, .v undef) :: (40, .v undef) :: (39, .v (.bool false)) :: (38, .v (.bool false)) :: (37, VI n) :: (36, .ref 1 3 0 1) :: sbq76
abbrev sbq81 : LS := [(3, .ref 1 3 0 0), (4, .ref 2 8 0 0), (6, .ref 9 8 0 0), (7, .bf 74 [.ref 9 8 0 0]), (27, .v (.bool true))]
abbrev sbq82 : LS := [(3, .ref 1 3 0 0), (4, .ref 2 8 0 0), (6, .ref 9 8 0 0), (7, .bf 74 [.ref 9 8 0 0]), (27, .v (.bool false))]
abbrev sbq83 (n : Int) (d : ByteArray) : LS := (22, .agg [VI 2, VI n, .v (.string d)]) :: (21, .bf 74 [.ref 9 8 0 0]) :: sbq82
abbrev sbq84 (s : Ship) (n : Int) (d : ByteArray) : LB := [(sbq0 s), some ⟨3, [[VI 2, VI n, .v (.string d)]]⟩, sbq1, (sbq21 s), some ⟨1, (s.first.map cZ)⟩, some ⟨1, (s.second.map cZ)⟩, some ⟨2, (s.log.map Record.cs)⟩, some ⟨1, (s.there.map cI)⟩, some ⟨1, (s.back.map cI)⟩, (sbq21 s), some ⟨3, [[VI 2, VI n, .v (.string d)]]⟩]
abbrev sbq85 (s : Ship) : LS := [(21, VI s.sent), (20, .ref 9 8 0 3), (19, .ref 9 8 0 0), (18, .ref 9 8 0 0), (17, .ref 9 8 0 0), (16, .v (.bool false)), (0, .ref 9 8 0 0)]
abbrev sbq86 (s : Ship) : OB := some ⟨8, [[.own 4 1 0 (List.length s.first), .own 5 1 0 (List.length s.second), .own 6 2 0 (List.length s.log), VI (s.sent + 1), VI s.applied, VI s.known, .own 7 1 0 (List.length s.there), .own 8 1 0 (List.length s.back)]]⟩
abbrev sbq87 (s : Ship) (n : Int) (d : ByteArray) : LB := [(sbq0 s), some ⟨3, [[VI 2, VI n, .v (.string d)]]⟩, sbq1, (sbq21 s), some ⟨1, (s.first.map cZ)⟩, some ⟨1, (s.second.map cZ)⟩, some ⟨2, (s.log.map Record.cs)⟩, some ⟨1, (s.there.map cI)⟩, some ⟨1, (s.back.map cI)⟩, (sbq86 s), some ⟨3, [[VI 2, VI n, .v (.string d)]]⟩]
abbrev sbq88 (s : Ship) : LS := [(34, VI (s.sent + 1)), (33, .ref 9 8 0 3), (32, .ref 9 8 0 0), (31, .ref 9 8 0 0), (30, .ref 9 8 0 0), (29, .ref 9 8 0 6), (28, .ref 9 8 0 0), (27, .ref 9 8 0 0), (26, .ref 9 8 0 0), (0, .ref 9 8 0 0)]
abbrev sbq89 (s : Ship) (n : Int) (d : ByteArray) : LB := [(sbq0 s), some ⟨3, [[VI 2, VI n, .v (.string d)]]⟩, sbq1, (sbq21 s), some ⟨1, (s.first.map cZ)⟩, some ⟨1, (s.second.map cZ)⟩, some ⟨2, (s.log.map Record.cs)⟩, some ⟨1, (s.there.map cI)⟩, some ⟨1, (s.back.map cI)⟩, (sbq86 s)]
abbrev sbq90 (s : Ship) (n : Int) (d : ByteArray) : LB := [(sbq0 s), some ⟨3, [[VI 2, VI n, .v (.string d)]]⟩, sbq1, (sbq21 s), some ⟨1, (s.first.map cZ)⟩, some ⟨1, (s.second.map cZ)⟩, some ⟨2, (s.log.map Record.cs)⟩, some ⟨1, (s.there.map cI)⟩, some ⟨1, (s.back.map cI)⟩, (sbq86 s), some ⟨3, [[VI 2, VI n, .v (.string d)]]⟩, some ⟨1, [[VI (s.sent + 1)]]⟩]
abbrev sbq91 (s : Ship) : LS := [(15, .own 11 1 0 1), (14, VI (s.sent + 1)), (13, .own 7 1 0 (List.length s.there)), (12, .ref 9 8 0 6), (11, .ref 9 8 0 6), (10, .ref 9 8 0 6), (9, .v (.bool false)), (0, .ref 9 8 0 6), (1, VI (s.sent + 1))]
abbrev sbq92 (s : Ship) (n : Int) (d : ByteArray) : LB := [(sbq0 s), some ⟨3, [[VI 2, VI n, .v (.string d)]]⟩, sbq1, (sbq21 s), some ⟨1, (s.first.map cZ)⟩, some ⟨1, (s.second.map cZ)⟩, some ⟨2, (s.log.map Record.cs)⟩, none, some ⟨1, (s.back.map cI)⟩, (sbq86 s), some ⟨3, [[VI 2, VI n, .v (.string d)]]⟩, some ⟨1, [[VI (s.sent + 1)]]⟩, some ⟨1, ((s.there ++ ([(s.sent + 1)])).map cI)⟩]
abbrev sbq93 (s : Ship) : LS := (16, .own 12 1 0 (List.length (s.there ++ ([(s.sent + 1)])))) :: (sbq91 s)
abbrev sbq94 (s : Ship) : OB := some ⟨8, [[.own 4 1 0 (List.length s.first), .own 5 1 0 (List.length s.second), .own 6 2 0 (List.length s.log), VI (s.sent + 1), VI s.applied, VI s.known, .own 12 1 0 (List.length (s.there ++ ([(s.sent + 1)]))), .own 8 1 0 (List.length s.back)]]⟩
abbrev sbq95 (s : Ship) (n : Int) (d : ByteArray) : LB := [(sbq0 s), some ⟨3, [[VI 2, VI n, .v (.string d)]]⟩, sbq1, (sbq21 s), some ⟨1, (s.first.map cZ)⟩, some ⟨1, (s.second.map cZ)⟩, some ⟨2, (s.log.map Record.cs)⟩, none, some ⟨1, (s.back.map cI)⟩, (sbq94 s), some ⟨3, [[VI 2, VI n, .v (.string d)]]⟩, some ⟨1, [[VI (s.sent + 1)]]⟩, some ⟨1, ((s.there ++ ([(s.sent + 1)])).map cI)⟩]
abbrev sbq96 (s : Ship) : OB := some ⟨8, [[.own 4 1 0 (List.length s.first), .own 5 1 0 (List.length s.second), .own 6 2 0 (List.length s.log), VI s.sent, VI s.applied, VI s.known, .dead, .own 8 1 0 (List.length s.back)]]⟩
abbrev sbq97 (s : Ship) : OB := some ⟨8, [[.own 4 1 0 (List.length s.first), .own 5 1 0 (List.length s.second), .own 6 2 0 (List.length s.log), VI (s.sent + 1), VI s.applied, VI s.known, .own 11 1 0 (List.length (s.there ++ ([(s.sent + 1)]))), .own 8 1 0 (List.length s.back)]]⟩
abbrev sbq98 (s : Ship) (n : Int) (d : ByteArray) : LB := [(sbq0 s), some ⟨3, [[VI 2, VI n, .v (.string d)]]⟩, sbq1, (sbq96 s), some ⟨1, (s.first.map cZ)⟩, some ⟨1, (s.second.map cZ)⟩, some ⟨2, (s.log.map Record.cs)⟩, none, some ⟨1, (s.back.map cI)⟩, (sbq97 s), some ⟨3, [[VI 2, VI n, .v (.string d)]]⟩, some ⟨1, ((s.there ++ ([(s.sent + 1)])).map cI)⟩]
abbrev sbq99 (s : Ship) : OB := some ⟨8, [[.own 4 1 0 (List.length s.first), .own 5 1 0 (List.length s.second), .own 6 2 0 (List.length s.log), VI (s.sent + 1), VI s.applied, VI s.known, .own 10 1 0 (List.length (s.there ++ ([(s.sent + 1)]))), .own 8 1 0 (List.length s.back)]]⟩
abbrev sbq100 (s : Ship) (n : Int) (d : ByteArray) : LB := [(sbq0 s), some ⟨3, [[VI 2, VI n, .v (.string d)]]⟩, sbq1, (sbq96 s), some ⟨1, (s.first.map cZ)⟩, some ⟨1, (s.second.map cZ)⟩, some ⟨2, (s.log.map Record.cs)⟩, none, some ⟨1, (s.back.map cI)⟩, (sbq99 s), some ⟨1, ((s.there ++ ([(s.sent + 1)])).map cI)⟩]
abbrev sbq101 : LS := [(44, .v (.bool true)), (9, VI 1), (4, .ref 2 8 0 0), (6, .ref 9 8 0 0)]
abbrev sbq102 : LS := [(44, .v (.bool true)), (9, VI 5), (4, .ref 2 8 0 0), (6, .ref 9 8 0 0)]
abbrev sbq103 : LS := [(44, .v (.bool true)), (9, VI 2), (4, .ref 2 8 0 0), (6, .ref 9 8 0 0)]
abbrev sbq104 : LS := [(44, .v (.bool false)), (9, VI 0), (4, .ref 2 8 0 0), (6, .ref 9 8 0 0)]
abbrev sbq105 (s : Ship) (n : Int) (d : ByteArray) : LB := [(sbq0 s), some ⟨3, [[VI 2, VI n, .v (.string d)]]⟩, (sbq99 s), (sbq96 s), some ⟨1, (s.first.map cZ)⟩, some ⟨1, (s.second.map cZ)⟩, some ⟨2, (s.log.map Record.cs)⟩, none, some ⟨1, (s.back.map cI)⟩, (sbq99 s), some ⟨1, ((s.there ++ ([(s.sent + 1)])).map cI)⟩]
abbrev sbq106 (s : Ship) : AV := .agg [.own 4 1 0 (List.length s.first), .own 5 1 0 (List.length s.second), .own 6 2 0 (List.length s.log), VI (s.sent + 1), VI s.applied, VI s.known, .own 10 1 0 (List.length (s.there ++ ([(s.sent + 1)]))), .own 8 1 0 (List.length s.back)]
abbrev sbq107 (s : Ship) : AV := .agg [.lst 1 (s.first.map cZ), .lst 1 (s.second.map cZ), .lst 2 (s.log.map Record.cs), VI (s.sent + 1), VI s.applied, VI s.known, .lst 1 ((s.there ++ ([(s.sent + 1)])).map cI), .lst 1 (s.back.map cI)]
abbrev sbq108 : LS := (18, .tup [.v (.nilFunc), .v (.bool false)]) :: sbq73
theorem step2_fn (s : Ship) (n : Int) (d : ByteArray) (ok : s.Ok) : Fn Try.prog 32 [.agg [.lst 1 (s.first.map cZ), .lst 1 (s.second.map cZ), .lst 2 (s.log.map Record.cs), VI s.sent, VI s.applied, VI s.known, .lst 1 (s.there.map cI), .lst 1 (s.back.map cI)], .agg [VI 2, VI n, .v (.string d)]] (.tup [.agg [.lst 1 ((((s.stepP ⟨2, n, d⟩).1).first).map cZ), .lst 1 ((((s.stepP ⟨2, n, d⟩).1).second).map cZ), .lst 2 ((((s.stepP ⟨2, n, d⟩).1).log).map Record.cs), VI (((s.stepP ⟨2, n, d⟩).1).sent), VI (((s.stepP ⟨2, n, d⟩).1).applied), VI (((s.stepP ⟨2, n, d⟩).1).known), .lst 1 ((((s.stepP ⟨2, n, d⟩).1).there).map cI), .lst 1 ((((s.stepP ⟨2, n, d⟩).1).back).map cI)], VI ((s.stepP ⟨2, n, d⟩).2)]) := by
  obtain ⟨⟨a1, a2⟩, b1, c1, c2, ⟨d1, d2, d3⟩, ee, ⟨k1, k2, k3, k4, k5⟩, tt, bb⟩ := ok
  refine fn_walkW F32_ok (of_decide_eq_true (by kernel_rfl)) ?_
  refine EL.sreg ?_
  refine OW.last 4 [2, 3, 4] (x' := ⟨sbq2, [(sbq0 s), some ⟨3, [[VI 2, VI n, .v (.string d)]]⟩, sbq1]⟩) (by kernel_rfl) (by kernel_rfl) ?_
  refine EL.sreg ?_
  refine OW.run 1 (x' := ⟨(10, (sbq3 s)) :: sbq2, [(sbq0 s), some ⟨3, [[VI 2, VI n, .v (.string d)]]⟩, sbq1]⟩) (by kernel_rfl) ?_
  refine OW.fi (ar := [(sbq3 s)]) (r := (sbq20 s)) (m' := (sbq71 s n d)) (x' := ⟨(11, (sbq20 s)) :: (10, (sbq3 s)) :: sbq2, (sbq71 s n d)⟩) (by kernel_rfl) (by kernel_rfl) F42_call ?_ (by kernel_rfl) ?_
  refine fi_walkW F42_ok (of_decide_eq_true (by kernel_rfl)) ?_
  refine EL.sreg ?_
  refine OW.last 2 [1, 2] (x' := ⟨[(2, .ref 4 8 0 0), (1, .ref 3 8 0 0)], (sbq62 s n d)⟩) (by kernel_rfl) (by kernel_rfl) ?_
  refine EL.sdraw ?_
  refine DW.run 2 (x' := ⟨(sbq5 s), (sbq62 s n d)⟩) (by kernel_rfl) ?_
  refine DW.fo (ar := [.lst 1 (s.first.map cZ)]) (fe := cZ) (xs := s.first) (x' := ⟨(5, .own 5 1 0 (List.length s.first)) :: (sbq5 s), (sbq63 s n d)⟩) (by kernel_rfl) (by kernel_rfl) F61_call (cloneZ_fo s.first (by omega)) (by intro y; kernel_rfl) (by kernel_rfl) (by kernel_rfl) ?_
  refine DW.run 2 (x' := ⟨(sbq7 s), (sbq63 s n d)⟩) (by kernel_rfl) ?_
  refine DW.fo (ar := [.lst 1 (s.second.map cZ)]) (fe := cZ) (xs := s.second) (x' := ⟨(8, .own 6 1 0 (List.length s.second)) :: (sbq7 s), (sbq64 s n d)⟩) (by kernel_rfl) (by kernel_rfl) F61_call (cloneZ_fo s.second (by omega)) (by intro y; kernel_rfl) (by kernel_rfl) (by kernel_rfl) ?_
  refine DW.run 2 (x' := ⟨(sbq9 s), (sbq64 s n d)⟩) (by kernel_rfl) ?_
  refine DW.fo (ar := [.lst 2 (s.log.map Record.cs)]) (fe := Record.cs) (xs := s.log) (x' := ⟨(11, .own 7 2 0 (List.length s.log)) :: (sbq9 s), (sbq65 s n d)⟩) (by kernel_rfl) (by kernel_rfl) F62_call (cloneR_fo s.log (by omega)) (by intro y; kernel_rfl) (by kernel_rfl) (by kernel_rfl) ?_
  refine DW.last 6 [1, 2] (x' := ⟨[(2, .ref 4 8 0 0), (1, .ref 3 8 0 0)], (sbq66 s n d)⟩) (by kernel_rfl) (by kernel_rfl) ?_
  refine EL.sdraw ?_
  refine DW.run 2 (x' := ⟨(sbq13 s), (sbq66 s n d)⟩) (by kernel_rfl) ?_
  refine DW.fo (ar := [.lst 1 (s.there.map cI)]) (fe := cI) (xs := s.there) (x' := ⟨(17, .own 8 1 0 (List.length s.there)) :: (sbq13 s), (sbq67 s n d)⟩) (by kernel_rfl) (by kernel_rfl) F50_call (cloneI_fo s.there (by omega)) (by intro y; kernel_rfl) (by kernel_rfl) (by kernel_rfl) ?_
  refine DW.run 2 (x' := ⟨(sbq15 s), (sbq67 s n d)⟩) (by kernel_rfl) ?_
  refine DW.fo (ar := [.lst 1 (s.back.map cI)]) (fe := cI) (xs := s.back) (x' := ⟨(20, .own 9 1 0 (List.length s.back)) :: (sbq15 s), (sbq68 s n d)⟩) (by kernel_rfl) (by kernel_rfl) F50_call (cloneI_fo s.back (by omega)) (by intro y; kernel_rfl) (by kernel_rfl) (by kernel_rfl) ?_
  refine DW.last 4 [1, 2] (x' := ⟨[(2, .ref 4 8 0 0), (1, .ref 3 8 0 0)], (sbq69 s n d)⟩) (by kernel_rfl) (by kernel_rfl) ?_
  refine EL.sreg ?_
  refine OW.last 2 [2] (x' := ⟨[(2, .ref 4 8 0 0)], (sbq70 s n d)⟩) (by kernel_rfl) (by kernel_rfl) ?_
  refine EL.ret ?_
  refine ⟨.inr rfl, ⟨[(2, .ref 3 8 0 0)], (sbq71 s n d)⟩, norm_le (live := [2]) (src := [.old 0 false, .old 1 false, .old 2 false, .old 4 false, .old 5 true, .old 6 true, .old 7 true, .old 8 true, .old 9 true]) (es := []) (by kernel_rfl) ⟨pucZ s.first (by kernel_rfl), pucZ s.second (by kernel_rfl), pu 2 Record.cs s.log (by kernel_rfl) (by intro y; kernel_rfl), pucI s.there (by kernel_rfl), pucI s.back (by kernel_rfl), trivial⟩, by kernel_rfl, rfl⟩
  refine OW.last 3 [3, 4, 6] (x' := ⟨sbq24, (sbq72 s n d)⟩) (by kernel_rfl) (by kernel_rfl) ?_
  refine EL.sreg ?_
  refine OW.run 3 (x' := ⟨sbq73, (sbq72 s n d)⟩) (by kernel_rfl) ?_
  rcases Bool.eq_false_or_eq_true (wi 2 1 8) with h1 | h1
  try rw [h1]
  have g1 : ((1 : Int) ≤ 2 ∧ (2 : Int) ≤ 8) := wi_iff.1 h1
  refine OW.fi (ar := [.ref 9 8 0 0, VI 2]) (r := .tup [.bf 74 [.ref 9 8 0 0], .v (.bool false)]) (m' := (sbq72 s n d)) (x' := ⟨sbq75, (sbq72 s n d)⟩) (by kernel_rfl) (by kernel_rfl) F58_call ?_ (by kernel_rfl) ?_
  refine fi_walkW F58_ok (of_decide_eq_true (by kernel_rfl)) ?_
  refine EL.sreg ?_
  refine OW.last 2 [0, 1] (x' := ⟨[(0, .ref 9 8 0 0), (1, VI 2)], (sbq72 s n d)⟩) (by kernel_rfl) (by kernel_rfl) ?_
  refine EL.sreg ?_
  refine OW.last 19 [1, 6] (x' := ⟨[(6, .ref 10 9 0 0), (1, VI 2)], (sbq74 s n d)⟩) (by kernel_rfl) (by kernel_rfl) ?_
  refine EL.seq ?_
  refine EL.sreg ?_
  refine OW.run 1 (x' := ⟨[(24, VI 2), (6, .ref 10 9 0 0), (1, VI 2)], (sbq74 s n d)⟩) (by kernel_rfl) ?_
  refine OW.fn (ar := [VI 2, VI 1, VI 8]) (x' := ⟨[(25, .v (.bool (wi 2 1 8))), (24, VI 2), (6, .ref 10 9 0 0), (1, VI 2)], (sbq74 s n d)⟩) (by kernel_rfl) (by kernel_rfl) F31_call (within_fn 2 1 8) (by kernel_rfl) (by kernel_rfl) ?_
  refine OW.last 1 [1, 6, 26] (x' := ⟨[(26, .v (.bool (!(wi 2 1 8)))), (6, .ref 10 9 0 0), (1, VI 2)], (sbq74 s n d)⟩) (by kernel_rfl) (by kernel_rfl) ?_
  rw [h1]
  refine EL.condF (by kernel_rfl) ?_
  refine EL.skip ?_
  refine thenL_norm ?_
  refine EL.sreg ?_
  refine OW.last 11 [4, 5] (x' := ⟨[(5, .v (.bool false)), (4, .bf 74 [.ref 9 8 0 0])], (sbq74 s n d)⟩) (by kernel_rfl) (by kernel_rfl) ?_
  refine EL.ret ?_
  refine ⟨.inr rfl, ⟨[(4, .bf 74 [.ref 9 8 0 0]), (5, .v (.bool false))], (sbq72 s n d)⟩, norm_le (live := [4, 5]) (src := [.old 0 false, .old 1 false, .old 2 false, .old 3 false, .old 4 true, .old 5 true, .old 6 true, .old 7 true, .old 8 true, .old 9 false]) (es := []) (by kernel_rfl) ⟨pucZ s.first (by kernel_rfl), pucZ s.second (by kernel_rfl), pu 2 Record.cs s.log (by kernel_rfl) (by intro y; kernel_rfl), pucI s.there (by kernel_rfl), pucI s.back (by kernel_rfl), trivial⟩, by kernel_rfl, rfl⟩
  refine OW.last 5 [3, 4, 6, 7, 8] (x' := ⟨sbq76, (sbq72 s n d)⟩) (by kernel_rfl) (by kernel_rfl) ?_
  refine EL.sreg ?_
  refine OW.last 1 [3, 4, 6, 7, 8] (x' := ⟨sbq76, (sbq72 s n d)⟩) (by kernel_rfl) (by kernel_rfl) ?_
  refine EL.seq ?_
  refine EL.block ?_
  refine EL.sreg ?_
  refine OW.last 3 [3, 4, 6, 7, 8, 24] (x' := ⟨(24, .v (.bool false)) :: sbq76, (sbq72 s n d)⟩) (by kernel_rfl) (by kernel_rfl) ?_
  refine EL.condF (by kernel_rfl) ?_
  refine EL.seqG [3, 4, 6, 7, 27] (fun y => (y = ⟨sbq81, (sbq72 s n d)⟩ ∧ ((¬ (n = 0) ∧ (d = (⟨#[]⟩))) ∨ (¬ (d = (⟨#[]⟩))))) ∨ (y = ⟨sbq82, (sbq72 s n d)⟩ ∧ (n != 0) = false ∧ strEq d (⟨#[]⟩) = true)) ?_ ?_
  intro IHJ2 HJ2
  refine EL.sreg ?_
  refine OW.run 4 (x' := ⟨(31, .v (.bool (!(strEq d (⟨#[]⟩))))) :: (30, .v (.bool (!(strEq d (⟨#[]⟩))))) :: (sbq77 d), (sbq72 s n d)⟩) (by kernel_rfl) ?_
  rcases Bool.eq_false_or_eq_true (strEq d (⟨#[]⟩)) with h3 | h3
  rw [h3]
  have g3 : (d = (⟨#[]⟩)) := strEq_iff.1 h3
  refine OW.last 5 [3, 4, 6, 7, 8, 27] (x' := ⟨(27, .v (.bool false)) :: sbq76, (sbq72 s n d)⟩) (by kernel_rfl) (by kernel_rfl) ?_
  refine EL.condF (by kernel_rfl) ?_
  refine EL.reg0 ?_
  refine OW.run 4 (x' := ⟨(39, .v (.bool (n != 0))) :: (38, .v (.bool (n != 0))) :: (sbq78 n), (sbq72 s n d)⟩) (by kernel_rfl) ?_
  rcases Bool.eq_false_or_eq_true ((n != 0)) with h4 | h4
  rw [h4]
  have g4 : ¬ (n = 0) := by simpa using h4
  refine OW.end 4 (x' := ⟨(sbq79 n), (sbq72 s n d)⟩) (by kernel_rfl) (by kernel_rfl) ?_
  exact thenL_norm (HJ2.get (Or.inl ⟨by kernel_rfl, (Or.inl (by refine ⟨(by first | exact g4 | exact h4 | simp_all | omega), (by first | exact g3 | exact h3 | simp_all | omega)⟩))⟩))
  rw [h4]
  have g4 : (n = 0) := by simpa using h4
  refine OW.end 4 (x' := ⟨(sbq80 n), (sbq72 s n d)⟩) (by kernel_rfl) (by kernel_rfl) ?_
  exact thenL_norm (HJ2.get (Or.inr ⟨by kernel_rfl, h4, h3⟩))
  rw [h3]
  have g3 : ¬ (d = (⟨#[]⟩)) := fun hh => Bool.noConfusion ((strEq_iff.2 hh).symm.trans h3)
  refine OW.last 5 [3, 4, 6, 7, 8, 27] (x' := ⟨(27, .v (.bool true)) :: sbq76, (sbq72 s n d)⟩) (by kernel_rfl) (by kernel_rfl) ?_
  refine EL.condT (by kernel_rfl) ?_
  refine EL.skip ?_
  exact thenL_norm (HJ2.get (Or.inl ⟨by kernel_rfl, (Or.inr (by first | exact g3 | exact h3 | simp_all | omega))⟩))
  rintro _ (⟨rfl, hD5⟩ | ⟨rfl, h6, h7⟩)
  refine EL.condT (by kernel_rfl) ?_
  refine EL.reg0 ?_
  refine OW.end 1 (x' := ⟨(9, VI 1) :: sbq81, (sbq72 s n d)⟩) (by kernel_rfl) (by kernel_rfl) ?_
  refine inBlk_norm ?_
  refine thenL_norm ?_
  refine EL.seq ?_
  refine EL.sreg ?_
  refine OW.last 2 [4, 6, 9, 44] (x' := ⟨sbq101, (sbq72 s n d)⟩) (by kernel_rfl) (by kernel_rfl) ?_
  refine EL.condT (by kernel_rfl) ?_
  refine EL.sreg ?_
  refine OW.last 4 [4, 5] (x' := ⟨[(5, VI 1), (4, .ref 2 8 0 0)], (sbq72 s n d)⟩) (by kernel_rfl) (by kernel_rfl) ?_
  refine EL.ret ?_
  refine thenL_ret ?_
  refine ⟨.inr rfl, .tup [.agg [.emp, .emp, .emp, VI 0, VI 0, VI 0, .emp, .emp], VI 1], by kernel_rfl, Ale.trans (b := .tup [sbq55, VI 1]) (Ale.tup (.cons (Ale.agg (.cons (Ale.emp) (.cons (Ale.emp) (.cons (Ale.emp) (.cons (Ale.refl) (.cons (Ale.refl) (.cons (Ale.refl) (.cons (Ale.emp) (.cons (Ale.emp) (.nil)))))))))) (.cons (Ale.refl) (.nil)))) (Ale.of_eq ?_)⟩
  focus (skip; first | (exfalso; omega) | (rw [Ship.step_2, if_neg (by rintro ⟨hh, _⟩; exact absurd hh ‹_›)]; rfl) | (clear ee tt bb; rw [Ship.step_2]; (try split) <;> first | rfl | contradiction | (exfalso; omega) | (exfalso; simp_all; done) | (simp only [Ship.sendP, wi_iff]; (repeat' split) <;> first | rfl | (exfalso; omega) | (simp; done) | (simp; omega) | (simp_all; done) | (simp_all; omega))))
  have g6 : (n = 0) := by simpa using h6
  have g7 : (d = (⟨#[]⟩)) := strEq_iff.1 h7
  refine EL.condF (by kernel_rfl) ?_
  refine EL.reg0 ?_
  refine OW.run 2 (x' := ⟨(sbq83 n d), (sbq72 s n d)⟩) (by kernel_rfl) ?_
  rcases Bool.eq_false_or_eq_true ((s.sent == (List.length s.log : Int))) with h8 | h8
  try rw [h8]
  have g8 : (s.sent = (List.length s.log : Int)) := by simpa using h8
  refine OW.fi (ar := [.ref 9 8 0 0, .agg [VI 2, VI n, .v (.string d)]]) (r := VI 5) (m' := (sbq72 s n d)) (x' := ⟨(23, VI 5) :: (sbq83 n d), (sbq72 s n d)⟩) (by kernel_rfl) (by kernel_rfl) F74_call ?_ (by kernel_rfl) ?_
  refine fi_walkW F74_ok (of_decide_eq_true (by kernel_rfl)) ?_
  refine EL.sreg ?_
  refine OW.last 2 [0] (x' := ⟨[(0, .ref 9 8 0 0)], (sbq84 s n d)⟩) (by kernel_rfl) (by kernel_rfl) ?_
  refine EL.seq ?_
  refine EL.sdraw ?_
  refine DW.last 12 [0, 16] (x' := ⟨[(16, .v (.bool (s.sent == (List.length s.log : Int)))), (0, .ref 9 8 0 0)], (sbq84 s n d)⟩) (by kernel_rfl) (by kernel_rfl) ?_
  rw [h8]
  refine EL.condT (by kernel_rfl) ?_
  refine EL.sreg ?_
  refine OW.last 1 [4] (x' := ⟨[(4, VI 5)], (sbq84 s n d)⟩) (by kernel_rfl) (by kernel_rfl) ?_
  refine EL.ret ?_
  refine thenL_ret ?_
  refine ⟨.inr rfl, ⟨[(4, VI 5)], (sbq72 s n d)⟩, norm_le (live := [4]) (src := [.old 0 false, .old 1 false, .old 2 false, .old 3 false, .old 4 true, .old 5 true, .old 6 true, .old 7 true, .old 8 true, .old 9 false]) (es := []) (by kernel_rfl) ⟨pucZ s.first (by kernel_rfl), pucZ s.second (by kernel_rfl), pu 2 Record.cs s.log (by kernel_rfl) (by intro y; kernel_rfl), pucI s.there (by kernel_rfl), pucI s.back (by kernel_rfl), trivial⟩, by kernel_rfl, rfl⟩
  refine OW.end 1 (x' := ⟨(9, VI 5) :: (23, VI 5) :: (sbq83 n d), (sbq72 s n d)⟩) (by kernel_rfl) (by kernel_rfl) ?_
  refine inBlk_norm ?_
  refine thenL_norm ?_
  refine EL.seq ?_
  refine EL.sreg ?_
  refine OW.last 2 [4, 6, 9, 44] (x' := ⟨sbq102, (sbq72 s n d)⟩) (by kernel_rfl) (by kernel_rfl) ?_
  refine EL.condT (by kernel_rfl) ?_
  refine EL.sreg ?_
  refine OW.last 4 [4, 5] (x' := ⟨[(5, VI 5), (4, .ref 2 8 0 0)], (sbq72 s n d)⟩) (by kernel_rfl) (by kernel_rfl) ?_
  refine EL.ret ?_
  refine thenL_ret ?_
  refine ⟨.inr rfl, .tup [.agg [.emp, .emp, .emp, VI 0, VI 0, VI 0, .emp, .emp], VI 5], by kernel_rfl, Ale.trans (b := .tup [sbq55, VI 5]) (Ale.tup (.cons (Ale.agg (.cons (Ale.emp) (.cons (Ale.emp) (.cons (Ale.emp) (.cons (Ale.refl) (.cons (Ale.refl) (.cons (Ale.refl) (.cons (Ale.emp) (.cons (Ale.emp) (.nil)))))))))) (.cons (Ale.refl) (.nil)))) (Ale.of_eq ?_)⟩
  focus (skip; clear ee tt bb; rw [Ship.step_2]; (try split) <;> first | rfl | contradiction | (exfalso; omega) | (exfalso; simp_all; done) | (simp only [Ship.sendP, wi_iff]; (repeat' split) <;> first | rfl | (exfalso; omega) | (simp; done) | (simp; omega) | (simp_all; done) | (simp_all; omega)))
  try rw [h8]
  have g8 : ¬ (s.sent = (List.length s.log : Int)) := by simpa using h8
  rcases Bool.eq_false_or_eq_true (((List.length s.there : Int) == 60)) with h9 | h9
  try rw [h9]
  have g9 : ((List.length s.there : Int) = 60) := by simpa using h9
  have n9 : ((List.length s.there) = 60) := by omega
  refine OW.fi (ar := [.ref 9 8 0 0, .agg [VI 2, VI n, .v (.string d)]]) (r := VI 2) (m' := (sbq89 s n d)) (x' := ⟨(23, VI 2) :: (sbq83 n d), (sbq89 s n d)⟩) (by kernel_rfl) (by kernel_rfl) F74_call ?_ (by kernel_rfl) ?_
  refine fi_walkW F74_ok (of_decide_eq_true (by kernel_rfl)) ?_
  refine EL.sreg ?_
  refine OW.last 2 [0] (x' := ⟨[(0, .ref 9 8 0 0)], (sbq84 s n d)⟩) (by kernel_rfl) (by kernel_rfl) ?_
  refine EL.seq ?_
  refine EL.sdraw ?_
  refine DW.last 12 [0, 16] (x' := ⟨[(16, .v (.bool (s.sent == (List.length s.log : Int)))), (0, .ref 9 8 0 0)], (sbq84 s n d)⟩) (by kernel_rfl) (by kernel_rfl) ?_
  rw [h8]
  refine EL.condF (by kernel_rfl) ?_
  refine EL.skip ?_
  refine thenL_norm ?_
  refine EL.sreg ?_
  refine OW.run 10 (x' := ⟨(25, .ref 9 8 0 3) :: (24, .ref 9 8 0 0) :: (23, .ref 9 8 0 0) :: (22, VI (IntKind.i64.wrap (s.sent + 1))) :: (sbq85 s), [(sbq0 s), some ⟨3, [[VI 2, VI n, .v (.string d)]]⟩, sbq1, (sbq21 s), some ⟨1, (s.first.map cZ)⟩, some ⟨1, (s.second.map cZ)⟩, some ⟨2, (s.log.map Record.cs)⟩, some ⟨1, (s.there.map cI)⟩, some ⟨1, (s.back.map cI)⟩, some ⟨8, [[.own 4 1 0 (List.length s.first), .own 5 1 0 (List.length s.second), .own 6 2 0 (List.length s.log), VI (IntKind.i64.wrap (s.sent + 1)), VI s.applied, VI s.known, .own 7 1 0 (List.length s.there), .own 8 1 0 (List.length s.back)]]⟩, some ⟨3, [[VI 2, VI n, .v (.string d)]]⟩]⟩) (by kernel_rfl) ?_
  have e10 : IntKind.i64.wrap (s.sent + 1) = s.sent + 1 := wr64 (by omega)
  rw [e10]
  refine OW.last 0 [0] (x' := ⟨[(0, .ref 9 8 0 0)], (sbq87 s n d)⟩) (by kernel_rfl) (by kernel_rfl) ?_
  refine EL.sdraw ?_
  refine DW.run 9 (x' := ⟨(sbq88 s), (sbq87 s n d)⟩) (by kernel_rfl) ?_
  refine DW.fi (ar := [.ref 9 8 0 6, VI (s.sent + 1)]) (r := VI 2) (m' := (sbq87 s n d)) (x' := ⟨(35, VI 2) :: (sbq88 s), (sbq87 s n d)⟩) (by kernel_rfl) (by kernel_rfl) F82_call ?_ (by kernel_rfl) (by kernel_rfl) (by kernel_rfl) ?_
  refine fi_walkW F82_ok (of_decide_eq_true (by kernel_rfl)) ?_
  refine EL.sreg ?_
  refine OW.last 1 [0, 1] (x' := ⟨[(0, .ref 9 8 0 6), (1, VI (s.sent + 1))], (sbq87 s n d)⟩) (by kernel_rfl) (by kernel_rfl) ?_
  refine EL.seq ?_
  refine EL.sreg ?_
  refine OW.last 5 [0, 1, 9] (x' := ⟨[(9, .v (.bool ((List.length s.there : Int) == 60))), (0, .ref 9 8 0 6), (1, VI (s.sent + 1))], (sbq87 s n d)⟩) (by kernel_rfl) (by kernel_rfl) ?_
  rw [h9]
  refine EL.condT (by kernel_rfl) ?_
  refine EL.sreg ?_
  refine OW.last 1 [4] (x' := ⟨[(4, VI 2)], (sbq87 s n d)⟩) (by kernel_rfl) (by kernel_rfl) ?_
  refine EL.ret ?_
  refine thenL_ret ?_
  refine ⟨.inr rfl, ⟨[(4, VI 2)], (sbq87 s n d)⟩, norm_le (live := [4]) (src := [.old 0 false, .old 1 false, .old 2 false, .old 3 false, .old 4 true, .old 5 true, .old 6 true, .old 7 true, .old 8 true, .old 9 false, .old 10 false]) (es := []) (by kernel_rfl) ⟨pucZ s.first (by kernel_rfl), pucZ s.second (by kernel_rfl), pu 2 Record.cs s.log (by kernel_rfl) (by intro y; kernel_rfl), pucI s.there (by kernel_rfl), pucI s.back (by kernel_rfl), trivial⟩, by kernel_rfl, rfl⟩
  refine DW.last 1 [4] (x' := ⟨[(4, VI 2)], (sbq87 s n d)⟩) (by kernel_rfl) (by kernel_rfl) ?_
  refine EL.ret ?_
  refine ⟨.inr rfl, ⟨[(4, VI 2)], (sbq89 s n d)⟩, norm_le (live := [4]) (src := [.old 0 false, .old 1 false, .old 2 false, .old 3 false, .old 4 true, .old 5 true, .old 6 true, .old 7 true, .old 8 true, .old 9 false]) (es := []) (by kernel_rfl) ⟨pucZ s.first (by kernel_rfl), pucZ s.second (by kernel_rfl), pu 2 Record.cs s.log (by kernel_rfl) (by intro y; kernel_rfl), pucI s.there (by kernel_rfl), pucI s.back (by kernel_rfl), trivial⟩, by kernel_rfl, rfl⟩
  refine OW.end 1 (x' := ⟨(9, VI 2) :: (23, VI 2) :: (sbq83 n d), (sbq89 s n d)⟩) (by kernel_rfl) (by kernel_rfl) ?_
  refine inBlk_norm ?_
  refine thenL_norm ?_
  refine EL.seq ?_
  refine EL.sreg ?_
  refine OW.last 2 [4, 6, 9, 44] (x' := ⟨sbq103, (sbq89 s n d)⟩) (by kernel_rfl) (by kernel_rfl) ?_
  refine EL.condT (by kernel_rfl) ?_
  refine EL.sreg ?_
  refine OW.last 4 [4, 5] (x' := ⟨[(5, VI 2), (4, .ref 2 8 0 0)], (sbq89 s n d)⟩) (by kernel_rfl) (by kernel_rfl) ?_
  refine EL.ret ?_
  refine thenL_ret ?_
  refine ⟨.inr rfl, .tup [.agg [.emp, .emp, .emp, VI 0, VI 0, VI 0, .emp, .emp], VI 2], by kernel_rfl, Ale.trans (b := .tup [sbq55, VI 2]) (Ale.tup (.cons (Ale.agg (.cons (Ale.emp) (.cons (Ale.emp) (.cons (Ale.emp) (.cons (Ale.refl) (.cons (Ale.refl) (.cons (Ale.refl) (.cons (Ale.emp) (.cons (Ale.emp) (.nil)))))))))) (.cons (Ale.refl) (.nil)))) (Ale.of_eq ?_)⟩
  focus (skip; clear ee tt bb; rw [Ship.step_2]; (try split) <;> first | rfl | contradiction | (exfalso; omega) | (exfalso; simp_all; done) | (simp only [Ship.sendP, wi_iff]; (repeat' split) <;> first | rfl | (exfalso; omega) | (simp; done) | (simp; omega) | (simp_all; done) | (simp_all; omega)))
  try rw [h9]
  have g9 : ¬ ((List.length s.there : Int) = 60) := by simpa using h9
  have n9 : ¬ ((List.length s.there) = 60) := by omega
  refine OW.fi (ar := [.ref 9 8 0 0, .agg [VI 2, VI n, .v (.string d)]]) (r := VI 0) (m' := (sbq100 s n d)) (x' := ⟨(23, VI 0) :: (sbq83 n d), (sbq100 s n d)⟩) (by kernel_rfl) (by kernel_rfl) F74_call ?_ (by kernel_rfl) ?_
  refine fi_walkW F74_ok (of_decide_eq_true (by kernel_rfl)) ?_
  refine EL.sreg ?_
  refine OW.last 2 [0] (x' := ⟨[(0, .ref 9 8 0 0)], (sbq84 s n d)⟩) (by kernel_rfl) (by kernel_rfl) ?_
  refine EL.seq ?_
  refine EL.sdraw ?_
  refine DW.last 12 [0, 16] (x' := ⟨[(16, .v (.bool (s.sent == (List.length s.log : Int)))), (0, .ref 9 8 0 0)], (sbq84 s n d)⟩) (by kernel_rfl) (by kernel_rfl) ?_
  rw [h8]
  refine EL.condF (by kernel_rfl) ?_
  refine EL.skip ?_
  refine thenL_norm ?_
  refine EL.sreg ?_
  refine OW.run 10 (x' := ⟨(25, .ref 9 8 0 3) :: (24, .ref 9 8 0 0) :: (23, .ref 9 8 0 0) :: (22, VI (IntKind.i64.wrap (s.sent + 1))) :: (sbq85 s), [(sbq0 s), some ⟨3, [[VI 2, VI n, .v (.string d)]]⟩, sbq1, (sbq21 s), some ⟨1, (s.first.map cZ)⟩, some ⟨1, (s.second.map cZ)⟩, some ⟨2, (s.log.map Record.cs)⟩, some ⟨1, (s.there.map cI)⟩, some ⟨1, (s.back.map cI)⟩, some ⟨8, [[.own 4 1 0 (List.length s.first), .own 5 1 0 (List.length s.second), .own 6 2 0 (List.length s.log), VI (IntKind.i64.wrap (s.sent + 1)), VI s.applied, VI s.known, .own 7 1 0 (List.length s.there), .own 8 1 0 (List.length s.back)]]⟩, some ⟨3, [[VI 2, VI n, .v (.string d)]]⟩]⟩) (by kernel_rfl) ?_
  have e11 : IntKind.i64.wrap (s.sent + 1) = s.sent + 1 := wr64 (by omega)
  rw [e11]
  refine OW.last 0 [0] (x' := ⟨[(0, .ref 9 8 0 0)], (sbq87 s n d)⟩) (by kernel_rfl) (by kernel_rfl) ?_
  refine EL.sdraw ?_
  refine DW.run 9 (x' := ⟨(sbq88 s), (sbq87 s n d)⟩) (by kernel_rfl) ?_
  refine DW.fi (ar := [.ref 9 8 0 6, VI (s.sent + 1)]) (r := VI 0) (m' := (sbq98 s n d)) (x' := ⟨(35, VI 0) :: (sbq88 s), (sbq98 s n d)⟩) (by kernel_rfl) (by kernel_rfl) F82_call ?_ (by kernel_rfl) (by kernel_rfl) (by kernel_rfl) ?_
  refine fi_walkW F82_ok (of_decide_eq_true (by kernel_rfl)) ?_
  refine EL.sreg ?_
  refine OW.last 1 [0, 1] (x' := ⟨[(0, .ref 9 8 0 6), (1, VI (s.sent + 1))], (sbq87 s n d)⟩) (by kernel_rfl) (by kernel_rfl) ?_
  refine EL.seq ?_
  refine EL.sreg ?_
  refine OW.last 5 [0, 1, 9] (x' := ⟨[(9, .v (.bool ((List.length s.there : Int) == 60))), (0, .ref 9 8 0 6), (1, VI (s.sent + 1))], (sbq87 s n d)⟩) (by kernel_rfl) (by kernel_rfl) ?_
  rw [h9]
  refine EL.condF (by kernel_rfl) ?_
  refine EL.skip ?_
  refine thenL_norm ?_
  refine EL.sreg ?_
  refine OW.run 6 (x' := ⟨(sbq91 s), (sbq90 s n d)⟩) (by kernel_rfl) ?_
  refine OW.ope (v := .own 12 1 0 (List.length (s.there ++ ([(s.sent + 1)])))) (u := [(7, none), (12, some ⟨1, ((s.there ++ ([(s.sent + 1)])).map cI)⟩)]) (acc := [11, 7]) (x' := ⟨(sbq93 s), (sbq92 s n d)⟩) (by kernel_rfl) (opE_appO cI s.there ([(s.sent + 1)]) (.s 13) (.s 15) 1 8 7 (.own 11 1 0 1) _ (by kernel_rfl) (by kernel_rfl) rfl (by kernel_rfl) rfl (.own (els := [[VI (s.sent + 1)]]) (by kernel_rfl) (by kernel_rfl) (of_decide_eq_true (by kernel_rfl))) (by simp; omega)) (by kernel_rfl) ?_
  refine OW.last 2 [] (x' := ⟨[], (sbq95 s n d)⟩) (by kernel_rfl) (by kernel_rfl) ?_
  refine EL.sreg ?_
  refine OW.last 1 [4] (x' := ⟨[(4, VI 0)], (sbq95 s n d)⟩) (by kernel_rfl) (by kernel_rfl) ?_
  refine EL.ret ?_
  refine ⟨.inr rfl, ⟨[(4, VI 0)], (sbq98 s n d)⟩, norm_le (live := [4]) (src := [.old 0 false, .old 1 false, .old 2 false, .old 3 false, .old 4 true, .old 5 true, .old 6 true, .old 7 false, .old 8 true, .old 9 false, .old 10 false, .old 12 true]) (es := []) (by kernel_rfl) ⟨pucZ s.first (by kernel_rfl), pucZ s.second (by kernel_rfl), pu 2 Record.cs s.log (by kernel_rfl) (by intro y; kernel_rfl), pucI s.back (by kernel_rfl), pucI (s.there ++ ([(s.sent + 1)])) (by kernel_rfl), trivial⟩, by kernel_rfl, rfl⟩
  refine DW.last 1 [4] (x' := ⟨[(4, VI 0)], (sbq98 s n d)⟩) (by kernel_rfl) (by kernel_rfl) ?_
  refine EL.ret ?_
  refine ⟨.inr rfl, ⟨[(4, VI 0)], (sbq100 s n d)⟩, norm_le (live := [4]) (src := [.old 0 false, .old 1 false, .old 2 false, .old 3 false, .old 4 true, .old 5 true, .old 6 true, .old 7 false, .old 8 true, .old 9 false, .old 11 true]) (es := []) (by kernel_rfl) ⟨pucZ s.first (by kernel_rfl), pucZ s.second (by kernel_rfl), pu 2 Record.cs s.log (by kernel_rfl) (by intro y; kernel_rfl), pucI s.back (by kernel_rfl), pucI (s.there ++ ([(s.sent + 1)])) (by kernel_rfl), trivial⟩, by kernel_rfl, rfl⟩
  refine OW.end 1 (x' := ⟨(9, VI 0) :: (23, VI 0) :: (sbq83 n d), (sbq100 s n d)⟩) (by kernel_rfl) (by kernel_rfl) ?_
  refine inBlk_norm ?_
  refine thenL_norm ?_
  refine EL.seq ?_
  refine EL.sreg ?_
  refine OW.last 2 [4, 6, 9, 44] (x' := ⟨sbq104, (sbq100 s n d)⟩) (by kernel_rfl) (by kernel_rfl) ?_
  refine EL.condF (by kernel_rfl) ?_
  refine EL.skip ?_
  refine thenL_norm ?_
  refine EL.sreg ?_
  refine OW.last 6 [4, 5] (x' := ⟨[(5, VI 0), (4, .ref 2 8 0 0)], (sbq105 s n d)⟩) (by kernel_rfl) (by kernel_rfl) ?_
  refine EL.ret ?_
  refine ⟨.inr rfl, .tup [(sbq107 s), VI 0], run_snap (r0 := .tup [(sbq106 s), VI 0]) (by kernel_rfl) (snapR_tup (snapAs_cons (snapA_agg (snapL_cons (snap1_map cZ s.first (by kernel_rfl) (by intro y; kernel_rfl) (by simp)) (snapL_cons (snap1_map cZ s.second (by kernel_rfl) (by intro y; kernel_rfl) (by simp)) (snapL_cons (snap1_map Record.cs s.log (by kernel_rfl) (by intro y; kernel_rfl) (by simp)) (snapL_cons (by kernel_rfl) (snapL_cons (by kernel_rfl) (snapL_cons (by kernel_rfl) (snapL_cons (snap1_map cI (s.there ++ ([(s.sent + 1)])) (by kernel_rfl) (by intro y; kernel_rfl) (by simp)) (snapL_cons (snap1_map cI s.back (by kernel_rfl) (by intro y; kernel_rfl) (by simp)) (rfl)))))))))) (snapAs_cons (by kernel_rfl) (snapAs_nil)))), Ale.of_eq ?_⟩
  focus (skip; clear ee tt bb; rw [Ship.step_2]; (try split) <;> first | rfl | contradiction | (exfalso; omega) | (exfalso; simp_all; done) | (simp only [Ship.sendP, wi_iff]; (repeat' split) <;> first | rfl | (exfalso; omega) | (simp; done) | (simp; omega) | (simp_all; done) | (simp_all; omega)))
  try rw [h1]
  have g1 : ¬ ((1 : Int) ≤ 2 ∧ (2 : Int) ≤ 8) := fun hh => Bool.noConfusion ((wi_iff.2 hh).symm.trans h1)
  refine OW.fi (ar := [.ref 9 8 0 0, VI 2]) (r := .tup [.v (.nilFunc), .v (.bool false)]) (m' := (sbq72 s n d)) (x' := ⟨sbq108, (sbq72 s n d)⟩) (by kernel_rfl) (by kernel_rfl) F58_call ?_ (by kernel_rfl) ?_
  refine fi_walkW F58_ok (of_decide_eq_true (by kernel_rfl)) ?_
  refine EL.sreg ?_
  refine OW.last 2 [0, 1] (x' := ⟨[(0, .ref 9 8 0 0), (1, VI 2)], (sbq72 s n d)⟩) (by kernel_rfl) (by kernel_rfl) ?_
  refine EL.sreg ?_
  refine OW.last 19 [1, 6] (x' := ⟨[(6, .ref 10 9 0 0), (1, VI 2)], (sbq74 s n d)⟩) (by kernel_rfl) (by kernel_rfl) ?_
  refine EL.seq ?_
  refine EL.sreg ?_
  refine OW.run 1 (x' := ⟨[(24, VI 2), (6, .ref 10 9 0 0), (1, VI 2)], (sbq74 s n d)⟩) (by kernel_rfl) ?_
  refine OW.fn (ar := [VI 2, VI 1, VI 8]) (x' := ⟨[(25, .v (.bool (wi 2 1 8))), (24, VI 2), (6, .ref 10 9 0 0), (1, VI 2)], (sbq74 s n d)⟩) (by kernel_rfl) (by kernel_rfl) F31_call (within_fn 2 1 8) (by kernel_rfl) (by kernel_rfl) ?_
  refine OW.last 1 [1, 6, 26] (x' := ⟨[(26, .v (.bool (!(wi 2 1 8)))), (6, .ref 10 9 0 0), (1, VI 2)], (sbq74 s n d)⟩) (by kernel_rfl) (by kernel_rfl) ?_
  rw [h1]
  refine EL.condT (by kernel_rfl) ?_
  refine EL.sreg ?_
  refine OW.last 2 [4, 5] (x' := ⟨[(5, .v (.bool false)), (4, .v (.nilFunc))], (sbq74 s n d)⟩) (by kernel_rfl) (by kernel_rfl) ?_
  refine EL.ret ?_
  refine thenL_ret ?_
  refine ⟨.inr rfl, ⟨[(4, .v (.nilFunc)), (5, .v (.bool false))], (sbq72 s n d)⟩, norm_le (live := [4, 5]) (src := [.old 0 false, .old 1 false, .old 2 false, .old 3 false, .old 4 true, .old 5 true, .old 6 true, .old 7 true, .old 8 true, .old 9 false]) (es := []) (by kernel_rfl) ⟨pucZ s.first (by kernel_rfl), pucZ s.second (by kernel_rfl), pu 2 Record.cs s.log (by kernel_rfl) (by intro y; kernel_rfl), pucI s.there (by kernel_rfl), pucI s.back (by kernel_rfl), trivial⟩, by kernel_rfl, rfl⟩
  refine OW.last 5 [3, 4, 6, 7, 8] (x' := ⟨(8, .v (.bool false)) :: (7, .v (.nilFunc)) :: sbq24, (sbq72 s n d)⟩) (by kernel_rfl) (by kernel_rfl) ?_
  refine EL.sreg ?_
  refine OW.last 1 [3, 4, 6, 7, 8] (x' := ⟨(8, .v (.bool false)) :: (7, .v (.nilFunc)) :: sbq24, (sbq72 s n d)⟩) (by kernel_rfl) (by kernel_rfl) ?_
  refine EL.seq ?_
  refine EL.block ?_
  refine EL.sreg ?_
  refine OW.last 3 [3, 4, 6, 7, 8, 24] (x' := ⟨sbq60, (sbq72 s n d)⟩) (by kernel_rfl) (by kernel_rfl) ?_
  refine EL.condT (by kernel_rfl) ?_
  refine EL.reg0 ?_
  refine OW.end 1 (x' := ⟨(9, VI 7) :: sbq60, (sbq72 s n d)⟩) (by kernel_rfl) (by kernel_rfl) ?_
  refine inBlk_norm ?_
  refine thenL_norm ?_
  refine EL.seq ?_
  refine EL.sreg ?_
  refine OW.last 2 [4, 6, 9, 44] (x' := ⟨sbq61, (sbq72 s n d)⟩) (by kernel_rfl) (by kernel_rfl) ?_
  refine EL.condT (by kernel_rfl) ?_
  refine EL.sreg ?_
  refine OW.last 4 [4, 5] (x' := ⟨[(5, VI 7), (4, .ref 2 8 0 0)], (sbq72 s n d)⟩) (by kernel_rfl) (by kernel_rfl) ?_
  refine EL.ret ?_
  refine thenL_ret ?_
  refine ⟨.inr rfl, .tup [.agg [.emp, .emp, .emp, VI 0, VI 0, VI 0, .emp, .emp], VI 7], by kernel_rfl, Ale.trans (b := .tup [sbq55, VI 7]) (Ale.tup (.cons (Ale.agg (.cons (Ale.emp) (.cons (Ale.emp) (.cons (Ale.emp) (.cons (Ale.refl) (.cons (Ale.refl) (.cons (Ale.refl) (.cons (Ale.emp) (.cons (Ale.emp) (.nil)))))))))) (.cons (Ale.refl) (.nil)))) (Ale.of_eq ?_)⟩
  focus (skip; exfalso; omega)
abbrev sbq109 (s : Ship) (n : Int) (d : ByteArray) : LB := [(sbq0 s), some ⟨3, [[VI 3, VI n, .v (.string d)]]⟩, sbq1, (sbq0 s), sbq1]
abbrev sbq110 (s : Ship) (n : Int) (d : ByteArray) : LB := [(sbq0 s), some ⟨3, [[VI 3, VI n, .v (.string d)]]⟩, sbq1, (sbq0 s), sbq1, some ⟨1, (s.first.map cZ)⟩]
abbrev sbq111 (s : Ship) (n : Int) (d : ByteArray) : LB := [(sbq0 s), some ⟨3, [[VI 3, VI n, .v (.string d)]]⟩, sbq1, (sbq0 s), sbq1, some ⟨1, (s.first.map cZ)⟩, some ⟨1, (s.second.map cZ)⟩]
abbrev sbq112 (s : Ship) (n : Int) (d : ByteArray) : LB := [(sbq0 s), some ⟨3, [[VI 3, VI n, .v (.string d)]]⟩, sbq1, (sbq0 s), sbq1, some ⟨1, (s.first.map cZ)⟩, some ⟨1, (s.second.map cZ)⟩, some ⟨2, (s.log.map Record.cs)⟩]
abbrev sbq113 (s : Ship) (n : Int) (d : ByteArray) : LB := [(sbq0 s), some ⟨3, [[VI 3, VI n, .v (.string d)]]⟩, sbq1, (sbq11 s), sbq1, some ⟨1, (s.first.map cZ)⟩, some ⟨1, (s.second.map cZ)⟩, some ⟨2, (s.log.map Record.cs)⟩]
abbrev sbq114 (s : Ship) (n : Int) (d : ByteArray) : LB := [(sbq0 s), some ⟨3, [[VI 3, VI n, .v (.string d)]]⟩, sbq1, (sbq11 s), sbq1, some ⟨1, (s.first.map cZ)⟩, some ⟨1, (s.second.map cZ)⟩, some ⟨2, (s.log.map Record.cs)⟩, some ⟨1, (s.there.map cI)⟩]
abbrev sbq115 (s : Ship) (n : Int) (d : ByteArray) : LB := [(sbq0 s), some ⟨3, [[VI 3, VI n, .v (.string d)]]⟩, sbq1, (sbq11 s), sbq1, some ⟨1, (s.first.map cZ)⟩, some ⟨1, (s.second.map cZ)⟩, some ⟨2, (s.log.map Record.cs)⟩, some ⟨1, (s.there.map cI)⟩, some ⟨1, (s.back.map cI)⟩]
abbrev sbq116 (s : Ship) (n : Int) (d : ByteArray) : LB := [(sbq0 s), some ⟨3, [[VI 3, VI n, .v (.string d)]]⟩, sbq1, (sbq17 s), sbq1, some ⟨1, (s.first.map cZ)⟩, some ⟨1, (s.second.map cZ)⟩, some ⟨2, (s.log.map Record.cs)⟩, some ⟨1, (s.there.map cI)⟩, some ⟨1, (s.back.map cI)⟩]
abbrev sbq117 (s : Ship) (n : Int) (d : ByteArray) : LB := [(sbq0 s), some ⟨3, [[VI 3, VI n, .v (.string d)]]⟩, sbq1, (sbq17 s), (sbq17 s), some ⟨1, (s.first.map cZ)⟩, some ⟨1, (s.second.map cZ)⟩, some ⟨2, (s.log.map Record.cs)⟩, some ⟨1, (s.there.map cI)⟩, some ⟨1, (s.back.map cI)⟩]
abbrev sbq118 (s : Ship) (n : Int) (d : ByteArray) : LB := [(sbq0 s), some ⟨3, [[VI 3, VI n, .v (.string d)]]⟩, sbq1, (sbq21 s), some ⟨1, (s.first.map cZ)⟩, some ⟨1, (s.second.map cZ)⟩, some ⟨2, (s.log.map Record.cs)⟩, some ⟨1, (s.there.map cI)⟩, some ⟨1, (s.back.map cI)⟩]
abbrev sbq119 (s : Ship) (n : Int) (d : ByteArray) : LB := [(sbq0 s), some ⟨3, [[VI 3, VI n, .v (.string d)]]⟩, sbq1, (sbq21 s), some ⟨1, (s.first.map cZ)⟩, some ⟨1, (s.second.map cZ)⟩, some ⟨2, (s.log.map Record.cs)⟩, some ⟨1, (s.there.map cI)⟩, some ⟨1, (s.back.map cI)⟩, (sbq21 s)]
abbrev sbq120 : LS := (17, VI 3) :: (16, .ref 1 3 0 0) :: (15, .ref 9 8 0 0) :: sbq24
abbrev sbq121 (s : Ship) (n : Int) (d : ByteArray) : LB := [(sbq0 s), some ⟨3, [[VI 3, VI n, .v (.string d)]]⟩, sbq1, (sbq21 s), some ⟨1, (s.first.map cZ)⟩, some ⟨1, (s.second.map cZ)⟩, some ⟨2, (s.log.map Record.cs)⟩, some ⟨1, (s.there.map cI)⟩, some ⟨1, (s.back.map cI)⟩, (sbq21 s), sbq26]
abbrev sbq122 : LS := (18, .tup [.bf 75 [.ref 9 8 0 0], .v (.bool true)]) :: sbq120
abbrev sbq123 : LS := (8, .v (.bool true)) :: (7, .bf 75 [.ref 9 8 0 0]) :: sbq24
abbrev sbq124 (d : ByteArray) : LS := (29, .v (.string d)) :: (28, .ref 1 3 0 2) :: (24, .v (.bool false)) :: sbq123
abbrev sbq125 (n : Int) : LS := (37, VI n) :: (36, .ref 1 3 0 1) :: (27, .v (.bool false)) :: sbq123
abbrev sbq126 (n : Int) : LS := (27, .v (.bool false)) :: (42, .v (.bool false)) :: (41, .v (.bool false)) :: (40, .v (.bool true)) :: (39, .v (.bool true)) :: (38, .v (.bool true)) :: (37, VI n) :: (36, .ref 1 3 0 1) :: sbq123
abbrev sbq127 (n : Int) : LS := (27, .v (.bool false)) :: (42, .v (.bool false)) :: (41, .v undef) :: (40, .v undef) :: (39, .v (.bool false)) :: (38, .v (.bool false)) :: (37, VI n) :: (36, .ref 1 3 0 1) :: sbq123
abbrev sbq128 : LS := [(3, .ref 1 3 0 0), (4, .ref 2 8 0 0), (6, .ref 9 8 0 0), (7, .bf 75 [.ref 9 8 0 0]), (27, .v (.bool false))]
abbrev sbq129 : LS := [(3, .ref 1 3 0 0), (4, .ref 2 8 0 0), (6, .ref 9 8 0 0), (7, .bf 75 [.ref 9 8 0 0]), (27, .v (.bool true))]
abbrev sbq130 (n : Int) (d : ByteArray) : LS := (22, .agg [VI 3, VI n, .v (.string d)]) :: (21, .bf 75 [.ref 9 8 0 0]) :: sbq128
abbrev sbq131 (s : Ship) (n : Int) (d : ByteArray) : LB := [(sbq0 s), some ⟨3, [[VI 3, VI n, .v (.string d)]]⟩, sbq1, (sbq21 s), some ⟨1, (s.first.map cZ)⟩, some ⟨1, (s.second.map cZ)⟩, some ⟨2, (s.log.map Record.cs)⟩, some ⟨1, (s.there.map cI)⟩, some ⟨1, (s.back.map cI)⟩, (sbq21 s), some ⟨3, [[VI 3, VI n, .v (.string d)]]⟩]
abbrev sbq132 (n : Int) : LS := [(14, VI n), (13, .ref 10 3 0 1), (12, .ref 9 8 0 6), (11, .ref 9 8 0 0), (10, .ref 9 8 0 0), (9, .ref 9 8 0 0), (3, .ref 10 3 0 0), (0, .ref 9 8 0 0)]
abbrev sbq133 (s : Ship) (n : Int) : LS := [(11, VI (List.length s.there : Int)), (10, .own 7 1 0 (List.length s.there)), (9, .ref 9 8 0 6), (8, .ref 9 8 0 6), (7, VI n), (0, .ref 9 8 0 6), (1, VI n)]
abbrev sbq134 (s : Ship) (n : Int) : LS := (12, VI ((List.length s.there : Int) - 1)) :: (sbq133 s n)
abbrev sbq135 (n : Int) (s : Ship) : LS := [(18, VI n), (17, .own 7 1 0 (List.length s.there)), (16, .ref 9 8 0 6), (15, .ref 9 8 0 6), (14, .v (.bool false)), (0, .ref 9 8 0 6), (1, VI n)]
abbrev sbq136 (a9 : Int) (n : Int) (s : Ship) : LS := (20, VI a9) :: (19, .ref 7 1 (0 + Int.toNat n) 0) :: (sbq135 n s)
abbrev sbq137 (n : Int) (s : Ship) (a9 : Int) : LS := [(26, VI n), (25, VI n), (24, .own 7 1 0 (List.length s.there)), (23, .ref 9 8 0 6), (22, .ref 9 8 0 6), (21, .ref 9 8 0 6), (6, VI a9), (0, .ref 9 8 0 6), (1, VI n)]
abbrev sbq138 (s : Ship) (n : Int) (d : ByteArray) : LB := [(sbq0 s), some ⟨3, [[VI 3, VI n, .v (.string d)]]⟩, sbq1, (sbq21 s), some ⟨1, (s.first.map cZ)⟩, some ⟨1, (s.second.map cZ)⟩, some ⟨2, (s.log.map Record.cs)⟩, none, some ⟨1, (s.back.map cI)⟩, (sbq21 s), some ⟨3, [[VI 3, VI n, .v (.string d)]]⟩, none, some ⟨1, ((List.eraseIdx s.there (Int.toNat n)).map cI)⟩]
abbrev sbq139 (s : Ship) (n : Int) (a9 : Int) : LS := (28, .own 12 1 0 (List.length (List.eraseIdx s.there (Int.toNat n)))) :: (27, VI (n + 1)) :: (sbq137 n s a9)
abbrev sbq140 (s : Ship) (n : Int) : OB := some ⟨8, [[.own 4 1 0 (List.length s.first), .own 5 1 0 (List.length s.second), .own 6 2 0 (List.length s.log), VI s.sent, VI s.applied, VI s.known, .own 12 1 0 (List.length (List.eraseIdx s.there (Int.toNat n))), .own 8 1 0 (List.length s.back)]]⟩
abbrev sbq141 (s : Ship) (n : Int) (d : ByteArray) : LB := [(sbq0 s), some ⟨3, [[VI 3, VI n, .v (.string d)]]⟩, sbq1, (sbq21 s), some ⟨1, (s.first.map cZ)⟩, some ⟨1, (s.second.map cZ)⟩, some ⟨2, (s.log.map Record.cs)⟩, none, some ⟨1, (s.back.map cI)⟩, (sbq140 s n), some ⟨3, [[VI 3, VI n, .v (.string d)]]⟩, none, some ⟨1, ((List.eraseIdx s.there (Int.toNat n)).map cI)⟩]
abbrev sbq142 (s : Ship) (n : Int) : OB := some ⟨8, [[.own 4 1 0 (List.length s.first), .own 5 1 0 (List.length s.second), .own 6 2 0 (List.length s.log), VI s.sent, VI s.applied, VI s.known, .own 11 1 0 (List.length (List.eraseIdx s.there (Int.toNat n))), .own 8 1 0 (List.length s.back)]]⟩
abbrev sbq143 (s : Ship) (n : Int) (d : ByteArray) : LB := [(sbq0 s), some ⟨3, [[VI 3, VI n, .v (.string d)]]⟩, sbq1, (sbq96 s), some ⟨1, (s.first.map cZ)⟩, some ⟨1, (s.second.map cZ)⟩, some ⟨2, (s.log.map Record.cs)⟩, none, some ⟨1, (s.back.map cI)⟩, (sbq142 s n), some ⟨3, [[VI 3, VI n, .v (.string d)]]⟩, some ⟨1, ((List.eraseIdx s.there (Int.toNat n)).map cI)⟩]
abbrev sbq144 (a9 : Int) : LS := [(19, .v (.bool false)), (6, VI 0), (5, VI a9), (0, .ref 9 8 0 0)]
abbrev sbq145 (s : Ship) (a9 : Int) : LS := (26, VI s.applied) :: (25, .ref 9 8 0 4) :: (24, .ref 9 8 0 0) :: (23, .ref 9 8 0 0) :: (22, .ref 9 8 0 0) :: (21, VI a9) :: (sbq144 a9)
abbrev sbq146 (a9 : Int) (s : Ship) : LS := [(34, VI a9), (33, .own 6 2 0 (List.length s.log)), (32, .ref 9 8 0 2), (31, .ref 9 8 0 0), (30, .ref 9 8 0 0), (29, .ref 9 8 0 0), (28, .v (.bool true)), (5, VI a9), (0, .ref 9 8 0 0)]
abbrev sbq147 (a9 : Int) (s : Ship) : LS := (36, .ref 6 2 (0 + Int.toNat (a9 - 1)) 0) :: (35, VI (a9 - 1)) :: (sbq146 a9 s)
abbrev sbq148 (a11 : Record) (a9 : Int) (s : Ship) : LS := (37, .agg [VI a11.block, .v (.string a11.data)]) :: (sbq147 a9 s)
abbrev sbq149 (s : Ship) (n : Int) (d : ByteArray) (a11 : Record) : LB := [(sbq0 s), some ⟨3, [[VI 3, VI n, .v (.string d)]]⟩, sbq1, (sbq96 s), some ⟨1, (s.first.map cZ)⟩, some ⟨1, (s.second.map cZ)⟩, some ⟨2, (s.log.map Record.cs)⟩, none, some ⟨1, (s.back.map cI)⟩, (sbq142 s n), some ⟨3, [[VI 3, VI n, .v (.string d)]]⟩, some ⟨1, ((List.eraseIdx s.there (Int.toNat n)).map cI)⟩, some ⟨2, [[VI a11.block, .v (.string a11.data)]]⟩]
abbrev sbq150 (a9 : Int) : LS := [(7, .ref 12 2 0 0), (5, VI a9), (0, .ref 9 8 0 0)]
abbrev sbq151 (a11 : Record) (s : Ship) (a9 : Int) : LS := (46, .v (.string a11.data)) :: (45, .ref 12 2 0 1) :: (44, VI a11.block) :: (43, .ref 12 2 0 0) :: (42, .own 5 1 0 (List.length s.second)) :: (41, .ref 9 8 0 1) :: (40, .ref 9 8 0 0) :: (39, .ref 9 8 0 0) :: (38, .ref 9 8 0 0) :: (sbq150 a9)
abbrev sbq152 (a11 : Record) (s : Ship) (a9 : Int) : LS := (47, .ref 5 1 (0 + Int.toNat a11.block) 0) :: (sbq151 a11 s a9)
abbrev sbq153 (s : Ship) (a11 : Record) : OB := some ⟨1, ((List.set s.second (0 + Int.toNat a11.block) a11.data).map cZ)⟩
abbrev sbq154 (s : Ship) (n : Int) (d : ByteArray) (a11 : Record) : LB := [(sbq0 s), some ⟨3, [[VI 3, VI n, .v (.string d)]]⟩, sbq1, (sbq96 s), some ⟨1, (s.first.map cZ)⟩, (sbq153 s a11), some ⟨2, (s.log.map Record.cs)⟩, none, some ⟨1, (s.back.map cI)⟩, (sbq142 s n), some ⟨3, [[VI 3, VI n, .v (.string d)]]⟩, some ⟨1, ((List.eraseIdx s.there (Int.toNat n)).map cI)⟩, some ⟨2, [[VI a11.block, .v (.string a11.data)]]⟩]
abbrev sbq155 (s : Ship) (a9 : Int) (n : Int) : OB := some ⟨8, [[.own 4 1 0 (List.length s.first), .own 5 1 0 (List.length s.second), .own 6 2 0 (List.length s.log), VI s.sent, VI a9, VI s.known, .own 11 1 0 (List.length (List.eraseIdx s.there (Int.toNat n))), .own 8 1 0 (List.length s.back)]]⟩
abbrev sbq156 (s : Ship) (n : Int) (d : ByteArray) (a11 : Record) (a9 : Int) : LB := [(sbq0 s), some ⟨3, [[VI 3, VI n, .v (.string d)]]⟩, sbq1, (sbq96 s), some ⟨1, (s.first.map cZ)⟩, (sbq153 s a11), some ⟨2, (s.log.map Record.cs)⟩, none, some ⟨1, (s.back.map cI)⟩, (sbq155 s a9 n), some ⟨3, [[VI 3, VI n, .v (.string d)]]⟩, some ⟨1, ((List.eraseIdx s.there (Int.toNat n)).map cI)⟩, some ⟨2, [[VI a11.block, .v (.string a11.data)]]⟩]
abbrev sbq157 (a9 : Int) : LS := [(52, .ref 9 8 0 4), (51, .ref 9 8 0 0), (50, .ref 9 8 0 0), (49, VI a9), (48, .ref 9 8 0 0), (5, VI a9), (0, .ref 9 8 0 0)]
abbrev sbq158 (a9 : Int) : LS := (61, VI a9) :: (60, .ref 9 8 0 4) :: (59, .ref 9 8 0 0) :: (58, .ref 9 8 0 0) :: (57, .ref 9 8 0 0) :: (56, .ref 9 8 0 7) :: (55, .ref 9 8 0 0) :: (54, .ref 9 8 0 0) :: (53, .ref 9 8 0 0) :: (sbq157 a9)
abbrev sbq159 (s : Ship) (a9 : Int) (n : Int) : OB := some ⟨8, [[.own 4 1 0 (List.length s.first), .own 5 1 0 (List.length s.second), .own 6 2 0 (List.length s.log), VI s.sent, VI a9, VI s.known, .own 10 1 0 (List.length (List.eraseIdx s.there (Int.toNat n))), .own 8 1 0 (List.length s.back)]]⟩
abbrev sbq160 (s : Ship) (n : Int) (d : ByteArray) (a11 : Record) (a9 : Int) : LB := [(sbq0 s), some ⟨3, [[VI 3, VI n, .v (.string d)]]⟩, sbq1, (sbq96 s), some ⟨1, (s.first.map cZ)⟩, (sbq153 s a11), some ⟨2, (s.log.map Record.cs)⟩, none, some ⟨1, (s.back.map cI)⟩, (sbq159 s a9 n), some ⟨1, ((List.eraseIdx s.there (Int.toNat n)).map cI)⟩]
abbrev sbq161 (s : Ship) (n : Int) (d : ByteArray) (a11 : Record) (a9 : Int) : LB := [(sbq0 s), some ⟨3, [[VI 3, VI n, .v (.string d)]]⟩, sbq1, (sbq96 s), some ⟨1, (s.first.map cZ)⟩, (sbq153 s a11), some ⟨2, (s.log.map Record.cs)⟩, none, some ⟨1, (s.back.map cI)⟩, (sbq155 s a9 n), some ⟨3, [[VI 3, VI n, .v (.string d)]]⟩, some ⟨1, ((List.eraseIdx s.there (Int.toNat n)).map cI)⟩, some ⟨2, [[VI a11.block, .v (.string a11.data)]]⟩, some ⟨1, [[VI a9]]⟩]
abbrev sbq162 (a9 : Int) (s : Ship) : LS := [(15, .own 13 1 0 1), (14, VI a9), (13, .own 8 1 0 (List.length s.back)), (12, .ref 9 8 0 7), (11, .ref 9 8 0 7), (10, .ref 9 8 0 7), (9, .v (.bool false)), (0, .ref 9 8 0 7), (1, VI a9)]
abbrev sbq163 (s : Ship) (n : Int) (d : ByteArray) (a11 : Record) (a9 : Int) : LB := [(sbq0 s), some ⟨3, [[VI 3, VI n, .v (.string d)]]⟩, sbq1, (sbq96 s), some ⟨1, (s.first.map cZ)⟩, (sbq153 s a11), some ⟨2, (s.log.map Record.cs)⟩, none, none, (sbq155 s a9 n), some ⟨3, [[VI 3, VI n, .v (.string d)]]⟩, some ⟨1, ((List.eraseIdx s.there (Int.toNat n)).map cI)⟩, some ⟨2, [[VI a11.block, .v (.string a11.data)]]⟩, some ⟨1, [[VI a9]]⟩, some ⟨1, ((s.back ++ ([a9])).map cI)⟩]
abbrev sbq164 (s : Ship) (a9 : Int) : LS := (16, .own 14 1 0 (List.length (s.back ++ ([a9])))) :: (sbq162 a9 s)
abbrev sbq165 (s : Ship) (a9 : Int) (n : Int) : OB := some ⟨8, [[.own 4 1 0 (List.length s.first), .own 5 1 0 (List.length s.second), .own 6 2 0 (List.length s.log), VI s.sent, VI a9, VI s.known, .own 11 1 0 (List.length (List.eraseIdx s.there (Int.toNat n))), .own 14 1 0 (List.length (s.back ++ ([a9])))]]⟩
abbrev sbq166 (s : Ship) (n : Int) (d : ByteArray) (a11 : Record) (a9 : Int) : LB := [(sbq0 s), some ⟨3, [[VI 3, VI n, .v (.string d)]]⟩, sbq1, (sbq96 s), some ⟨1, (s.first.map cZ)⟩, (sbq153 s a11), some ⟨2, (s.log.map Record.cs)⟩, none, none, (sbq165 s a9 n), some ⟨3, [[VI 3, VI n, .v (.string d)]]⟩, some ⟨1, ((List.eraseIdx s.there (Int.toNat n)).map cI)⟩, some ⟨2, [[VI a11.block, .v (.string a11.data)]]⟩, some ⟨1, [[VI a9]]⟩, some ⟨1, ((s.back ++ ([a9])).map cI)⟩]
abbrev sbq167 (s : Ship) : OB := some ⟨8, [[.own 4 1 0 (List.length s.first), .own 5 1 0 (List.length s.second), .own 6 2 0 (List.length s.log), VI s.sent, VI s.applied, VI s.known, .dead, .dead]]⟩
abbrev sbq168 (s : Ship) (a9 : Int) (n : Int) : OB := some ⟨8, [[.own 4 1 0 (List.length s.first), .own 5 1 0 (List.length s.second), .own 6 2 0 (List.length s.log), VI s.sent, VI a9, VI s.known, .own 11 1 0 (List.length (List.eraseIdx s.there (Int.toNat n))), .own 13 1 0 (List.length (s.back ++ ([a9])))]]⟩
abbrev sbq169 (s : Ship) (n : Int) (d : ByteArray) (a11 : Record) (a9 : Int) : LB := [(sbq0 s), some ⟨3, [[VI 3, VI n, .v (.string d)]]⟩, sbq1, (sbq167 s), some ⟨1, (s.first.map cZ)⟩, (sbq153 s a11), some ⟨2, (s.log.map Record.cs)⟩, none, none, (sbq168 s a9 n), some ⟨3, [[VI 3, VI n, .v (.string d)]]⟩, some ⟨1, ((List.eraseIdx s.there (Int.toNat n)).map cI)⟩, some ⟨2, [[VI a11.block, .v (.string a11.data)]]⟩, some ⟨1, ((s.back ++ ([a9])).map cI)⟩]
abbrev sbq170 (s : Ship) (a9 : Int) (n : Int) : OB := some ⟨8, [[.own 4 1 0 (List.length s.first), .own 5 1 0 (List.length s.second), .own 6 2 0 (List.length s.log), VI s.sent, VI a9, VI s.known, .own 10 1 0 (List.length (List.eraseIdx s.there (Int.toNat n))), .own 11 1 0 (List.length (s.back ++ ([a9])))]]⟩
abbrev sbq171 (s : Ship) (n : Int) (d : ByteArray) (a11 : Record) (a9 : Int) : LB := [(sbq0 s), some ⟨3, [[VI 3, VI n, .v (.string d)]]⟩, sbq1, (sbq167 s), some ⟨1, (s.first.map cZ)⟩, (sbq153 s a11), some ⟨2, (s.log.map Record.cs)⟩, none, none, (sbq170 s a9 n), some ⟨1, ((List.eraseIdx s.there (Int.toNat n)).map cI)⟩, some ⟨1, ((s.back ++ ([a9])).map cI)⟩]
abbrev sbq172 (s : Ship) (a9 : Int) : LS := [(61, VI s.applied), (60, .ref 9 8 0 4), (59, .ref 9 8 0 0), (58, .ref 9 8 0 0), (57, .ref 9 8 0 0), (56, .ref 9 8 0 7), (55, .ref 9 8 0 0), (54, .ref 9 8 0 0), (53, .ref 9 8 0 0), (28, .v (.bool false)), (5, VI a9), (0, .ref 9 8 0 0)]
abbrev sbq173 (s : Ship) (n : Int) : OB := some ⟨8, [[.own 4 1 0 (List.length s.first), .own 5 1 0 (List.length s.second), .own 6 2 0 (List.length s.log), VI s.sent, VI s.applied, VI s.known, .own 10 1 0 (List.length (List.eraseIdx s.there (Int.toNat n))), .own 8 1 0 (List.length s.back)]]⟩
abbrev sbq174 (s : Ship) (n : Int) (d : ByteArray) : LB := [(sbq0 s), some ⟨3, [[VI 3, VI n, .v (.string d)]]⟩, sbq1, (sbq96 s), some ⟨1, (s.first.map cZ)⟩, some ⟨1, (s.second.map cZ)⟩, some ⟨2, (s.log.map Record.cs)⟩, none, some ⟨1, (s.back.map cI)⟩, (sbq173 s n), some ⟨1, ((List.eraseIdx s.there (Int.toNat n)).map cI)⟩]
abbrev sbq175 (s : Ship) (n : Int) (d : ByteArray) : LB := [(sbq0 s), some ⟨3, [[VI 3, VI n, .v (.string d)]]⟩, sbq1, (sbq96 s), some ⟨1, (s.first.map cZ)⟩, some ⟨1, (s.second.map cZ)⟩, some ⟨2, (s.log.map Record.cs)⟩, none, some ⟨1, (s.back.map cI)⟩, (sbq142 s n), some ⟨3, [[VI 3, VI n, .v (.string d)]]⟩, some ⟨1, ((List.eraseIdx s.there (Int.toNat n)).map cI)⟩, some ⟨1, [[VI s.applied]]⟩]
abbrev sbq176 (s : Ship) : LS := [(15, .own 12 1 0 1), (14, VI s.applied), (13, .own 8 1 0 (List.length s.back)), (12, .ref 9 8 0 7), (11, .ref 9 8 0 7), (10, .ref 9 8 0 7), (9, .v (.bool false)), (0, .ref 9 8 0 7), (1, VI s.applied)]
abbrev sbq177 (s : Ship) (n : Int) (d : ByteArray) : LB := [(sbq0 s), some ⟨3, [[VI 3, VI n, .v (.string d)]]⟩, sbq1, (sbq96 s), some ⟨1, (s.first.map cZ)⟩, some ⟨1, (s.second.map cZ)⟩, some ⟨2, (s.log.map Record.cs)⟩, none, none, (sbq142 s n), some ⟨3, [[VI 3, VI n, .v (.string d)]]⟩, some ⟨1, ((List.eraseIdx s.there (Int.toNat n)).map cI)⟩, some ⟨1, [[VI s.applied]]⟩, some ⟨1, ((s.back ++ ([s.applied])).map cI)⟩]
abbrev sbq178 (s : Ship) : LS := (16, .own 13 1 0 (List.length (s.back ++ ([s.applied])))) :: (sbq176 s)
abbrev sbq179 (s : Ship) (n : Int) : OB := some ⟨8, [[.own 4 1 0 (List.length s.first), .own 5 1 0 (List.length s.second), .own 6 2 0 (List.length s.log), VI s.sent, VI s.applied, VI s.known, .own 11 1 0 (List.length (List.eraseIdx s.there (Int.toNat n))), .own 13 1 0 (List.length (s.back ++ ([s.applied])))]]⟩
abbrev sbq180 (s : Ship) (n : Int) (d : ByteArray) : LB := [(sbq0 s), some ⟨3, [[VI 3, VI n, .v (.string d)]]⟩, sbq1, (sbq96 s), some ⟨1, (s.first.map cZ)⟩, some ⟨1, (s.second.map cZ)⟩, some ⟨2, (s.log.map Record.cs)⟩, none, none, (sbq179 s n), some ⟨3, [[VI 3, VI n, .v (.string d)]]⟩, some ⟨1, ((List.eraseIdx s.there (Int.toNat n)).map cI)⟩, some ⟨1, [[VI s.applied]]⟩, some ⟨1, ((s.back ++ ([s.applied])).map cI)⟩]
abbrev sbq181 (s : Ship) (n : Int) : OB := some ⟨8, [[.own 4 1 0 (List.length s.first), .own 5 1 0 (List.length s.second), .own 6 2 0 (List.length s.log), VI s.sent, VI s.applied, VI s.known, .own 11 1 0 (List.length (List.eraseIdx s.there (Int.toNat n))), .own 12 1 0 (List.length (s.back ++ ([s.applied])))]]⟩
abbrev sbq182 (s : Ship) (n : Int) (d : ByteArray) : LB := [(sbq0 s), some ⟨3, [[VI 3, VI n, .v (.string d)]]⟩, sbq1, (sbq167 s), some ⟨1, (s.first.map cZ)⟩, some ⟨1, (s.second.map cZ)⟩, some ⟨2, (s.log.map Record.cs)⟩, none, none, (sbq181 s n), some ⟨3, [[VI 3, VI n, .v (.string d)]]⟩, some ⟨1, ((List.eraseIdx s.there (Int.toNat n)).map cI)⟩, some ⟨1, ((s.back ++ ([s.applied])).map cI)⟩]
abbrev sbq183 (s : Ship) (n : Int) : OB := some ⟨8, [[.own 4 1 0 (List.length s.first), .own 5 1 0 (List.length s.second), .own 6 2 0 (List.length s.log), VI s.sent, VI s.applied, VI s.known, .own 10 1 0 (List.length (List.eraseIdx s.there (Int.toNat n))), .own 11 1 0 (List.length (s.back ++ ([s.applied])))]]⟩
abbrev sbq184 (s : Ship) (n : Int) (d : ByteArray) : LB := [(sbq0 s), some ⟨3, [[VI 3, VI n, .v (.string d)]]⟩, sbq1, (sbq167 s), some ⟨1, (s.first.map cZ)⟩, some ⟨1, (s.second.map cZ)⟩, some ⟨2, (s.log.map Record.cs)⟩, none, none, (sbq183 s n), some ⟨1, ((List.eraseIdx s.there (Int.toNat n)).map cI)⟩, some ⟨1, ((s.back ++ ([s.applied])).map cI)⟩]
abbrev sbq185 : LS := [(19, .v (.bool true)), (6, VI 3), (5, VI 0), (0, .ref 9 8 0 0)]
abbrev sbq186 (s : Ship) (n : Int) (d : ByteArray) (a9 : Int) (a11 : Record) : LB := [(sbq0 s), some ⟨3, [[VI 3, VI n, .v (.string d)]]⟩, (sbq170 s a9 n), (sbq167 s), some ⟨1, (s.first.map cZ)⟩, (sbq153 s a11), some ⟨2, (s.log.map Record.cs)⟩, none, none, (sbq170 s a9 n), some ⟨1, ((List.eraseIdx s.there (Int.toNat n)).map cI)⟩, some ⟨1, ((s.back ++ ([a9])).map cI)⟩]
abbrev sbq187 (s : Ship) (a9 : Int) (n : Int) : AV := .agg [.own 4 1 0 (List.length s.first), .own 5 1 0 (List.length s.second), .own 6 2 0 (List.length s.log), VI s.sent, VI a9, VI s.known, .own 10 1 0 (List.length (List.eraseIdx s.there (Int.toNat n))), .own 11 1 0 (List.length (s.back ++ ([a9])))]
abbrev sbq188 (s : Ship) (a11 : Record) (a9 : Int) (n : Int) : AV := .agg [.lst 1 (s.first.map cZ), .lst 1 ((List.set s.second (0 + Int.toNat a11.block) a11.data).map cZ), .lst 2 (s.log.map Record.cs), VI s.sent, VI a9, VI s.known, .lst 1 ((List.eraseIdx s.there (Int.toNat n)).map cI), .lst 1 ((s.back ++ ([a9])).map cI)]
abbrev sbq189 (s : Ship) (n : Int) (d : ByteArray) : LB := [(sbq0 s), some ⟨3, [[VI 3, VI n, .v (.string d)]]⟩, (sbq183 s n), (sbq167 s), some ⟨1, (s.first.map cZ)⟩, some ⟨1, (s.second.map cZ)⟩, some ⟨2, (s.log.map Record.cs)⟩, none, none, (sbq183 s n), some ⟨1, ((List.eraseIdx s.there (Int.toNat n)).map cI)⟩, some ⟨1, ((s.back ++ ([s.applied])).map cI)⟩]
abbrev sbq190 (s : Ship) (n : Int) : AV := .agg [.own 4 1 0 (List.length s.first), .own 5 1 0 (List.length s.second), .own 6 2 0 (List.length s.log), VI s.sent, VI s.applied, VI s.known, .own 10 1 0 (List.length (List.eraseIdx s.there (Int.toNat n))), .own 11 1 0 (List.length (s.back ++ ([s.applied])))]
abbrev sbq191 (s : Ship) (n : Int) : AV := .agg [.lst 1 (s.first.map cZ), .lst 1 (s.second.map cZ), .lst 2 (s.log.map Record.cs), VI s.sent, VI s.applied, VI s.known, .lst 1 ((List.eraseIdx s.there (Int.toNat n)).map cI), .lst 1 ((s.back ++ ([s.applied])).map cI)]
abbrev sbq192 : LS := [(44, .v (.bool true)), (9, VI 3), (4, .ref 2 8 0 0), (6, .ref 9 8 0 0)]
abbrev sbq193 : LS := (18, .tup [.v (.nilFunc), .v (.bool false)]) :: sbq120
theorem step3_fn (s : Ship) (n : Int) (d : ByteArray) (ok : s.Ok) : Fn Try.prog 32 [.agg [.lst 1 (s.first.map cZ), .lst 1 (s.second.map cZ), .lst 2 (s.log.map Record.cs), VI s.sent, VI s.applied, VI s.known, .lst 1 (s.there.map cI), .lst 1 (s.back.map cI)], .agg [VI 3, VI n, .v (.string d)]] (.tup [.agg [.lst 1 ((((s.stepP ⟨3, n, d⟩).1).first).map cZ), .lst 1 ((((s.stepP ⟨3, n, d⟩).1).second).map cZ), .lst 2 ((((s.stepP ⟨3, n, d⟩).1).log).map Record.cs), VI (((s.stepP ⟨3, n, d⟩).1).sent), VI (((s.stepP ⟨3, n, d⟩).1).applied), VI (((s.stepP ⟨3, n, d⟩).1).known), .lst 1 ((((s.stepP ⟨3, n, d⟩).1).there).map cI), .lst 1 ((((s.stepP ⟨3, n, d⟩).1).back).map cI)], VI ((s.stepP ⟨3, n, d⟩).2)]) := by
  obtain ⟨⟨a1, a2⟩, b1, c1, c2, ⟨d1, d2, d3⟩, ee, ⟨k1, k2, k3, k4, k5⟩, tt, bb⟩ := ok
  refine fn_walkW F32_ok (of_decide_eq_true (by kernel_rfl)) ?_
  refine EL.sreg ?_
  refine OW.last 4 [2, 3, 4] (x' := ⟨sbq2, [(sbq0 s), some ⟨3, [[VI 3, VI n, .v (.string d)]]⟩, sbq1]⟩) (by kernel_rfl) (by kernel_rfl) ?_
  refine EL.sreg ?_
  refine OW.run 1 (x' := ⟨(10, (sbq3 s)) :: sbq2, [(sbq0 s), some ⟨3, [[VI 3, VI n, .v (.string d)]]⟩, sbq1]⟩) (by kernel_rfl) ?_
  refine OW.fi (ar := [(sbq3 s)]) (r := (sbq20 s)) (m' := (sbq118 s n d)) (x' := ⟨(11, (sbq20 s)) :: (10, (sbq3 s)) :: sbq2, (sbq118 s n d)⟩) (by kernel_rfl) (by kernel_rfl) F42_call ?_ (by kernel_rfl) ?_
  refine fi_walkW F42_ok (of_decide_eq_true (by kernel_rfl)) ?_
  refine EL.sreg ?_
  refine OW.last 2 [1, 2] (x' := ⟨[(2, .ref 4 8 0 0), (1, .ref 3 8 0 0)], (sbq109 s n d)⟩) (by kernel_rfl) (by kernel_rfl) ?_
  refine EL.sdraw ?_
  refine DW.run 2 (x' := ⟨(sbq5 s), (sbq109 s n d)⟩) (by kernel_rfl) ?_
  refine DW.fo (ar := [.lst 1 (s.first.map cZ)]) (fe := cZ) (xs := s.first) (x' := ⟨(5, .own 5 1 0 (List.length s.first)) :: (sbq5 s), (sbq110 s n d)⟩) (by kernel_rfl) (by kernel_rfl) F61_call (cloneZ_fo s.first (by omega)) (by intro y; kernel_rfl) (by kernel_rfl) (by kernel_rfl) ?_
  refine DW.run 2 (x' := ⟨(sbq7 s), (sbq110 s n d)⟩) (by kernel_rfl) ?_
  refine DW.fo (ar := [.lst 1 (s.second.map cZ)]) (fe := cZ) (xs := s.second) (x' := ⟨(8, .own 6 1 0 (List.length s.second)) :: (sbq7 s), (sbq111 s n d)⟩) (by kernel_rfl) (by kernel_rfl) F61_call (cloneZ_fo s.second (by omega)) (by intro y; kernel_rfl) (by kernel_rfl) (by kernel_rfl) ?_
  refine DW.run 2 (x' := ⟨(sbq9 s), (sbq111 s n d)⟩) (by kernel_rfl) ?_
  refine DW.fo (ar := [.lst 2 (s.log.map Record.cs)]) (fe := Record.cs) (xs := s.log) (x' := ⟨(11, .own 7 2 0 (List.length s.log)) :: (sbq9 s), (sbq112 s n d)⟩) (by kernel_rfl) (by kernel_rfl) F62_call (cloneR_fo s.log (by omega)) (by intro y; kernel_rfl) (by kernel_rfl) (by kernel_rfl) ?_
  refine DW.last 6 [1, 2] (x' := ⟨[(2, .ref 4 8 0 0), (1, .ref 3 8 0 0)], (sbq113 s n d)⟩) (by kernel_rfl) (by kernel_rfl) ?_
  refine EL.sdraw ?_
  refine DW.run 2 (x' := ⟨(sbq13 s), (sbq113 s n d)⟩) (by kernel_rfl) ?_
  refine DW.fo (ar := [.lst 1 (s.there.map cI)]) (fe := cI) (xs := s.there) (x' := ⟨(17, .own 8 1 0 (List.length s.there)) :: (sbq13 s), (sbq114 s n d)⟩) (by kernel_rfl) (by kernel_rfl) F50_call (cloneI_fo s.there (by omega)) (by intro y; kernel_rfl) (by kernel_rfl) (by kernel_rfl) ?_
  refine DW.run 2 (x' := ⟨(sbq15 s), (sbq114 s n d)⟩) (by kernel_rfl) ?_
  refine DW.fo (ar := [.lst 1 (s.back.map cI)]) (fe := cI) (xs := s.back) (x' := ⟨(20, .own 9 1 0 (List.length s.back)) :: (sbq15 s), (sbq115 s n d)⟩) (by kernel_rfl) (by kernel_rfl) F50_call (cloneI_fo s.back (by omega)) (by intro y; kernel_rfl) (by kernel_rfl) (by kernel_rfl) ?_
  refine DW.last 4 [1, 2] (x' := ⟨[(2, .ref 4 8 0 0), (1, .ref 3 8 0 0)], (sbq116 s n d)⟩) (by kernel_rfl) (by kernel_rfl) ?_
  refine EL.sreg ?_
  refine OW.last 2 [2] (x' := ⟨[(2, .ref 4 8 0 0)], (sbq117 s n d)⟩) (by kernel_rfl) (by kernel_rfl) ?_
  refine EL.ret ?_
  refine ⟨.inr rfl, ⟨[(2, .ref 3 8 0 0)], (sbq118 s n d)⟩, norm_le (live := [2]) (src := [.old 0 false, .old 1 false, .old 2 false, .old 4 false, .old 5 true, .old 6 true, .old 7 true, .old 8 true, .old 9 true]) (es := []) (by kernel_rfl) ⟨pucZ s.first (by kernel_rfl), pucZ s.second (by kernel_rfl), pu 2 Record.cs s.log (by kernel_rfl) (by intro y; kernel_rfl), pucI s.there (by kernel_rfl), pucI s.back (by kernel_rfl), trivial⟩, by kernel_rfl, rfl⟩
  refine OW.last 3 [3, 4, 6] (x' := ⟨sbq24, (sbq119 s n d)⟩) (by kernel_rfl) (by kernel_rfl) ?_
  refine EL.sreg ?_
  refine OW.run 3 (x' := ⟨sbq120, (sbq119 s n d)⟩) (by kernel_rfl) ?_
  rcases Bool.eq_false_or_eq_true (wi 3 1 8) with h1 | h1
  try rw [h1]
  have g1 : ((1 : Int) ≤ 3 ∧ (3 : Int) ≤ 8) := wi_iff.1 h1
  refine OW.fi (ar := [.ref 9 8 0 0, VI 3]) (r := .tup [.bf 75 [.ref 9 8 0 0], .v (.bool true)]) (m' := (sbq119 s n d)) (x' := ⟨sbq122, (sbq119 s n d)⟩) (by kernel_rfl) (by kernel_rfl) F58_call ?_ (by kernel_rfl) ?_
  refine fi_walkW F58_ok (of_decide_eq_true (by kernel_rfl)) ?_
  refine EL.sreg ?_
  refine OW.last 2 [0, 1] (x' := ⟨[(0, .ref 9 8 0 0), (1, VI 3)], (sbq119 s n d)⟩) (by kernel_rfl) (by kernel_rfl) ?_
  refine EL.sreg ?_
  refine OW.last 19 [1, 6] (x' := ⟨[(6, .ref 10 9 0 0), (1, VI 3)], (sbq121 s n d)⟩) (by kernel_rfl) (by kernel_rfl) ?_
  refine EL.seq ?_
  refine EL.sreg ?_
  refine OW.run 1 (x' := ⟨[(24, VI 3), (6, .ref 10 9 0 0), (1, VI 3)], (sbq121 s n d)⟩) (by kernel_rfl) ?_
  refine OW.fn (ar := [VI 3, VI 1, VI 8]) (x' := ⟨[(25, .v (.bool (wi 3 1 8))), (24, VI 3), (6, .ref 10 9 0 0), (1, VI 3)], (sbq121 s n d)⟩) (by kernel_rfl) (by kernel_rfl) F31_call (within_fn 3 1 8) (by kernel_rfl) (by kernel_rfl) ?_
  refine OW.last 1 [1, 6, 26] (x' := ⟨[(26, .v (.bool (!(wi 3 1 8)))), (6, .ref 10 9 0 0), (1, VI 3)], (sbq121 s n d)⟩) (by kernel_rfl) (by kernel_rfl) ?_
  rw [h1]
  refine EL.condF (by kernel_rfl) ?_
  refine EL.skip ?_
  refine thenL_norm ?_
  refine EL.sreg ?_
  refine OW.last 11 [4, 5] (x' := ⟨[(5, .v (.bool true)), (4, .bf 75 [.ref 9 8 0 0])], (sbq121 s n d)⟩) (by kernel_rfl) (by kernel_rfl) ?_
  refine EL.ret ?_
  refine ⟨.inr rfl, ⟨[(4, .bf 75 [.ref 9 8 0 0]), (5, .v (.bool true))], (sbq119 s n d)⟩, norm_le (live := [4, 5]) (src := [.old 0 false, .old 1 false, .old 2 false, .old 3 false, .old 4 true, .old 5 true, .old 6 true, .old 7 true, .old 8 true, .old 9 false]) (es := []) (by kernel_rfl) ⟨pucZ s.first (by kernel_rfl), pucZ s.second (by kernel_rfl), pu 2 Record.cs s.log (by kernel_rfl) (by intro y; kernel_rfl), pucI s.there (by kernel_rfl), pucI s.back (by kernel_rfl), trivial⟩, by kernel_rfl, rfl⟩
  refine OW.last 5 [3, 4, 6, 7, 8] (x' := ⟨sbq123, (sbq119 s n d)⟩) (by kernel_rfl) (by kernel_rfl) ?_
  refine EL.sreg ?_
  refine OW.last 1 [3, 4, 6, 7, 8] (x' := ⟨sbq123, (sbq119 s n d)⟩) (by kernel_rfl) (by kernel_rfl) ?_
  refine EL.seq ?_
  refine EL.block ?_
  refine EL.sreg ?_
  refine OW.last 3 [3, 4, 6, 7, 8, 24] (x' := ⟨(24, .v (.bool false)) :: sbq123, (sbq119 s n d)⟩) (by kernel_rfl) (by kernel_rfl) ?_
  refine EL.condF (by kernel_rfl) ?_
  refine EL.seqG [3, 4, 6, 7, 27] (fun y => (y = ⟨sbq128, (sbq119 s n d)⟩ ∧ strEq d (⟨#[]⟩) = true ∧ ((¬ (n = 0)) ∨ ((n = 0)))) ∨ (y = ⟨sbq129, (sbq119 s n d)⟩ ∧ strEq d (⟨#[]⟩) = false)) ?_ ?_
  intro IHJ2 HJ2
  refine EL.sreg ?_
  refine OW.run 4 (x' := ⟨(31, .v (.bool (!(strEq d (⟨#[]⟩))))) :: (30, .v (.bool (!(strEq d (⟨#[]⟩))))) :: (sbq124 d), (sbq119 s n d)⟩) (by kernel_rfl) ?_
  rcases Bool.eq_false_or_eq_true (strEq d (⟨#[]⟩)) with h3 | h3
  rw [h3]
  have g3 : (d = (⟨#[]⟩)) := strEq_iff.1 h3
  refine OW.last 5 [3, 4, 6, 7, 8, 27] (x' := ⟨(27, .v (.bool false)) :: sbq123, (sbq119 s n d)⟩) (by kernel_rfl) (by kernel_rfl) ?_
  refine EL.condF (by kernel_rfl) ?_
  refine EL.reg0 ?_
  refine OW.run 4 (x' := ⟨(39, .v (.bool (n != 0))) :: (38, .v (.bool (n != 0))) :: (sbq125 n), (sbq119 s n d)⟩) (by kernel_rfl) ?_
  rcases Bool.eq_false_or_eq_true ((n != 0)) with h4 | h4
  rw [h4]
  have g4 : ¬ (n = 0) := by simpa using h4
  refine OW.end 4 (x' := ⟨(sbq126 n), (sbq119 s n d)⟩) (by kernel_rfl) (by kernel_rfl) ?_
  exact thenL_norm (HJ2.get (Or.inl ⟨by kernel_rfl, h3, (Or.inl (by first | exact g4 | exact h4 | simp_all | omega))⟩))
  rw [h4]
  have g4 : (n = 0) := by simpa using h4
  refine OW.end 4 (x' := ⟨(sbq127 n), (sbq119 s n d)⟩) (by kernel_rfl) (by kernel_rfl) ?_
  exact thenL_norm (HJ2.get (Or.inl ⟨by kernel_rfl, h3, (Or.inr (by first | exact g4 | exact h4 | simp_all | omega))⟩))
  rw [h3]
  have g3 : ¬ (d = (⟨#[]⟩)) := fun hh => Bool.noConfusion ((strEq_iff.2 hh).symm.trans h3)
  refine OW.last 5 [3, 4, 6, 7, 8, 27] (x' := ⟨(27, .v (.bool true)) :: sbq123, (sbq119 s n d)⟩) (by kernel_rfl) (by kernel_rfl) ?_
  refine EL.condT (by kernel_rfl) ?_
  refine EL.skip ?_
  exact thenL_norm (HJ2.get (Or.inr ⟨by kernel_rfl, h3⟩))
  rintro _ (⟨rfl, h5, hD6⟩ | ⟨rfl, h7⟩)
  have g5 : (d = (⟨#[]⟩)) := strEq_iff.1 h5
  refine EL.condF (by kernel_rfl) ?_
  refine EL.reg0 ?_
  refine OW.run 2 (x' := ⟨(sbq130 n d), (sbq119 s n d)⟩) (by kernel_rfl) ?_
  rcases Bool.eq_false_or_eq_true (wi n 0 ((List.length s.there : Int) - 1)) with h8 | h8
  try rw [h8]
  have g8 : ((0 : Int) ≤ n ∧ (n : Int) ≤ ((List.length s.there : Int) - 1)) := wi_iff.1 h8
  obtain ⟨a9, ha9⟩ : ∃ y, s.there[(n : Int).toNat]? = some y := idx_ex ⟨by omega, by omega⟩
  have ma9 := tt _ (List.mem_of_getElem? ha9)
  rcases Bool.eq_false_or_eq_true ((a9 == (s.applied + 1))) with h10 | h10
  try rw [h10]
  have g10 : (a9 = (s.applied + 1)) := by simpa using h10
  obtain ⟨a11, ha11⟩ : ∃ y, s.log[((a9 - 1) : Int).toNat]? = some y := idx_ex ⟨by omega, by omega⟩
  have ma11 := ee _ (List.mem_of_getElem? ha11)
  obtain ⟨a12, ha12⟩ : ∃ y, s.second[(a11.block : Int).toNat]? = some y := idx_ex ⟨by omega, by omega⟩
  rcases Bool.eq_false_or_eq_true (((List.length s.back : Int) == 60)) with h13 | h13
  try rw [h13]
  have g13 : ((List.length s.back : Int) = 60) := by simpa using h13
  have n13 : ((List.length s.back) = 60) := by omega
  refine OW.fi (ar := [.ref 9 8 0 0, .agg [VI 3, VI n, .v (.string d)]]) (r := VI 2) (m' := (sbq160 s n d a11 a9)) (x' := ⟨(23, VI 2) :: (sbq130 n d), (sbq160 s n d a11 a9)⟩) (by kernel_rfl) (by kernel_rfl) F75_call ?_ (by kernel_rfl) ?_
  refine fi_walkW F75_ok (of_decide_eq_true (by kernel_rfl)) ?_
  refine EL.sreg ?_
  refine OW.last 2 [0, 3] (x' := ⟨[(3, .ref 10 3 0 0), (0, .ref 9 8 0 0)], (sbq131 s n d)⟩) (by kernel_rfl) (by kernel_rfl) ?_
  refine EL.sdraw ?_
  refine DW.run 6 (x' := ⟨(sbq132 n), (sbq131 s n d)⟩) (by kernel_rfl) ?_
  refine DW.fi (ar := [.ref 9 8 0 6, VI n]) (r := .tup [VI a9, VI 0]) (m' := (sbq143 s n d)) (x' := ⟨(15, .tup [VI a9, VI 0]) :: (sbq132 n), (sbq143 s n d)⟩) (by kernel_rfl) (by kernel_rfl) F83_call ?_ (by kernel_rfl) (by kernel_rfl) (by kernel_rfl) ?_
  refine fi_walkW F83_ok (of_decide_eq_true (by kernel_rfl)) ?_
  refine EL.sreg ?_
  refine OW.last 2 [0, 1] (x' := ⟨[(0, .ref 9 8 0 6), (1, VI n)], (sbq131 s n d)⟩) (by kernel_rfl) (by kernel_rfl) ?_
  refine EL.seq ?_
  refine EL.sreg ?_
  refine OW.run 6 (x' := ⟨(12, VI (IntKind.i64.wrap ((List.length s.there : Int) - 1))) :: (sbq133 s n), (sbq131 s n d)⟩) (by kernel_rfl) ?_
  have e14 : IntKind.i64.wrap ((List.length s.there : Int) - 1) = (List.length s.there : Int) - 1 := wr64 (by omega)
  rw [e14]
  refine OW.fn (ar := [VI n, VI 0, VI ((List.length s.there : Int) - 1)]) (x' := ⟨(13, .v (.bool (wi n 0 ((List.length s.there : Int) - 1)))) :: (sbq134 s n), (sbq131 s n d)⟩) (by kernel_rfl) (by kernel_rfl) F31_call (within_fn n 0 ((List.length s.there : Int) - 1)) (by kernel_rfl) (by kernel_rfl) ?_
  refine OW.last 1 [0, 1, 14] (x' := ⟨[(14, .v (.bool (!(wi n 0 ((List.length s.there : Int) - 1))))), (0, .ref 9 8 0 6), (1, VI n)], (sbq131 s n d)⟩) (by kernel_rfl) (by kernel_rfl) ?_
  rw [h8]
  refine EL.condF (by kernel_rfl) ?_
  refine EL.skip ?_
  refine thenL_norm ?_
  refine EL.sreg ?_
  refine OW.run 4 (x' := ⟨(sbq135 n s), (sbq131 s n d)⟩) (by kernel_rfl) ?_
  refine OW.ope (v := .ref 7 1 (0 + Int.toNat n) 0) (u := []) (acc := [7]) (x' := ⟨(19, .ref 7 1 (0 + Int.toNat n) 0) :: (sbq135 n s), (sbq131 s n d)⟩) (by kernel_rfl) (opE_iado (.s 17) (.s 18) 1 7 0 (List.length s.there) .i64 n ⟨1, (s.there.map cI)⟩ (by kernel_rfl) (by kernel_rfl) rfl rfl ⟨by omega, by omega⟩ (by kernel_rfl)) (by kernel_rfl) ?_
  refine OW.ope (v := VI a9) (u := []) (acc := [7]) (x' := ⟨(sbq136 a9 n s), (sbq131 s n d)⟩) (by kernel_rfl) (opE_ldoS cI s.there none (.s 19) 7 1 (0 + Int.toNat n) 0 a9 (VI a9) (by kernel_rfl) (by kernel_rfl) rfl (by kernel_rfl) (by simpa using ha9) (by kernel_rfl)) (by kernel_rfl) ?_
  refine OW.last 1 [0, 1, 6] (x' := ⟨[(6, VI a9), (0, .ref 9 8 0 6), (1, VI n)], (sbq131 s n d)⟩) (by kernel_rfl) (by kernel_rfl) ?_
  refine EL.sreg ?_
  refine OW.run 7 (x' := ⟨(27, VI (IntKind.i64.wrap (n + 1))) :: (sbq137 n s a9), (sbq131 s n d)⟩) (by kernel_rfl) ?_
  have e15 : IntKind.i64.wrap (n + 1) = n + 1 := wr64 (by omega)
  rw [e15]
  refine OW.fi (ar := [.own 7 1 0 (List.length s.there), VI n, VI (n + 1)]) (r := .own 12 1 0 (List.length (List.eraseIdx s.there (Int.toNat n)))) (m' := (sbq138 s n d)) (x' := ⟨(sbq139 s n a9), (sbq138 s n d)⟩) (by kernel_rfl) (by kernel_rfl) F84_call (delete_map (fe := cI) (xs := s.there) (m := (sbq131 s n d)) (id := 7) (by_ := 8) (zs := [VI 0]) (F84_ok.trans (by kernel_rfl)) rfl (by kernel_rfl) (by omega) (by omega) (by omega)) (by kernel_rfl) ?_
  refine OW.last 2 [6] (x' := ⟨[(6, VI a9)], (sbq141 s n d)⟩) (by kernel_rfl) (by kernel_rfl) ?_
  refine EL.sreg ?_
  refine OW.last 3 [4, 5] (x' := ⟨[(5, VI 0), (4, VI a9)], (sbq141 s n d)⟩) (by kernel_rfl) (by kernel_rfl) ?_
  refine EL.ret ?_
  refine ⟨.inr rfl, ⟨[(4, VI a9), (5, VI 0)], (sbq143 s n d)⟩, norm_le (live := [4, 5]) (src := [.old 0 false, .old 1 false, .old 2 false, .old 3 false, .old 4 true, .old 5 true, .old 6 true, .old 7 false, .old 8 true, .old 9 false, .old 10 false, .old 12 true]) (es := []) (by kernel_rfl) ⟨pucZ s.first (by kernel_rfl), pucZ s.second (by kernel_rfl), pu 2 Record.cs s.log (by kernel_rfl) (by intro y; kernel_rfl), pucI s.back (by kernel_rfl), pucI (List.eraseIdx s.there (Int.toNat n)) (by kernel_rfl), trivial⟩, by kernel_rfl, rfl⟩
  refine DW.last 5 [0, 5, 6] (x' := ⟨[(6, VI 0), (5, VI a9), (0, .ref 9 8 0 0)], (sbq143 s n d)⟩) (by kernel_rfl) (by kernel_rfl) ?_
  refine EL.seq ?_
  refine EL.sreg ?_
  refine OW.last 2 [0, 5, 6, 19] (x' := ⟨(sbq144 a9), (sbq143 s n d)⟩) (by kernel_rfl) (by kernel_rfl) ?_
  refine EL.condF (by kernel_rfl) ?_
  refine EL.skip ?_
  refine thenL_norm ?_
  refine EL.seq ?_
  refine EL.sreg ?_
  refine OW.run 8 (x' := ⟨(28, .v (.bool (a9 == IntKind.i64.wrap (s.applied + 1)))) :: (27, VI (IntKind.i64.wrap (s.applied + 1))) :: (sbq145 s a9), (sbq143 s n d)⟩) (by kernel_rfl) ?_
  have e16 : IntKind.i64.wrap (s.applied + 1) = s.applied + 1 := wr64 (by omega)
  rw [e16]
  refine OW.last 0 [0, 5, 28] (x' := ⟨[(28, .v (.bool (a9 == (s.applied + 1)))), (5, VI a9), (0, .ref 9 8 0 0)], (sbq143 s n d)⟩) (by kernel_rfl) (by kernel_rfl) ?_
  rw [h10]
  refine EL.condT (by kernel_rfl) ?_
  refine EL.sreg ?_
  refine OW.run 7 (x' := ⟨(35, VI (IntKind.i64.wrap (a9 - 1))) :: (sbq146 a9 s), (sbq143 s n d)⟩) (by kernel_rfl) ?_
  have e17 : IntKind.i64.wrap (a9 - 1) = a9 - 1 := wr64 (by omega)
  rw [e17]
  refine OW.ope (v := .ref 6 2 (0 + Int.toNat (a9 - 1)) 0) (u := []) (acc := [6]) (x' := ⟨(sbq147 a9 s), (sbq143 s n d)⟩) (by kernel_rfl) (opE_iado (.s 33) (.s 35) 2 6 0 (List.length s.log) .i64 (a9 - 1) ⟨2, (s.log.map Record.cs)⟩ (by kernel_rfl) (by kernel_rfl) rfl rfl ⟨by omega, by omega⟩ (by kernel_rfl)) (by kernel_rfl) ?_
  refine OW.ope (v := .agg [VI a11.block, .v (.string a11.data)]) (u := []) (acc := [6]) (x' := ⟨(sbq148 a11 a9 s), (sbq143 s n d)⟩) (by kernel_rfl) (opE_ldoS Record.cs s.log (some 2) (.s 36) 6 2 (0 + Int.toNat (a9 - 1)) 0 a11 (.agg [VI a11.block, .v (.string a11.data)]) (by kernel_rfl) (by kernel_rfl) rfl (by kernel_rfl) (by simpa using ha11) (by kernel_rfl)) (by kernel_rfl) ?_
  refine OW.last 2 [0, 5, 7] (x' := ⟨(sbq150 a9), (sbq149 s n d a11)⟩) (by kernel_rfl) (by kernel_rfl) ?_
  refine EL.sdraw ?_
  refine DW.run 9 (x' := ⟨(sbq151 a11 s a9), (sbq149 s n d a11)⟩) (by kernel_rfl) ?_
  refine DW.ope (v := .ref 5 1 (0 + Int.toNat a11.block) 0) (u := []) (acc := [5]) (x' := ⟨(sbq152 a11 s a9), (sbq149 s n d a11)⟩) (by kernel_rfl) (opE_iado (.s 42) (.s 44) 1 5 0 (List.length s.second) .i64 a11.block ⟨1, (s.second.map cZ)⟩ (by kernel_rfl) (by kernel_rfl) rfl rfl ⟨by omega, by omega⟩ (by kernel_rfl)) (by kernel_rfl) ?_
  refine DW.ope (v := .v undef) (u := [(5, some ⟨1, ((List.set s.second (0 + Int.toNat a11.block) a11.data).map cZ)⟩)]) (acc := [5]) (x' := ⟨(sbq152 a11 s a9), (sbq154 s n d a11)⟩) (by kernel_rfl) (opE_stoS cZ s.second 1 (.s 47) (.s 46) 5 1 (0 + Int.toNat a11.block) 0 a12 a11.data (.v (.string a11.data)) (by kernel_rfl) (by kernel_rfl) rfl rfl (by kernel_rfl) (by simpa using ha12) (by kernel_rfl) (by kernel_rfl)) (by kernel_rfl) ?_
  refine DW.last 0 [0, 5] (x' := ⟨[(5, VI a9), (0, .ref 9 8 0 0)], (sbq154 s n d a11)⟩) (by kernel_rfl) (by kernel_rfl) ?_
  refine EL.reg0 ?_
  refine OW.end 6 (x' := ⟨(sbq157 a9), (sbq156 s n d a11 a9)⟩) (by kernel_rfl) (by kernel_rfl) ?_
  refine thenL_norm ?_
  refine EL.sdraw ?_
  refine DW.run 9 (x' := ⟨(sbq158 a9), (sbq156 s n d a11 a9)⟩) (by kernel_rfl) ?_
  refine DW.fi (ar := [.ref 9 8 0 7, VI a9]) (r := VI 2) (m' := (sbq156 s n d a11 a9)) (x' := ⟨(62, VI 2) :: (sbq158 a9), (sbq156 s n d a11 a9)⟩) (by kernel_rfl) (by kernel_rfl) F82_call ?_ (by kernel_rfl) (by kernel_rfl) (by kernel_rfl) ?_
  refine fi_walkW F82_ok (of_decide_eq_true (by kernel_rfl)) ?_
  refine EL.sreg ?_
  refine OW.last 1 [0, 1] (x' := ⟨[(0, .ref 9 8 0 7), (1, VI a9)], (sbq156 s n d a11 a9)⟩) (by kernel_rfl) (by kernel_rfl) ?_
  refine EL.seq ?_
  refine EL.sreg ?_
  refine OW.last 5 [0, 1, 9] (x' := ⟨[(9, .v (.bool ((List.length s.back : Int) == 60))), (0, .ref 9 8 0 7), (1, VI a9)], (sbq156 s n d a11 a9)⟩) (by kernel_rfl) (by kernel_rfl) ?_
  rw [h13]
  refine EL.condT (by kernel_rfl) ?_
  refine EL.sreg ?_
  refine OW.last 1 [4] (x' := ⟨[(4, VI 2)], (sbq156 s n d a11 a9)⟩) (by kernel_rfl) (by kernel_rfl) ?_
  refine EL.ret ?_
  refine thenL_ret ?_
  refine ⟨.inr rfl, ⟨[(4, VI 2)], (sbq156 s n d a11 a9)⟩, norm_le (live := [4]) (src := [.old 0 false, .old 1 false, .old 2 false, .old 3 false, .old 4 true, .old 5 true, .old 6 true, .old 7 false, .old 8 true, .old 9 false, .old 10 false, .old 11 true, .old 12 false]) (es := []) (by kernel_rfl) ⟨pucZ s.first (by kernel_rfl), pucZ (List.set s.second (0 + Int.toNat a11.block) a11.data) (by kernel_rfl), pu 2 Record.cs s.log (by kernel_rfl) (by intro y; kernel_rfl), pucI s.back (by kernel_rfl), pucI (List.eraseIdx s.there (Int.toNat n)) (by kernel_rfl), trivial⟩, by kernel_rfl, rfl⟩
  refine DW.last 1 [4] (x' := ⟨[(4, VI 2)], (sbq156 s n d a11 a9)⟩) (by kernel_rfl) (by kernel_rfl) ?_
  refine EL.ret ?_
  refine ⟨.inr rfl, ⟨[(4, VI 2)], (sbq160 s n d a11 a9)⟩, norm_le (live := [4]) (src := [.old 0 false, .old 1 false, .old 2 false, .old 3 false, .old 4 true, .old 5 true, .old 6 true, .old 7 false, .old 8 true, .old 9 false, .old 11 true]) (es := []) (by kernel_rfl) ⟨pucZ s.first (by kernel_rfl), pucZ (List.set s.second (0 + Int.toNat a11.block) a11.data) (by kernel_rfl), pu 2 Record.cs s.log (by kernel_rfl) (by intro y; kernel_rfl), pucI s.back (by kernel_rfl), pucI (List.eraseIdx s.there (Int.toNat n)) (by kernel_rfl), trivial⟩, by kernel_rfl, rfl⟩
  refine OW.end 1 (x' := ⟨(9, VI 2) :: (23, VI 2) :: (sbq130 n d), (sbq160 s n d a11 a9)⟩) (by kernel_rfl) (by kernel_rfl) ?_
  refine inBlk_norm ?_
  refine thenL_norm ?_
  refine EL.seq ?_
  refine EL.sreg ?_
  refine OW.last 2 [4, 6, 9, 44] (x' := ⟨sbq103, (sbq160 s n d a11 a9)⟩) (by kernel_rfl) (by kernel_rfl) ?_
  refine EL.condT (by kernel_rfl) ?_
  refine EL.sreg ?_
  refine OW.last 4 [4, 5] (x' := ⟨[(5, VI 2), (4, .ref 2 8 0 0)], (sbq160 s n d a11 a9)⟩) (by kernel_rfl) (by kernel_rfl) ?_
  refine EL.ret ?_
  refine thenL_ret ?_
  refine ⟨.inr rfl, .tup [.agg [.emp, .emp, .emp, VI 0, VI 0, VI 0, .emp, .emp], VI 2], by kernel_rfl, Ale.trans (b := .tup [sbq55, VI 2]) (Ale.tup (.cons (Ale.agg (.cons (Ale.emp) (.cons (Ale.emp) (.cons (Ale.emp) (.cons (Ale.refl) (.cons (Ale.refl) (.cons (Ale.refl) (.cons (Ale.emp) (.cons (Ale.emp) (.nil)))))))))) (.cons (Ale.refl) (.nil)))) (Ale.of_eq ?_)⟩
  focus (skip; clear ee tt bb; rw [Ship.step_3]; split <;> first | rfl | contradiction | (simp only [Ship.passP, wi_iff]; rw [‹s.there[n.toNat]? = some _›]; (repeat' split) <;> first | rfl | (exfalso; omega) | (simp; done) | (simp; omega) | (simp_all; done) | (simp_all; omega)))
  try rw [h13]
  have g13 : ¬ ((List.length s.back : Int) = 60) := by simpa using h13
  have n13 : ¬ ((List.length s.back) = 60) := by omega
  refine OW.fi (ar := [.ref 9 8 0 0, .agg [VI 3, VI n, .v (.string d)]]) (r := VI 0) (m' := (sbq171 s n d a11 a9)) (x' := ⟨(23, VI 0) :: (sbq130 n d), (sbq171 s n d a11 a9)⟩) (by kernel_rfl) (by kernel_rfl) F75_call ?_ (by kernel_rfl) ?_
  refine fi_walkW F75_ok (of_decide_eq_true (by kernel_rfl)) ?_
  refine EL.sreg ?_
  refine OW.last 2 [0, 3] (x' := ⟨[(3, .ref 10 3 0 0), (0, .ref 9 8 0 0)], (sbq131 s n d)⟩) (by kernel_rfl) (by kernel_rfl) ?_
  refine EL.sdraw ?_
  refine DW.run 6 (x' := ⟨(sbq132 n), (sbq131 s n d)⟩) (by kernel_rfl) ?_
  refine DW.fi (ar := [.ref 9 8 0 6, VI n]) (r := .tup [VI a9, VI 0]) (m' := (sbq143 s n d)) (x' := ⟨(15, .tup [VI a9, VI 0]) :: (sbq132 n), (sbq143 s n d)⟩) (by kernel_rfl) (by kernel_rfl) F83_call ?_ (by kernel_rfl) (by kernel_rfl) (by kernel_rfl) ?_
  refine fi_walkW F83_ok (of_decide_eq_true (by kernel_rfl)) ?_
  refine EL.sreg ?_
  refine OW.last 2 [0, 1] (x' := ⟨[(0, .ref 9 8 0 6), (1, VI n)], (sbq131 s n d)⟩) (by kernel_rfl) (by kernel_rfl) ?_
  refine EL.seq ?_
  refine EL.sreg ?_
  refine OW.run 6 (x' := ⟨(12, VI (IntKind.i64.wrap ((List.length s.there : Int) - 1))) :: (sbq133 s n), (sbq131 s n d)⟩) (by kernel_rfl) ?_
  have e18 : IntKind.i64.wrap ((List.length s.there : Int) - 1) = (List.length s.there : Int) - 1 := wr64 (by omega)
  rw [e18]
  refine OW.fn (ar := [VI n, VI 0, VI ((List.length s.there : Int) - 1)]) (x' := ⟨(13, .v (.bool (wi n 0 ((List.length s.there : Int) - 1)))) :: (sbq134 s n), (sbq131 s n d)⟩) (by kernel_rfl) (by kernel_rfl) F31_call (within_fn n 0 ((List.length s.there : Int) - 1)) (by kernel_rfl) (by kernel_rfl) ?_
  refine OW.last 1 [0, 1, 14] (x' := ⟨[(14, .v (.bool (!(wi n 0 ((List.length s.there : Int) - 1))))), (0, .ref 9 8 0 6), (1, VI n)], (sbq131 s n d)⟩) (by kernel_rfl) (by kernel_rfl) ?_
  rw [h8]
  refine EL.condF (by kernel_rfl) ?_
  refine EL.skip ?_
  refine thenL_norm ?_
  refine EL.sreg ?_
  refine OW.run 4 (x' := ⟨(sbq135 n s), (sbq131 s n d)⟩) (by kernel_rfl) ?_
  refine OW.ope (v := .ref 7 1 (0 + Int.toNat n) 0) (u := []) (acc := [7]) (x' := ⟨(19, .ref 7 1 (0 + Int.toNat n) 0) :: (sbq135 n s), (sbq131 s n d)⟩) (by kernel_rfl) (opE_iado (.s 17) (.s 18) 1 7 0 (List.length s.there) .i64 n ⟨1, (s.there.map cI)⟩ (by kernel_rfl) (by kernel_rfl) rfl rfl ⟨by omega, by omega⟩ (by kernel_rfl)) (by kernel_rfl) ?_
  refine OW.ope (v := VI a9) (u := []) (acc := [7]) (x' := ⟨(sbq136 a9 n s), (sbq131 s n d)⟩) (by kernel_rfl) (opE_ldoS cI s.there none (.s 19) 7 1 (0 + Int.toNat n) 0 a9 (VI a9) (by kernel_rfl) (by kernel_rfl) rfl (by kernel_rfl) (by simpa using ha9) (by kernel_rfl)) (by kernel_rfl) ?_
  refine OW.last 1 [0, 1, 6] (x' := ⟨[(6, VI a9), (0, .ref 9 8 0 6), (1, VI n)], (sbq131 s n d)⟩) (by kernel_rfl) (by kernel_rfl) ?_
  refine EL.sreg ?_
  refine OW.run 7 (x' := ⟨(27, VI (IntKind.i64.wrap (n + 1))) :: (sbq137 n s a9), (sbq131 s n d)⟩) (by kernel_rfl) ?_
  have e19 : IntKind.i64.wrap (n + 1) = n + 1 := wr64 (by omega)
  rw [e19]
  refine OW.fi (ar := [.own 7 1 0 (List.length s.there), VI n, VI (n + 1)]) (r := .own 12 1 0 (List.length (List.eraseIdx s.there (Int.toNat n)))) (m' := (sbq138 s n d)) (x' := ⟨(sbq139 s n a9), (sbq138 s n d)⟩) (by kernel_rfl) (by kernel_rfl) F84_call (delete_map (fe := cI) (xs := s.there) (m := (sbq131 s n d)) (id := 7) (by_ := 8) (zs := [VI 0]) (F84_ok.trans (by kernel_rfl)) rfl (by kernel_rfl) (by omega) (by omega) (by omega)) (by kernel_rfl) ?_
  refine OW.last 2 [6] (x' := ⟨[(6, VI a9)], (sbq141 s n d)⟩) (by kernel_rfl) (by kernel_rfl) ?_
  refine EL.sreg ?_
  refine OW.last 3 [4, 5] (x' := ⟨[(5, VI 0), (4, VI a9)], (sbq141 s n d)⟩) (by kernel_rfl) (by kernel_rfl) ?_
  refine EL.ret ?_
  refine ⟨.inr rfl, ⟨[(4, VI a9), (5, VI 0)], (sbq143 s n d)⟩, norm_le (live := [4, 5]) (src := [.old 0 false, .old 1 false, .old 2 false, .old 3 false, .old 4 true, .old 5 true, .old 6 true, .old 7 false, .old 8 true, .old 9 false, .old 10 false, .old 12 true]) (es := []) (by kernel_rfl) ⟨pucZ s.first (by kernel_rfl), pucZ s.second (by kernel_rfl), pu 2 Record.cs s.log (by kernel_rfl) (by intro y; kernel_rfl), pucI s.back (by kernel_rfl), pucI (List.eraseIdx s.there (Int.toNat n)) (by kernel_rfl), trivial⟩, by kernel_rfl, rfl⟩
  refine DW.last 5 [0, 5, 6] (x' := ⟨[(6, VI 0), (5, VI a9), (0, .ref 9 8 0 0)], (sbq143 s n d)⟩) (by kernel_rfl) (by kernel_rfl) ?_
  refine EL.seq ?_
  refine EL.sreg ?_
  refine OW.last 2 [0, 5, 6, 19] (x' := ⟨(sbq144 a9), (sbq143 s n d)⟩) (by kernel_rfl) (by kernel_rfl) ?_
  refine EL.condF (by kernel_rfl) ?_
  refine EL.skip ?_
  refine thenL_norm ?_
  refine EL.seq ?_
  refine EL.sreg ?_
  refine OW.run 8 (x' := ⟨(28, .v (.bool (a9 == IntKind.i64.wrap (s.applied + 1)))) :: (27, VI (IntKind.i64.wrap (s.applied + 1))) :: (sbq145 s a9), (sbq143 s n d)⟩) (by kernel_rfl) ?_
  have e20 : IntKind.i64.wrap (s.applied + 1) = s.applied + 1 := wr64 (by omega)
  rw [e20]
  refine OW.last 0 [0, 5, 28] (x' := ⟨[(28, .v (.bool (a9 == (s.applied + 1)))), (5, VI a9), (0, .ref 9 8 0 0)], (sbq143 s n d)⟩) (by kernel_rfl) (by kernel_rfl) ?_
  rw [h10]
  refine EL.condT (by kernel_rfl) ?_
  refine EL.sreg ?_
  refine OW.run 7 (x' := ⟨(35, VI (IntKind.i64.wrap (a9 - 1))) :: (sbq146 a9 s), (sbq143 s n d)⟩) (by kernel_rfl) ?_
  have e21 : IntKind.i64.wrap (a9 - 1) = a9 - 1 := wr64 (by omega)
  rw [e21]
  refine OW.ope (v := .ref 6 2 (0 + Int.toNat (a9 - 1)) 0) (u := []) (acc := [6]) (x' := ⟨(sbq147 a9 s), (sbq143 s n d)⟩) (by kernel_rfl) (opE_iado (.s 33) (.s 35) 2 6 0 (List.length s.log) .i64 (a9 - 1) ⟨2, (s.log.map Record.cs)⟩ (by kernel_rfl) (by kernel_rfl) rfl rfl ⟨by omega, by omega⟩ (by kernel_rfl)) (by kernel_rfl) ?_
  refine OW.ope (v := .agg [VI a11.block, .v (.string a11.data)]) (u := []) (acc := [6]) (x' := ⟨(sbq148 a11 a9 s), (sbq143 s n d)⟩) (by kernel_rfl) (opE_ldoS Record.cs s.log (some 2) (.s 36) 6 2 (0 + Int.toNat (a9 - 1)) 0 a11 (.agg [VI a11.block, .v (.string a11.data)]) (by kernel_rfl) (by kernel_rfl) rfl (by kernel_rfl) (by simpa using ha11) (by kernel_rfl)) (by kernel_rfl) ?_
  refine OW.last 2 [0, 5, 7] (x' := ⟨(sbq150 a9), (sbq149 s n d a11)⟩) (by kernel_rfl) (by kernel_rfl) ?_
  refine EL.sdraw ?_
  refine DW.run 9 (x' := ⟨(sbq151 a11 s a9), (sbq149 s n d a11)⟩) (by kernel_rfl) ?_
  refine DW.ope (v := .ref 5 1 (0 + Int.toNat a11.block) 0) (u := []) (acc := [5]) (x' := ⟨(sbq152 a11 s a9), (sbq149 s n d a11)⟩) (by kernel_rfl) (opE_iado (.s 42) (.s 44) 1 5 0 (List.length s.second) .i64 a11.block ⟨1, (s.second.map cZ)⟩ (by kernel_rfl) (by kernel_rfl) rfl rfl ⟨by omega, by omega⟩ (by kernel_rfl)) (by kernel_rfl) ?_
  refine DW.ope (v := .v undef) (u := [(5, some ⟨1, ((List.set s.second (0 + Int.toNat a11.block) a11.data).map cZ)⟩)]) (acc := [5]) (x' := ⟨(sbq152 a11 s a9), (sbq154 s n d a11)⟩) (by kernel_rfl) (opE_stoS cZ s.second 1 (.s 47) (.s 46) 5 1 (0 + Int.toNat a11.block) 0 a12 a11.data (.v (.string a11.data)) (by kernel_rfl) (by kernel_rfl) rfl rfl (by kernel_rfl) (by simpa using ha12) (by kernel_rfl) (by kernel_rfl)) (by kernel_rfl) ?_
  refine DW.last 0 [0, 5] (x' := ⟨[(5, VI a9), (0, .ref 9 8 0 0)], (sbq154 s n d a11)⟩) (by kernel_rfl) (by kernel_rfl) ?_
  refine EL.reg0 ?_
  refine OW.end 6 (x' := ⟨(sbq157 a9), (sbq156 s n d a11 a9)⟩) (by kernel_rfl) (by kernel_rfl) ?_
  refine thenL_norm ?_
  refine EL.sdraw ?_
  refine DW.run 9 (x' := ⟨(sbq158 a9), (sbq156 s n d a11 a9)⟩) (by kernel_rfl) ?_
  refine DW.fi (ar := [.ref 9 8 0 7, VI a9]) (r := VI 0) (m' := (sbq169 s n d a11 a9)) (x' := ⟨(62, VI 0) :: (sbq158 a9), (sbq169 s n d a11 a9)⟩) (by kernel_rfl) (by kernel_rfl) F82_call ?_ (by kernel_rfl) (by kernel_rfl) (by kernel_rfl) ?_
  refine fi_walkW F82_ok (of_decide_eq_true (by kernel_rfl)) ?_
  refine EL.sreg ?_
  refine OW.last 1 [0, 1] (x' := ⟨[(0, .ref 9 8 0 7), (1, VI a9)], (sbq156 s n d a11 a9)⟩) (by kernel_rfl) (by kernel_rfl) ?_
  refine EL.seq ?_
  refine EL.sreg ?_
  refine OW.last 5 [0, 1, 9] (x' := ⟨[(9, .v (.bool ((List.length s.back : Int) == 60))), (0, .ref 9 8 0 7), (1, VI a9)], (sbq156 s n d a11 a9)⟩) (by kernel_rfl) (by kernel_rfl) ?_
  rw [h13]
  refine EL.condF (by kernel_rfl) ?_
  refine EL.skip ?_
  refine thenL_norm ?_
  refine EL.sreg ?_
  refine OW.run 6 (x' := ⟨(sbq162 a9 s), (sbq161 s n d a11 a9)⟩) (by kernel_rfl) ?_
  refine OW.ope (v := .own 14 1 0 (List.length (s.back ++ ([a9])))) (u := [(8, none), (14, some ⟨1, ((s.back ++ ([a9])).map cI)⟩)]) (acc := [13, 8]) (x' := ⟨(sbq164 s a9), (sbq163 s n d a11 a9)⟩) (by kernel_rfl) (opE_appO cI s.back ([a9]) (.s 13) (.s 15) 1 8 8 (.own 13 1 0 1) _ (by kernel_rfl) (by kernel_rfl) rfl (by kernel_rfl) rfl (.own (els := [[VI a9]]) (by kernel_rfl) (by kernel_rfl) (of_decide_eq_true (by kernel_rfl))) (by simp; omega)) (by kernel_rfl) ?_
  refine OW.last 2 [] (x' := ⟨[], (sbq166 s n d a11 a9)⟩) (by kernel_rfl) (by kernel_rfl) ?_
  refine EL.sreg ?_
  refine OW.last 1 [4] (x' := ⟨[(4, VI 0)], (sbq166 s n d a11 a9)⟩) (by kernel_rfl) (by kernel_rfl) ?_
  refine EL.ret ?_
  refine ⟨.inr rfl, ⟨[(4, VI 0)], (sbq169 s n d a11 a9)⟩, norm_le (live := [4]) (src := [.old 0 false, .old 1 false, .old 2 false, .old 3 false, .old 4 true, .old 5 true, .old 6 true, .old 7 false, .old 8 false, .old 9 false, .old 10 false, .old 11 true, .old 12 false, .old 14 true]) (es := []) (by kernel_rfl) ⟨pucZ s.first (by kernel_rfl), pucZ (List.set s.second (0 + Int.toNat a11.block) a11.data) (by kernel_rfl), pu 2 Record.cs s.log (by kernel_rfl) (by intro y; kernel_rfl), pucI (List.eraseIdx s.there (Int.toNat n)) (by kernel_rfl), pucI (s.back ++ ([a9])) (by kernel_rfl), trivial⟩, by kernel_rfl, rfl⟩
  refine DW.last 1 [4] (x' := ⟨[(4, VI 0)], (sbq169 s n d a11 a9)⟩) (by kernel_rfl) (by kernel_rfl) ?_
  refine EL.ret ?_
  refine ⟨.inr rfl, ⟨[(4, VI 0)], (sbq171 s n d a11 a9)⟩, norm_le (live := [4]) (src := [.old 0 false, .old 1 false, .old 2 false, .old 3 false, .old 4 true, .old 5 true, .old 6 true, .old 7 false, .old 8 false, .old 9 false, .old 11 true, .old 13 true]) (es := []) (by kernel_rfl) ⟨pucZ s.first (by kernel_rfl), pucZ (List.set s.second (0 + Int.toNat a11.block) a11.data) (by kernel_rfl), pu 2 Record.cs s.log (by kernel_rfl) (by intro y; kernel_rfl), pucI (List.eraseIdx s.there (Int.toNat n)) (by kernel_rfl), pucI (s.back ++ ([a9])) (by kernel_rfl), trivial⟩, by kernel_rfl, rfl⟩
  refine OW.end 1 (x' := ⟨(9, VI 0) :: (23, VI 0) :: (sbq130 n d), (sbq171 s n d a11 a9)⟩) (by kernel_rfl) (by kernel_rfl) ?_
  refine inBlk_norm ?_
  refine thenL_norm ?_
  refine EL.seq ?_
  refine EL.sreg ?_
  refine OW.last 2 [4, 6, 9, 44] (x' := ⟨sbq104, (sbq171 s n d a11 a9)⟩) (by kernel_rfl) (by kernel_rfl) ?_
  refine EL.condF (by kernel_rfl) ?_
  refine EL.skip ?_
  refine thenL_norm ?_
  refine EL.sreg ?_
  refine OW.last 6 [4, 5] (x' := ⟨[(5, VI 0), (4, .ref 2 8 0 0)], (sbq186 s n d a9 a11)⟩) (by kernel_rfl) (by kernel_rfl) ?_
  refine EL.ret ?_
  refine ⟨.inr rfl, .tup [(sbq188 s a11 a9 n), VI 0], run_snap (r0 := .tup [(sbq187 s a9 n), VI 0]) (by kernel_rfl) (snapR_tup (snapAs_cons (snapA_agg (snapL_cons (snap1_map cZ s.first (by kernel_rfl) (by intro y; kernel_rfl) (by simp)) (snapL_cons (snap1_map cZ (List.set s.second (0 + Int.toNat a11.block) a11.data) (by kernel_rfl) (by intro y; kernel_rfl) (by simp)) (snapL_cons (snap1_map Record.cs s.log (by kernel_rfl) (by intro y; kernel_rfl) (by simp)) (snapL_cons (by kernel_rfl) (snapL_cons (by kernel_rfl) (snapL_cons (by kernel_rfl) (snapL_cons (snap1_map cI (List.eraseIdx s.there (Int.toNat n)) (by kernel_rfl) (by intro y; kernel_rfl) (by simp)) (snapL_cons (snap1_map cI (s.back ++ ([a9])) (by kernel_rfl) (by intro y; kernel_rfl) (by simp)) (rfl)))))))))) (snapAs_cons (by kernel_rfl) (snapAs_nil)))), Ale.of_eq ?_⟩
  focus (skip; clear ee tt bb; rw [Ship.step_3]; split <;> first | rfl | contradiction | (simp only [Ship.passP, wi_iff]; rw [‹s.there[n.toNat]? = some _›]; (repeat' split) <;> first | rfl | (exfalso; omega) | (simp; done) | (simp; omega) | (simp_all; done) | (simp_all; omega)))
  try rw [h10]
  have g10 : ¬ (a9 = (s.applied + 1)) := by simpa using h10
  rcases Bool.eq_false_or_eq_true (((List.length s.back : Int) == 60)) with h22 | h22
  try rw [h22]
  have g22 : ((List.length s.back : Int) = 60) := by simpa using h22
  have n22 : ((List.length s.back) = 60) := by omega
  refine OW.fi (ar := [.ref 9 8 0 0, .agg [VI 3, VI n, .v (.string d)]]) (r := VI 2) (m' := (sbq174 s n d)) (x' := ⟨(23, VI 2) :: (sbq130 n d), (sbq174 s n d)⟩) (by kernel_rfl) (by kernel_rfl) F75_call ?_ (by kernel_rfl) ?_
  refine fi_walkW F75_ok (of_decide_eq_true (by kernel_rfl)) ?_
  refine EL.sreg ?_
  refine OW.last 2 [0, 3] (x' := ⟨[(3, .ref 10 3 0 0), (0, .ref 9 8 0 0)], (sbq131 s n d)⟩) (by kernel_rfl) (by kernel_rfl) ?_
  refine EL.sdraw ?_
  refine DW.run 6 (x' := ⟨(sbq132 n), (sbq131 s n d)⟩) (by kernel_rfl) ?_
  refine DW.fi (ar := [.ref 9 8 0 6, VI n]) (r := .tup [VI a9, VI 0]) (m' := (sbq143 s n d)) (x' := ⟨(15, .tup [VI a9, VI 0]) :: (sbq132 n), (sbq143 s n d)⟩) (by kernel_rfl) (by kernel_rfl) F83_call ?_ (by kernel_rfl) (by kernel_rfl) (by kernel_rfl) ?_
  refine fi_walkW F83_ok (of_decide_eq_true (by kernel_rfl)) ?_
  refine EL.sreg ?_
  refine OW.last 2 [0, 1] (x' := ⟨[(0, .ref 9 8 0 6), (1, VI n)], (sbq131 s n d)⟩) (by kernel_rfl) (by kernel_rfl) ?_
  refine EL.seq ?_
  refine EL.sreg ?_
  refine OW.run 6 (x' := ⟨(12, VI (IntKind.i64.wrap ((List.length s.there : Int) - 1))) :: (sbq133 s n), (sbq131 s n d)⟩) (by kernel_rfl) ?_
  have e23 : IntKind.i64.wrap ((List.length s.there : Int) - 1) = (List.length s.there : Int) - 1 := wr64 (by omega)
  rw [e23]
  refine OW.fn (ar := [VI n, VI 0, VI ((List.length s.there : Int) - 1)]) (x' := ⟨(13, .v (.bool (wi n 0 ((List.length s.there : Int) - 1)))) :: (sbq134 s n), (sbq131 s n d)⟩) (by kernel_rfl) (by kernel_rfl) F31_call (within_fn n 0 ((List.length s.there : Int) - 1)) (by kernel_rfl) (by kernel_rfl) ?_
  refine OW.last 1 [0, 1, 14] (x' := ⟨[(14, .v (.bool (!(wi n 0 ((List.length s.there : Int) - 1))))), (0, .ref 9 8 0 6), (1, VI n)], (sbq131 s n d)⟩) (by kernel_rfl) (by kernel_rfl) ?_
  rw [h8]
  refine EL.condF (by kernel_rfl) ?_
  refine EL.skip ?_
  refine thenL_norm ?_
  refine EL.sreg ?_
  refine OW.run 4 (x' := ⟨(sbq135 n s), (sbq131 s n d)⟩) (by kernel_rfl) ?_
  refine OW.ope (v := .ref 7 1 (0 + Int.toNat n) 0) (u := []) (acc := [7]) (x' := ⟨(19, .ref 7 1 (0 + Int.toNat n) 0) :: (sbq135 n s), (sbq131 s n d)⟩) (by kernel_rfl) (opE_iado (.s 17) (.s 18) 1 7 0 (List.length s.there) .i64 n ⟨1, (s.there.map cI)⟩ (by kernel_rfl) (by kernel_rfl) rfl rfl ⟨by omega, by omega⟩ (by kernel_rfl)) (by kernel_rfl) ?_
  refine OW.ope (v := VI a9) (u := []) (acc := [7]) (x' := ⟨(sbq136 a9 n s), (sbq131 s n d)⟩) (by kernel_rfl) (opE_ldoS cI s.there none (.s 19) 7 1 (0 + Int.toNat n) 0 a9 (VI a9) (by kernel_rfl) (by kernel_rfl) rfl (by kernel_rfl) (by simpa using ha9) (by kernel_rfl)) (by kernel_rfl) ?_
  refine OW.last 1 [0, 1, 6] (x' := ⟨[(6, VI a9), (0, .ref 9 8 0 6), (1, VI n)], (sbq131 s n d)⟩) (by kernel_rfl) (by kernel_rfl) ?_
  refine EL.sreg ?_
  refine OW.run 7 (x' := ⟨(27, VI (IntKind.i64.wrap (n + 1))) :: (sbq137 n s a9), (sbq131 s n d)⟩) (by kernel_rfl) ?_
  have e24 : IntKind.i64.wrap (n + 1) = n + 1 := wr64 (by omega)
  rw [e24]
  refine OW.fi (ar := [.own 7 1 0 (List.length s.there), VI n, VI (n + 1)]) (r := .own 12 1 0 (List.length (List.eraseIdx s.there (Int.toNat n)))) (m' := (sbq138 s n d)) (x' := ⟨(sbq139 s n a9), (sbq138 s n d)⟩) (by kernel_rfl) (by kernel_rfl) F84_call (delete_map (fe := cI) (xs := s.there) (m := (sbq131 s n d)) (id := 7) (by_ := 8) (zs := [VI 0]) (F84_ok.trans (by kernel_rfl)) rfl (by kernel_rfl) (by omega) (by omega) (by omega)) (by kernel_rfl) ?_
  refine OW.last 2 [6] (x' := ⟨[(6, VI a9)], (sbq141 s n d)⟩) (by kernel_rfl) (by kernel_rfl) ?_
  refine EL.sreg ?_
  refine OW.last 3 [4, 5] (x' := ⟨[(5, VI 0), (4, VI a9)], (sbq141 s n d)⟩) (by kernel_rfl) (by kernel_rfl) ?_
  refine EL.ret ?_
  refine ⟨.inr rfl, ⟨[(4, VI a9), (5, VI 0)], (sbq143 s n d)⟩, norm_le (live := [4, 5]) (src := [.old 0 false, .old 1 false, .old 2 false, .old 3 false, .old 4 true, .old 5 true, .old 6 true, .old 7 false, .old 8 true, .old 9 false, .old 10 false, .old 12 true]) (es := []) (by kernel_rfl) ⟨pucZ s.first (by kernel_rfl), pucZ s.second (by kernel_rfl), pu 2 Record.cs s.log (by kernel_rfl) (by intro y; kernel_rfl), pucI s.back (by kernel_rfl), pucI (List.eraseIdx s.there (Int.toNat n)) (by kernel_rfl), trivial⟩, by kernel_rfl, rfl⟩
  refine DW.last 5 [0, 5, 6] (x' := ⟨[(6, VI 0), (5, VI a9), (0, .ref 9 8 0 0)], (sbq143 s n d)⟩) (by kernel_rfl) (by kernel_rfl) ?_
  refine EL.seq ?_
  refine EL.sreg ?_
  refine OW.last 2 [0, 5, 6, 19] (x' := ⟨(sbq144 a9), (sbq143 s n d)⟩) (by kernel_rfl) (by kernel_rfl) ?_
  refine EL.condF (by kernel_rfl) ?_
  refine EL.skip ?_
  refine thenL_norm ?_
  refine EL.seq ?_
  refine EL.sreg ?_
  refine OW.run 8 (x' := ⟨(28, .v (.bool (a9 == IntKind.i64.wrap (s.applied + 1)))) :: (27, VI (IntKind.i64.wrap (s.applied + 1))) :: (sbq145 s a9), (sbq143 s n d)⟩) (by kernel_rfl) ?_
  have e25 : IntKind.i64.wrap (s.applied + 1) = s.applied + 1 := wr64 (by omega)
  rw [e25]
  refine OW.last 0 [0, 5, 28] (x' := ⟨[(28, .v (.bool (a9 == (s.applied + 1)))), (5, VI a9), (0, .ref 9 8 0 0)], (sbq143 s n d)⟩) (by kernel_rfl) (by kernel_rfl) ?_
  rw [h10]
  refine EL.condF (by kernel_rfl) ?_
  refine EL.skip ?_
  refine thenL_norm ?_
  refine EL.sdraw ?_
  refine DW.run 9 (x' := ⟨(sbq172 s a9), (sbq143 s n d)⟩) (by kernel_rfl) ?_
  refine DW.fi (ar := [.ref 9 8 0 7, VI s.applied]) (r := VI 2) (m' := (sbq143 s n d)) (x' := ⟨(62, VI 2) :: (sbq172 s a9), (sbq143 s n d)⟩) (by kernel_rfl) (by kernel_rfl) F82_call ?_ (by kernel_rfl) (by kernel_rfl) (by kernel_rfl) ?_
  refine fi_walkW F82_ok (of_decide_eq_true (by kernel_rfl)) ?_
  refine EL.sreg ?_
  refine OW.last 1 [0, 1] (x' := ⟨[(0, .ref 9 8 0 7), (1, VI s.applied)], (sbq143 s n d)⟩) (by kernel_rfl) (by kernel_rfl) ?_
  refine EL.seq ?_
  refine EL.sreg ?_
  refine OW.last 5 [0, 1, 9] (x' := ⟨[(9, .v (.bool ((List.length s.back : Int) == 60))), (0, .ref 9 8 0 7), (1, VI s.applied)], (sbq143 s n d)⟩) (by kernel_rfl) (by kernel_rfl) ?_
  rw [h22]
  refine EL.condT (by kernel_rfl) ?_
  refine EL.sreg ?_
  refine OW.last 1 [4] (x' := ⟨[(4, VI 2)], (sbq143 s n d)⟩) (by kernel_rfl) (by kernel_rfl) ?_
  refine EL.ret ?_
  refine thenL_ret ?_
  refine ⟨.inr rfl, ⟨[(4, VI 2)], (sbq143 s n d)⟩, norm_le (live := [4]) (src := [.old 0 false, .old 1 false, .old 2 false, .old 3 false, .old 4 true, .old 5 true, .old 6 true, .old 7 false, .old 8 true, .old 9 false, .old 10 false, .old 11 true]) (es := []) (by kernel_rfl) ⟨pucZ s.first (by kernel_rfl), pucZ s.second (by kernel_rfl), pu 2 Record.cs s.log (by kernel_rfl) (by intro y; kernel_rfl), pucI s.back (by kernel_rfl), pucI (List.eraseIdx s.there (Int.toNat n)) (by kernel_rfl), trivial⟩, by kernel_rfl, rfl⟩
  refine DW.last 1 [4] (x' := ⟨[(4, VI 2)], (sbq143 s n d)⟩) (by kernel_rfl) (by kernel_rfl) ?_
  refine EL.ret ?_
  refine ⟨.inr rfl, ⟨[(4, VI 2)], (sbq174 s n d)⟩, norm_le (live := [4]) (src := [.old 0 false, .old 1 false, .old 2 false, .old 3 false, .old 4 true, .old 5 true, .old 6 true, .old 7 false, .old 8 true, .old 9 false, .old 11 true]) (es := []) (by kernel_rfl) ⟨pucZ s.first (by kernel_rfl), pucZ s.second (by kernel_rfl), pu 2 Record.cs s.log (by kernel_rfl) (by intro y; kernel_rfl), pucI s.back (by kernel_rfl), pucI (List.eraseIdx s.there (Int.toNat n)) (by kernel_rfl), trivial⟩, by kernel_rfl, rfl⟩
  refine OW.end 1 (x' := ⟨(9, VI 2) :: (23, VI 2) :: (sbq130 n d), (sbq174 s n d)⟩) (by kernel_rfl) (by kernel_rfl) ?_
  refine inBlk_norm ?_
  refine thenL_norm ?_
  refine EL.seq ?_
  refine EL.sreg ?_
  refine OW.last 2 [4, 6, 9, 44] (x' := ⟨sbq103, (sbq174 s n d)⟩) (by kernel_rfl) (by kernel_rfl) ?_
  refine EL.condT (by kernel_rfl) ?_
  refine EL.sreg ?_
  refine OW.last 4 [4, 5] (x' := ⟨[(5, VI 2), (4, .ref 2 8 0 0)], (sbq174 s n d)⟩) (by kernel_rfl) (by kernel_rfl) ?_
  refine EL.ret ?_
  refine thenL_ret ?_
  refine ⟨.inr rfl, .tup [.agg [.emp, .emp, .emp, VI 0, VI 0, VI 0, .emp, .emp], VI 2], by kernel_rfl, Ale.trans (b := .tup [sbq55, VI 2]) (Ale.tup (.cons (Ale.agg (.cons (Ale.emp) (.cons (Ale.emp) (.cons (Ale.emp) (.cons (Ale.refl) (.cons (Ale.refl) (.cons (Ale.refl) (.cons (Ale.emp) (.cons (Ale.emp) (.nil)))))))))) (.cons (Ale.refl) (.nil)))) (Ale.of_eq ?_)⟩
  focus (skip; clear ee tt bb; rw [Ship.step_3]; split <;> first | rfl | contradiction | (simp only [Ship.passP, wi_iff]; rw [‹s.there[n.toNat]? = some _›]; (repeat' split) <;> first | rfl | (exfalso; omega) | (simp; done) | (simp; omega) | (simp_all; done) | (simp_all; omega)))
  try rw [h22]
  have g22 : ¬ ((List.length s.back : Int) = 60) := by simpa using h22
  have n22 : ¬ ((List.length s.back) = 60) := by omega
  refine OW.fi (ar := [.ref 9 8 0 0, .agg [VI 3, VI n, .v (.string d)]]) (r := VI 0) (m' := (sbq184 s n d)) (x' := ⟨(23, VI 0) :: (sbq130 n d), (sbq184 s n d)⟩) (by kernel_rfl) (by kernel_rfl) F75_call ?_ (by kernel_rfl) ?_
  refine fi_walkW F75_ok (of_decide_eq_true (by kernel_rfl)) ?_
  refine EL.sreg ?_
  refine OW.last 2 [0, 3] (x' := ⟨[(3, .ref 10 3 0 0), (0, .ref 9 8 0 0)], (sbq131 s n d)⟩) (by kernel_rfl) (by kernel_rfl) ?_
  refine EL.sdraw ?_
  refine DW.run 6 (x' := ⟨(sbq132 n), (sbq131 s n d)⟩) (by kernel_rfl) ?_
  refine DW.fi (ar := [.ref 9 8 0 6, VI n]) (r := .tup [VI a9, VI 0]) (m' := (sbq143 s n d)) (x' := ⟨(15, .tup [VI a9, VI 0]) :: (sbq132 n), (sbq143 s n d)⟩) (by kernel_rfl) (by kernel_rfl) F83_call ?_ (by kernel_rfl) (by kernel_rfl) (by kernel_rfl) ?_
  refine fi_walkW F83_ok (of_decide_eq_true (by kernel_rfl)) ?_
  refine EL.sreg ?_
  refine OW.last 2 [0, 1] (x' := ⟨[(0, .ref 9 8 0 6), (1, VI n)], (sbq131 s n d)⟩) (by kernel_rfl) (by kernel_rfl) ?_
  refine EL.seq ?_
  refine EL.sreg ?_
  refine OW.run 6 (x' := ⟨(12, VI (IntKind.i64.wrap ((List.length s.there : Int) - 1))) :: (sbq133 s n), (sbq131 s n d)⟩) (by kernel_rfl) ?_
  have e26 : IntKind.i64.wrap ((List.length s.there : Int) - 1) = (List.length s.there : Int) - 1 := wr64 (by omega)
  rw [e26]
  refine OW.fn (ar := [VI n, VI 0, VI ((List.length s.there : Int) - 1)]) (x' := ⟨(13, .v (.bool (wi n 0 ((List.length s.there : Int) - 1)))) :: (sbq134 s n), (sbq131 s n d)⟩) (by kernel_rfl) (by kernel_rfl) F31_call (within_fn n 0 ((List.length s.there : Int) - 1)) (by kernel_rfl) (by kernel_rfl) ?_
  refine OW.last 1 [0, 1, 14] (x' := ⟨[(14, .v (.bool (!(wi n 0 ((List.length s.there : Int) - 1))))), (0, .ref 9 8 0 6), (1, VI n)], (sbq131 s n d)⟩) (by kernel_rfl) (by kernel_rfl) ?_
  rw [h8]
  refine EL.condF (by kernel_rfl) ?_
  refine EL.skip ?_
  refine thenL_norm ?_
  refine EL.sreg ?_
  refine OW.run 4 (x' := ⟨(sbq135 n s), (sbq131 s n d)⟩) (by kernel_rfl) ?_
  refine OW.ope (v := .ref 7 1 (0 + Int.toNat n) 0) (u := []) (acc := [7]) (x' := ⟨(19, .ref 7 1 (0 + Int.toNat n) 0) :: (sbq135 n s), (sbq131 s n d)⟩) (by kernel_rfl) (opE_iado (.s 17) (.s 18) 1 7 0 (List.length s.there) .i64 n ⟨1, (s.there.map cI)⟩ (by kernel_rfl) (by kernel_rfl) rfl rfl ⟨by omega, by omega⟩ (by kernel_rfl)) (by kernel_rfl) ?_
  refine OW.ope (v := VI a9) (u := []) (acc := [7]) (x' := ⟨(sbq136 a9 n s), (sbq131 s n d)⟩) (by kernel_rfl) (opE_ldoS cI s.there none (.s 19) 7 1 (0 + Int.toNat n) 0 a9 (VI a9) (by kernel_rfl) (by kernel_rfl) rfl (by kernel_rfl) (by simpa using ha9) (by kernel_rfl)) (by kernel_rfl) ?_
  refine OW.last 1 [0, 1, 6] (x' := ⟨[(6, VI a9), (0, .ref 9 8 0 6), (1, VI n)], (sbq131 s n d)⟩) (by kernel_rfl) (by kernel_rfl) ?_
  refine EL.sreg ?_
  refine OW.run 7 (x' := ⟨(27, VI (IntKind.i64.wrap (n + 1))) :: (sbq137 n s a9), (sbq131 s n d)⟩) (by kernel_rfl) ?_
  have e27 : IntKind.i64.wrap (n + 1) = n + 1 := wr64 (by omega)
  rw [e27]
  refine OW.fi (ar := [.own 7 1 0 (List.length s.there), VI n, VI (n + 1)]) (r := .own 12 1 0 (List.length (List.eraseIdx s.there (Int.toNat n)))) (m' := (sbq138 s n d)) (x' := ⟨(sbq139 s n a9), (sbq138 s n d)⟩) (by kernel_rfl) (by kernel_rfl) F84_call (delete_map (fe := cI) (xs := s.there) (m := (sbq131 s n d)) (id := 7) (by_ := 8) (zs := [VI 0]) (F84_ok.trans (by kernel_rfl)) rfl (by kernel_rfl) (by omega) (by omega) (by omega)) (by kernel_rfl) ?_
  refine OW.last 2 [6] (x' := ⟨[(6, VI a9)], (sbq141 s n d)⟩) (by kernel_rfl) (by kernel_rfl) ?_
  refine EL.sreg ?_
  refine OW.last 3 [4, 5] (x' := ⟨[(5, VI 0), (4, VI a9)], (sbq141 s n d)⟩) (by kernel_rfl) (by kernel_rfl) ?_
  refine EL.ret ?_
  refine ⟨.inr rfl, ⟨[(4, VI a9), (5, VI 0)], (sbq143 s n d)⟩, norm_le (live := [4, 5]) (src := [.old 0 false, .old 1 false, .old 2 false, .old 3 false, .old 4 true, .old 5 true, .old 6 true, .old 7 false, .old 8 true, .old 9 false, .old 10 false, .old 12 true]) (es := []) (by kernel_rfl) ⟨pucZ s.first (by kernel_rfl), pucZ s.second (by kernel_rfl), pu 2 Record.cs s.log (by kernel_rfl) (by intro y; kernel_rfl), pucI s.back (by kernel_rfl), pucI (List.eraseIdx s.there (Int.toNat n)) (by kernel_rfl), trivial⟩, by kernel_rfl, rfl⟩
  refine DW.last 5 [0, 5, 6] (x' := ⟨[(6, VI 0), (5, VI a9), (0, .ref 9 8 0 0)], (sbq143 s n d)⟩) (by kernel_rfl) (by kernel_rfl) ?_
  refine EL.seq ?_
  refine EL.sreg ?_
  refine OW.last 2 [0, 5, 6, 19] (x' := ⟨(sbq144 a9), (sbq143 s n d)⟩) (by kernel_rfl) (by kernel_rfl) ?_
  refine EL.condF (by kernel_rfl) ?_
  refine EL.skip ?_
  refine thenL_norm ?_
  refine EL.seq ?_
  refine EL.sreg ?_
  refine OW.run 8 (x' := ⟨(28, .v (.bool (a9 == IntKind.i64.wrap (s.applied + 1)))) :: (27, VI (IntKind.i64.wrap (s.applied + 1))) :: (sbq145 s a9), (sbq143 s n d)⟩) (by kernel_rfl) ?_
  have e28 : IntKind.i64.wrap (s.applied + 1) = s.applied + 1 := wr64 (by omega)
  rw [e28]
  refine OW.last 0 [0, 5, 28] (x' := ⟨[(28, .v (.bool (a9 == (s.applied + 1)))), (5, VI a9), (0, .ref 9 8 0 0)], (sbq143 s n d)⟩) (by kernel_rfl) (by kernel_rfl) ?_
  rw [h10]
  refine EL.condF (by kernel_rfl) ?_
  refine EL.skip ?_
  refine thenL_norm ?_
  refine EL.sdraw ?_
  refine DW.run 9 (x' := ⟨(sbq172 s a9), (sbq143 s n d)⟩) (by kernel_rfl) ?_
  refine DW.fi (ar := [.ref 9 8 0 7, VI s.applied]) (r := VI 0) (m' := (sbq182 s n d)) (x' := ⟨(62, VI 0) :: (sbq172 s a9), (sbq182 s n d)⟩) (by kernel_rfl) (by kernel_rfl) F82_call ?_ (by kernel_rfl) (by kernel_rfl) (by kernel_rfl) ?_
  refine fi_walkW F82_ok (of_decide_eq_true (by kernel_rfl)) ?_
  refine EL.sreg ?_
  refine OW.last 1 [0, 1] (x' := ⟨[(0, .ref 9 8 0 7), (1, VI s.applied)], (sbq143 s n d)⟩) (by kernel_rfl) (by kernel_rfl) ?_
  refine EL.seq ?_
  refine EL.sreg ?_
  refine OW.last 5 [0, 1, 9] (x' := ⟨[(9, .v (.bool ((List.length s.back : Int) == 60))), (0, .ref 9 8 0 7), (1, VI s.applied)], (sbq143 s n d)⟩) (by kernel_rfl) (by kernel_rfl) ?_
  rw [h22]
  refine EL.condF (by kernel_rfl) ?_
  refine EL.skip ?_
  refine thenL_norm ?_
  refine EL.sreg ?_
  refine OW.run 6 (x' := ⟨(sbq176 s), (sbq175 s n d)⟩) (by kernel_rfl) ?_
  refine OW.ope (v := .own 13 1 0 (List.length (s.back ++ ([s.applied])))) (u := [(8, none), (13, some ⟨1, ((s.back ++ ([s.applied])).map cI)⟩)]) (acc := [12, 8]) (x' := ⟨(sbq178 s), (sbq177 s n d)⟩) (by kernel_rfl) (opE_appO cI s.back ([s.applied]) (.s 13) (.s 15) 1 8 8 (.own 12 1 0 1) _ (by kernel_rfl) (by kernel_rfl) rfl (by kernel_rfl) rfl (.own (els := [[VI s.applied]]) (by kernel_rfl) (by kernel_rfl) (of_decide_eq_true (by kernel_rfl))) (by simp; omega)) (by kernel_rfl) ?_
  refine OW.last 2 [] (x' := ⟨[], (sbq180 s n d)⟩) (by kernel_rfl) (by kernel_rfl) ?_
  refine EL.sreg ?_
  refine OW.last 1 [4] (x' := ⟨[(4, VI 0)], (sbq180 s n d)⟩) (by kernel_rfl) (by kernel_rfl) ?_
  refine EL.ret ?_
  refine ⟨.inr rfl, ⟨[(4, VI 0)], (sbq182 s n d)⟩, norm_le (live := [4]) (src := [.old 0 false, .old 1 false, .old 2 false, .old 3 false, .old 4 true, .old 5 true, .old 6 true, .old 7 false, .old 8 false, .old 9 false, .old 10 false, .old 11 true, .old 13 true]) (es := []) (by kernel_rfl) ⟨pucZ s.first (by kernel_rfl), pucZ s.second (by kernel_rfl), pu 2 Record.cs s.log (by kernel_rfl) (by intro y; kernel_rfl), pucI (List.eraseIdx s.there (Int.toNat n)) (by kernel_rfl), pucI (s.back ++ ([s.applied])) (by kernel_rfl), trivial⟩, by kernel_rfl, rfl⟩
  refine DW.last 1 [4] (x' := ⟨[(4, VI 0)], (sbq182 s n d)⟩) (by kernel_rfl) (by kernel_rfl) ?_
  refine EL.ret ?_
  refine ⟨.inr rfl, ⟨[(4, VI 0)], (sbq184 s n d)⟩, norm_le (live := [4]) (src := [.old 0 false, .old 1 false, .old 2 false, .old 3 false, .old 4 true, .old 5 true, .old 6 true, .old 7 false, .old 8 false, .old 9 false, .old 11 true, .old 12 true]) (es := []) (by kernel_rfl) ⟨pucZ s.first (by kernel_rfl), pucZ s.second (by kernel_rfl), pu 2 Record.cs s.log (by kernel_rfl) (by intro y; kernel_rfl), pucI (List.eraseIdx s.there (Int.toNat n)) (by kernel_rfl), pucI (s.back ++ ([s.applied])) (by kernel_rfl), trivial⟩, by kernel_rfl, rfl⟩
  refine OW.end 1 (x' := ⟨(9, VI 0) :: (23, VI 0) :: (sbq130 n d), (sbq184 s n d)⟩) (by kernel_rfl) (by kernel_rfl) ?_
  refine inBlk_norm ?_
  refine thenL_norm ?_
  refine EL.seq ?_
  refine EL.sreg ?_
  refine OW.last 2 [4, 6, 9, 44] (x' := ⟨sbq104, (sbq184 s n d)⟩) (by kernel_rfl) (by kernel_rfl) ?_
  refine EL.condF (by kernel_rfl) ?_
  refine EL.skip ?_
  refine thenL_norm ?_
  refine EL.sreg ?_
  refine OW.last 6 [4, 5] (x' := ⟨[(5, VI 0), (4, .ref 2 8 0 0)], (sbq189 s n d)⟩) (by kernel_rfl) (by kernel_rfl) ?_
  refine EL.ret ?_
  refine ⟨.inr rfl, .tup [(sbq191 s n), VI 0], run_snap (r0 := .tup [(sbq190 s n), VI 0]) (by kernel_rfl) (snapR_tup (snapAs_cons (snapA_agg (snapL_cons (snap1_map cZ s.first (by kernel_rfl) (by intro y; kernel_rfl) (by simp)) (snapL_cons (snap1_map cZ s.second (by kernel_rfl) (by intro y; kernel_rfl) (by simp)) (snapL_cons (snap1_map Record.cs s.log (by kernel_rfl) (by intro y; kernel_rfl) (by simp)) (snapL_cons (by kernel_rfl) (snapL_cons (by kernel_rfl) (snapL_cons (by kernel_rfl) (snapL_cons (snap1_map cI (List.eraseIdx s.there (Int.toNat n)) (by kernel_rfl) (by intro y; kernel_rfl) (by simp)) (snapL_cons (snap1_map cI (s.back ++ ([s.applied])) (by kernel_rfl) (by intro y; kernel_rfl) (by simp)) (rfl)))))))))) (snapAs_cons (by kernel_rfl) (snapAs_nil)))), Ale.of_eq ?_⟩
  focus (skip; clear ee tt bb; rw [Ship.step_3]; split <;> first | rfl | contradiction | (simp only [Ship.passP, wi_iff]; rw [‹s.there[n.toNat]? = some _›]; (repeat' split) <;> first | rfl | (exfalso; omega) | (simp; done) | (simp; omega) | (simp_all; done) | (simp_all; omega)))
  try rw [h8]
  have g8 : ¬ ((0 : Int) ≤ n ∧ (n : Int) ≤ ((List.length s.there : Int) - 1)) := fun hh => Bool.noConfusion ((wi_iff.2 hh).symm.trans h8)
  refine OW.fi (ar := [.ref 9 8 0 0, .agg [VI 3, VI n, .v (.string d)]]) (r := VI 3) (m' := (sbq119 s n d)) (x' := ⟨(23, VI 3) :: (sbq130 n d), (sbq119 s n d)⟩) (by kernel_rfl) (by kernel_rfl) F75_call ?_ (by kernel_rfl) ?_
  refine fi_walkW F75_ok (of_decide_eq_true (by kernel_rfl)) ?_
  refine EL.sreg ?_
  refine OW.last 2 [0, 3] (x' := ⟨[(3, .ref 10 3 0 0), (0, .ref 9 8 0 0)], (sbq131 s n d)⟩) (by kernel_rfl) (by kernel_rfl) ?_
  refine EL.sdraw ?_
  refine DW.run 6 (x' := ⟨(sbq132 n), (sbq131 s n d)⟩) (by kernel_rfl) ?_
  refine DW.fi (ar := [.ref 9 8 0 6, VI n]) (r := .tup [VI 0, VI 3]) (m' := (sbq131 s n d)) (x' := ⟨(15, .tup [VI 0, VI 3]) :: (sbq132 n), (sbq131 s n d)⟩) (by kernel_rfl) (by kernel_rfl) F83_call ?_ (by kernel_rfl) (by kernel_rfl) (by kernel_rfl) ?_
  refine fi_walkW F83_ok (of_decide_eq_true (by kernel_rfl)) ?_
  refine EL.sreg ?_
  refine OW.last 2 [0, 1] (x' := ⟨[(0, .ref 9 8 0 6), (1, VI n)], (sbq131 s n d)⟩) (by kernel_rfl) (by kernel_rfl) ?_
  refine EL.seq ?_
  refine EL.sreg ?_
  refine OW.run 6 (x' := ⟨(12, VI (IntKind.i64.wrap ((List.length s.there : Int) - 1))) :: (sbq133 s n), (sbq131 s n d)⟩) (by kernel_rfl) ?_
  have e29 : IntKind.i64.wrap ((List.length s.there : Int) - 1) = (List.length s.there : Int) - 1 := wr64 (by omega)
  rw [e29]
  refine OW.fn (ar := [VI n, VI 0, VI ((List.length s.there : Int) - 1)]) (x' := ⟨(13, .v (.bool (wi n 0 ((List.length s.there : Int) - 1)))) :: (sbq134 s n), (sbq131 s n d)⟩) (by kernel_rfl) (by kernel_rfl) F31_call (within_fn n 0 ((List.length s.there : Int) - 1)) (by kernel_rfl) (by kernel_rfl) ?_
  refine OW.last 1 [0, 1, 14] (x' := ⟨[(14, .v (.bool (!(wi n 0 ((List.length s.there : Int) - 1))))), (0, .ref 9 8 0 6), (1, VI n)], (sbq131 s n d)⟩) (by kernel_rfl) (by kernel_rfl) ?_
  rw [h8]
  refine EL.condT (by kernel_rfl) ?_
  refine EL.sreg ?_
  refine OW.last 2 [4, 5] (x' := ⟨[(5, VI 3), (4, VI 0)], (sbq131 s n d)⟩) (by kernel_rfl) (by kernel_rfl) ?_
  refine EL.ret ?_
  refine thenL_ret ?_
  refine ⟨.inr rfl, ⟨[(4, VI 0), (5, VI 3)], (sbq131 s n d)⟩, norm_le (live := [4, 5]) (src := [.old 0 false, .old 1 false, .old 2 false, .old 3 false, .old 4 true, .old 5 true, .old 6 true, .old 7 true, .old 8 true, .old 9 false, .old 10 false]) (es := []) (by kernel_rfl) ⟨pucZ s.first (by kernel_rfl), pucZ s.second (by kernel_rfl), pu 2 Record.cs s.log (by kernel_rfl) (by intro y; kernel_rfl), pucI s.there (by kernel_rfl), pucI s.back (by kernel_rfl), trivial⟩, by kernel_rfl, rfl⟩
  refine DW.last 5 [0, 5, 6] (x' := ⟨[(6, VI 3), (5, VI 0), (0, .ref 9 8 0 0)], (sbq131 s n d)⟩) (by kernel_rfl) (by kernel_rfl) ?_
  refine EL.seq ?_
  refine EL.sreg ?_
  refine OW.last 2 [0, 5, 6, 19] (x' := ⟨sbq185, (sbq131 s n d)⟩) (by kernel_rfl) (by kernel_rfl) ?_
  refine EL.condT (by kernel_rfl) ?_
  refine EL.sreg ?_
  refine OW.last 2 [4] (x' := ⟨[(4, VI 3)], (sbq131 s n d)⟩) (by kernel_rfl) (by kernel_rfl) ?_
  refine EL.ret ?_
  refine thenL_ret ?_
  refine ⟨.inr rfl, ⟨[(4, VI 3)], (sbq119 s n d)⟩, norm_le (live := [4]) (src := [.old 0 false, .old 1 false, .old 2 false, .old 3 false, .old 4 true, .old 5 true, .old 6 true, .old 7 true, .old 8 true, .old 9 false]) (es := []) (by kernel_rfl) ⟨pucZ s.first (by kernel_rfl), pucZ s.second (by kernel_rfl), pu 2 Record.cs s.log (by kernel_rfl) (by intro y; kernel_rfl), pucI s.there (by kernel_rfl), pucI s.back (by kernel_rfl), trivial⟩, by kernel_rfl, rfl⟩
  refine OW.end 1 (x' := ⟨(9, VI 3) :: (23, VI 3) :: (sbq130 n d), (sbq119 s n d)⟩) (by kernel_rfl) (by kernel_rfl) ?_
  refine inBlk_norm ?_
  refine thenL_norm ?_
  refine EL.seq ?_
  refine EL.sreg ?_
  refine OW.last 2 [4, 6, 9, 44] (x' := ⟨sbq192, (sbq119 s n d)⟩) (by kernel_rfl) (by kernel_rfl) ?_
  refine EL.condT (by kernel_rfl) ?_
  refine EL.sreg ?_
  refine OW.last 4 [4, 5] (x' := ⟨[(5, VI 3), (4, .ref 2 8 0 0)], (sbq119 s n d)⟩) (by kernel_rfl) (by kernel_rfl) ?_
  refine EL.ret ?_
  refine thenL_ret ?_
  refine ⟨.inr rfl, .tup [.agg [.emp, .emp, .emp, VI 0, VI 0, VI 0, .emp, .emp], VI 3], by kernel_rfl, Ale.trans (b := .tup [sbq55, VI 3]) (Ale.tup (.cons (Ale.agg (.cons (Ale.emp) (.cons (Ale.emp) (.cons (Ale.emp) (.cons (Ale.refl) (.cons (Ale.refl) (.cons (Ale.refl) (.cons (Ale.emp) (.cons (Ale.emp) (.nil)))))))))) (.cons (Ale.refl) (.nil)))) (Ale.of_eq ?_)⟩
  focus (skip; clear ee tt bb; rw [Ship.step_3]; split <;> first | rfl | contradiction | (simp only [Ship.passP, wi_iff]; (repeat' split) <;> first | rfl | (exfalso; omega) | (simp; done) | (simp; omega) | (simp_all; done) | (simp_all; omega)))
  have g7 : ¬ (d = (⟨#[]⟩)) := fun hh => Bool.noConfusion ((strEq_iff.2 hh).symm.trans h7)
  refine EL.condT (by kernel_rfl) ?_
  refine EL.reg0 ?_
  refine OW.end 1 (x' := ⟨(9, VI 1) :: sbq129, (sbq119 s n d)⟩) (by kernel_rfl) (by kernel_rfl) ?_
  refine inBlk_norm ?_
  refine thenL_norm ?_
  refine EL.seq ?_
  refine EL.sreg ?_
  refine OW.last 2 [4, 6, 9, 44] (x' := ⟨sbq101, (sbq119 s n d)⟩) (by kernel_rfl) (by kernel_rfl) ?_
  refine EL.condT (by kernel_rfl) ?_
  refine EL.sreg ?_
  refine OW.last 4 [4, 5] (x' := ⟨[(5, VI 1), (4, .ref 2 8 0 0)], (sbq119 s n d)⟩) (by kernel_rfl) (by kernel_rfl) ?_
  refine EL.ret ?_
  refine thenL_ret ?_
  refine ⟨.inr rfl, .tup [.agg [.emp, .emp, .emp, VI 0, VI 0, VI 0, .emp, .emp], VI 1], by kernel_rfl, Ale.trans (b := .tup [sbq55, VI 1]) (Ale.tup (.cons (Ale.agg (.cons (Ale.emp) (.cons (Ale.emp) (.cons (Ale.emp) (.cons (Ale.refl) (.cons (Ale.refl) (.cons (Ale.refl) (.cons (Ale.emp) (.cons (Ale.emp) (.nil)))))))))) (.cons (Ale.refl) (.nil)))) (Ale.of_eq ?_)⟩
  focus (skip; rw [Ship.step_3, if_neg ‹_›]; rfl)
  try rw [h1]
  have g1 : ¬ ((1 : Int) ≤ 3 ∧ (3 : Int) ≤ 8) := fun hh => Bool.noConfusion ((wi_iff.2 hh).symm.trans h1)
  refine OW.fi (ar := [.ref 9 8 0 0, VI 3]) (r := .tup [.v (.nilFunc), .v (.bool false)]) (m' := (sbq119 s n d)) (x' := ⟨sbq193, (sbq119 s n d)⟩) (by kernel_rfl) (by kernel_rfl) F58_call ?_ (by kernel_rfl) ?_
  refine fi_walkW F58_ok (of_decide_eq_true (by kernel_rfl)) ?_
  refine EL.sreg ?_
  refine OW.last 2 [0, 1] (x' := ⟨[(0, .ref 9 8 0 0), (1, VI 3)], (sbq119 s n d)⟩) (by kernel_rfl) (by kernel_rfl) ?_
  refine EL.sreg ?_
  refine OW.last 19 [1, 6] (x' := ⟨[(6, .ref 10 9 0 0), (1, VI 3)], (sbq121 s n d)⟩) (by kernel_rfl) (by kernel_rfl) ?_
  refine EL.seq ?_
  refine EL.sreg ?_
  refine OW.run 1 (x' := ⟨[(24, VI 3), (6, .ref 10 9 0 0), (1, VI 3)], (sbq121 s n d)⟩) (by kernel_rfl) ?_
  refine OW.fn (ar := [VI 3, VI 1, VI 8]) (x' := ⟨[(25, .v (.bool (wi 3 1 8))), (24, VI 3), (6, .ref 10 9 0 0), (1, VI 3)], (sbq121 s n d)⟩) (by kernel_rfl) (by kernel_rfl) F31_call (within_fn 3 1 8) (by kernel_rfl) (by kernel_rfl) ?_
  refine OW.last 1 [1, 6, 26] (x' := ⟨[(26, .v (.bool (!(wi 3 1 8)))), (6, .ref 10 9 0 0), (1, VI 3)], (sbq121 s n d)⟩) (by kernel_rfl) (by kernel_rfl) ?_
  rw [h1]
  refine EL.condT (by kernel_rfl) ?_
  refine EL.sreg ?_
  refine OW.last 2 [4, 5] (x' := ⟨[(5, .v (.bool false)), (4, .v (.nilFunc))], (sbq121 s n d)⟩) (by kernel_rfl) (by kernel_rfl) ?_
  refine EL.ret ?_
  refine thenL_ret ?_
  refine ⟨.inr rfl, ⟨[(4, .v (.nilFunc)), (5, .v (.bool false))], (sbq119 s n d)⟩, norm_le (live := [4, 5]) (src := [.old 0 false, .old 1 false, .old 2 false, .old 3 false, .old 4 true, .old 5 true, .old 6 true, .old 7 true, .old 8 true, .old 9 false]) (es := []) (by kernel_rfl) ⟨pucZ s.first (by kernel_rfl), pucZ s.second (by kernel_rfl), pu 2 Record.cs s.log (by kernel_rfl) (by intro y; kernel_rfl), pucI s.there (by kernel_rfl), pucI s.back (by kernel_rfl), trivial⟩, by kernel_rfl, rfl⟩
  refine OW.last 5 [3, 4, 6, 7, 8] (x' := ⟨(8, .v (.bool false)) :: (7, .v (.nilFunc)) :: sbq24, (sbq119 s n d)⟩) (by kernel_rfl) (by kernel_rfl) ?_
  refine EL.sreg ?_
  refine OW.last 1 [3, 4, 6, 7, 8] (x' := ⟨(8, .v (.bool false)) :: (7, .v (.nilFunc)) :: sbq24, (sbq119 s n d)⟩) (by kernel_rfl) (by kernel_rfl) ?_
  refine EL.seq ?_
  refine EL.block ?_
  refine EL.sreg ?_
  refine OW.last 3 [3, 4, 6, 7, 8, 24] (x' := ⟨sbq60, (sbq119 s n d)⟩) (by kernel_rfl) (by kernel_rfl) ?_
  refine EL.condT (by kernel_rfl) ?_
  refine EL.reg0 ?_
  refine OW.end 1 (x' := ⟨(9, VI 7) :: sbq60, (sbq119 s n d)⟩) (by kernel_rfl) (by kernel_rfl) ?_
  refine inBlk_norm ?_
  refine thenL_norm ?_
  refine EL.seq ?_
  refine EL.sreg ?_
  refine OW.last 2 [4, 6, 9, 44] (x' := ⟨sbq61, (sbq119 s n d)⟩) (by kernel_rfl) (by kernel_rfl) ?_
  refine EL.condT (by kernel_rfl) ?_
  refine EL.sreg ?_
  refine OW.last 4 [4, 5] (x' := ⟨[(5, VI 7), (4, .ref 2 8 0 0)], (sbq119 s n d)⟩) (by kernel_rfl) (by kernel_rfl) ?_
  refine EL.ret ?_
  refine thenL_ret ?_
  refine ⟨.inr rfl, .tup [.agg [.emp, .emp, .emp, VI 0, VI 0, VI 0, .emp, .emp], VI 7], by kernel_rfl, Ale.trans (b := .tup [sbq55, VI 7]) (Ale.tup (.cons (Ale.agg (.cons (Ale.emp) (.cons (Ale.emp) (.cons (Ale.emp) (.cons (Ale.refl) (.cons (Ale.refl) (.cons (Ale.refl) (.cons (Ale.emp) (.cons (Ale.emp) (.nil)))))))))) (.cons (Ale.refl) (.nil)))) (Ale.of_eq ?_)⟩
  focus (skip; exfalso; omega)
end Go.Proofs.Ythdcanpbgaaneaa
