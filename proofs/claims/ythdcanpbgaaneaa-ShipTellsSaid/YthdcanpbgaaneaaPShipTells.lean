/- New, Check and Do return what the document says, errors included: the law ShipTells returns true. No condition. -/
import Derived.Test.YthdcanpbgaaneaaPShipF
import Derived.Test.YthdcanpbgaaneaaPShipL
import Derived.WalkKit
import Derived.Handy
import Derived.ProofKit
import Derived.OpenShut
import Derived.ShutString
import Derived.ChangeOld
import Derived.Below
import Derived.Lib.Hide
import Derived.WalkLawsBesides
import Derived.WalkSpells
import Derived.Deep.QuietTactic
import Derived.BigQuiet
import Derived.Outline
namespace Go.Proofs.Ythdcanpbgaaneaa
set_option linter.unusedSimpArgs false
set_option linter.unusedVariables false
open Go.ChangeShapes Go.WideShapes Go.ChangeAt Go.RowKit
open Go.ChangeMaps (open_string shut_string)
set_option maxRecDepth 100000
abbrev stq0 (s : Ship) : OB := some ⟨8, [[.lst 1 (s.first.map cZ), .lst 1 (s.second.map cZ), .lst 2 (s.log.map Record.cs), VI s.sent, VI s.applied, VI s.known, .lst 1 (s.there.map cI), .lst 1 (s.back.map cI)]]⟩
abbrev stq1 (s : Ship) (a : Act) : LB := [(stq0 s), some ⟨3, [[VI a.kind, VI a.n, .v (.string a.data)]]⟩]
abbrev stq2 (blocks : Int) : LS := [(5, .ref 1 3 0 0), (4, .ref 0 8 0 0), (0, VI blocks)]
abbrev stq3 (blocks : Int) : AV := .agg [.lst 1 ((((Ship.newP blocks).1).first).map cZ), .lst 1 ((((Ship.newP blocks).1).second).map cZ), .lst 2 ((((Ship.newP blocks).1).log).map Record.cs), VI (((Ship.newP blocks).1).sent), VI (((Ship.newP blocks).1).applied), VI (((Ship.newP blocks).1).known), .lst 1 ((((Ship.newP blocks).1).there).map cI), .lst 1 ((((Ship.newP blocks).1).back).map cI)]
abbrev stq4 (blocks : Int) : LS := (17, .tup [(stq3 blocks), VI ((Ship.newP blocks).2)]) :: (16, VI blocks) :: (stq2 blocks)
abbrev stq5 (blocks : Int) : OB := some ⟨8, [[.lst 1 ((((Ship.newP blocks).1).first).map cZ), .lst 1 ((((Ship.newP blocks).1).second).map cZ), .lst 2 ((((Ship.newP blocks).1).log).map Record.cs), VI (((Ship.newP blocks).1).sent), VI (((Ship.newP blocks).1).applied), VI (((Ship.newP blocks).1).known), .lst 1 ((((Ship.newP blocks).1).there).map cI), .lst 1 ((((Ship.newP blocks).1).back).map cI)]]⟩
abbrev stq6 (s : Ship) (a : Act) (blocks : Int) : LB := [(stq0 s), some ⟨3, [[VI a.kind, VI a.n, .v (.string a.data)]]⟩, (stq5 blocks)]
abbrev stq7 (blocks : Int) : LS := (8, VI ((Ship.newP blocks).2)) :: (7, .ref 2 8 0 0) :: (stq2 blocks)
abbrev stq8 (s : Ship) : AV := .agg [.lst 1 (s.first.map cZ), .lst 1 (s.second.map cZ), .lst 2 (s.log.map Record.cs), VI s.sent, VI s.applied, VI s.known, .lst 1 (s.there.map cI), .lst 1 (s.back.map cI)]
abbrev stq9 (a : Act) (s : Ship) (blocks : Int) : LS := (22, .agg [VI a.kind, VI a.n, .v (.string a.data)]) :: (21, (stq8 s)) :: (stq7 blocks)
abbrev stq10 (s : Ship) (a : Act) : AV := .agg [.lst 1 ((((s.doP a).1).first).map cZ), .lst 1 ((((s.doP a).1).second).map cZ), .lst 2 ((((s.doP a).1).log).map Record.cs), VI (((s.doP a).1).sent), VI (((s.doP a).1).applied), VI (((s.doP a).1).known), .lst 1 ((((s.doP a).1).there).map cI), .lst 1 ((((s.doP a).1).back).map cI)]
abbrev stq11 (s : Ship) (a : Act) (blocks : Int) : LS := (23, .tup [(stq10 s a), VI ((s.doP a).2)]) :: (stq9 a s blocks)
abbrev stq12 (s : Ship) (a : Act) : OB := some ⟨8, [[.lst 1 ((((s.doP a).1).first).map cZ), .lst 1 ((((s.doP a).1).second).map cZ), .lst 2 ((((s.doP a).1).log).map Record.cs), VI (((s.doP a).1).sent), VI (((s.doP a).1).applied), VI (((s.doP a).1).known), .lst 1 ((((s.doP a).1).there).map cI), .lst 1 ((((s.doP a).1).back).map cI)]]⟩
abbrev stq13 (s : Ship) (a : Act) (blocks : Int) : LB := [(stq0 s), some ⟨3, [[VI a.kind, VI a.n, .v (.string a.data)]]⟩, (stq5 blocks), (stq12 s a)]
abbrev stq14 (blocks : Int) (s : Ship) (a : Act) : LS := (27, VI blocks) :: (10, VI ((s.doP a).2)) :: (9, .ref 3 8 0 0) :: (stq7 blocks)
abbrev stq15 (blocks : Int) (s : Ship) (a : Act) : LS := (28, .tup [(stq3 blocks), VI ((Ship.newP blocks).2)]) :: (stq14 blocks s a)
abbrev stq16 (s : Ship) (a : Act) (blocks : Int) : LB := [(stq0 s), some ⟨3, [[VI a.kind, VI a.n, .v (.string a.data)]]⟩, (stq5 blocks), (stq12 s a), (stq5 blocks)]
abbrev stq17 (blocks : Int) (s : Ship) (a : Act) : LS := [(12, VI ((Ship.newP blocks).2)), (11, .ref 4 8 0 0), (10, VI ((s.doP a).2)), (9, .ref 3 8 0 0), (8, VI ((Ship.newP blocks).2)), (7, .ref 2 8 0 0), (5, .ref 1 3 0 0), (4, .ref 0 8 0 0)]
abbrev stq18 (a : Act) (s : Ship) (blocks : Int) : LS := (33, .agg [VI a.kind, VI a.n, .v (.string a.data)]) :: (32, (stq8 s)) :: (stq17 blocks s a)
abbrev stq19 (s : Ship) (a : Act) (blocks : Int) : LS := (34, .tup [(stq10 s a), VI ((s.doP a).2)]) :: (stq18 a s blocks)
abbrev stq20 (s : Ship) (a : Act) (blocks : Int) : LB := [(stq0 s), some ⟨3, [[VI a.kind, VI a.n, .v (.string a.data)]]⟩, (stq5 blocks), (stq12 s a), (stq5 blocks), (stq12 s a)]
abbrev stq21 (s : Ship) (a : Act) (blocks : Int) : LS := [(14, VI ((s.doP a).2)), (13, .ref 5 8 0 0), (12, VI ((Ship.newP blocks).2)), (11, .ref 4 8 0 0), (10, VI ((s.doP a).2)), (9, .ref 3 8 0 0), (8, VI ((Ship.newP blocks).2)), (7, .ref 2 8 0 0), (4, .ref 0 8 0 0)]
abbrev stq22 (blocks : Int) (s : Ship) (a : Act) : LS := (40, (stq3 blocks)) :: (39, (stq3 blocks)) :: (38, .v (.bool true)) :: (37, .v (.bool true)) :: (stq21 s a blocks)
abbrev stq23 (blocks : Int) (s : Ship) (a : Act) : LS := (45, VI ((Ship.newP blocks).2)) :: (44, VI ((Ship.newP blocks).2)) :: (43, .v (.bool true)) :: (42, .v (.bool true)) :: (41, .v (.bool true)) :: (stq22 blocks s a)
abbrev stq24 (s : Ship) (blocks : Int) (a : Act) : LS := (49, (stq8 s)) :: (48, .v (.bool true)) :: (47, .v (.bool true)) :: (46, .v (.bool true)) :: (stq23 blocks s a)
abbrev stq25 (s : Ship) (blocks : Int) (a : Act) : LS := (52, VI s.checkE) :: (51, (stq8 s)) :: (50, VI s.checkE) :: (stq24 s blocks a)
abbrev stq26 (s : Ship) (a : Act) (blocks : Int) : LS := (57, (stq10 s a)) :: (56, (stq10 s a)) :: (55, .v (.bool true)) :: (54, .v (.bool true)) :: (53, .v (.bool true)) :: (stq25 s blocks a)
theorem shipTells_fn (blocks : Int) (s : Ship) (a : Act) (hx : s.first.length ≤ 9223372036854775807 ∧ s.second.length ≤ 9223372036854775807 ∧ s.log.length ≤ 9223372036854775807 ∧ s.there.length ≤ 9223372036854775807 ∧ s.back.length ≤ 9223372036854775807) : Fn Try.prog 3 [VI blocks, .agg [.lst 1 (s.first.map cZ), .lst 1 (s.second.map cZ), .lst 2 (s.log.map Record.cs), VI s.sent, VI s.applied, VI s.known, .lst 1 (s.there.map cI), .lst 1 (s.back.map cI)], .agg [VI a.kind, VI a.n, .v (.string a.data)]] (.v (.bool true)) := by
  refine fn_walkW F3_ok (of_decide_eq_true (by kernel_rfl)) ?_
  refine EL.sreg ?_
  refine OW.last 3 [0, 4, 5] (x' := ⟨(stq2 blocks), (stq1 s a)⟩) (by kernel_rfl) (by kernel_rfl) ?_
  refine EL.sreg ?_
  refine OW.run 1 (x' := ⟨(16, VI blocks) :: (stq2 blocks), (stq1 s a)⟩) (by kernel_rfl) ?_
  refine OW.fn (ar := [VI blocks]) (x' := ⟨(stq4 blocks), (stq1 s a)⟩) (by kernel_rfl) (by kernel_rfl) F11_call (new_fn blocks) (by kernel_rfl) (by kernel_rfl) ?_
  refine OW.last 6 [0, 4, 5, 7, 8] (x' := ⟨(stq7 blocks), (stq6 s a blocks)⟩) (by kernel_rfl) (by kernel_rfl) ?_
  refine EL.sreg ?_
  refine OW.run 2 (x' := ⟨(stq9 a s blocks), (stq6 s a blocks)⟩) (by kernel_rfl) ?_
  refine OW.fn (ar := [(stq8 s), .agg [VI a.kind, VI a.n, .v (.string a.data)]]) (x' := ⟨(stq11 s a blocks), (stq6 s a blocks)⟩) (by kernel_rfl) (by kernel_rfl) F12_call (do_fn s a (by first | exact hx | exact Ship.new_big _ | exact Ship.run_big _ _ | exact Ship.do_big _ _ | exact Ship.sail_big _ _ | exact Ship.zero_big | exact Ship.Ok.big (by assumption) | omega)) (by kernel_rfl) (by kernel_rfl) ?_
  refine OW.last 6 [0, 4, 5, 7, 8, 9, 10] (x' := ⟨(10, VI ((s.doP a).2)) :: (9, .ref 3 8 0 0) :: (stq7 blocks), (stq13 s a blocks)⟩) (by kernel_rfl) (by kernel_rfl) ?_
  refine EL.sreg ?_
  refine OW.run 1 (x' := ⟨(stq14 blocks s a), (stq13 s a blocks)⟩) (by kernel_rfl) ?_
  refine OW.fn (ar := [VI blocks]) (x' := ⟨(stq15 blocks s a), (stq13 s a blocks)⟩) (by kernel_rfl) (by kernel_rfl) F13_call (rnew_fn blocks) (by kernel_rfl) (by kernel_rfl) ?_
  refine OW.last 6 [4, 5, 7, 8, 9, 10, 11, 12] (x' := ⟨(stq17 blocks s a), (stq16 s a blocks)⟩) (by kernel_rfl) (by kernel_rfl) ?_
  refine EL.sreg ?_
  refine OW.run 2 (x' := ⟨(stq18 a s blocks), (stq16 s a blocks)⟩) (by kernel_rfl) ?_
  refine OW.fn (ar := [(stq8 s), .agg [VI a.kind, VI a.n, .v (.string a.data)]]) (x' := ⟨(stq19 s a blocks), (stq16 s a blocks)⟩) (by kernel_rfl) (by kernel_rfl) F14_call (rdo_fn s a (by first | exact hx | exact Ship.new_big _ | exact Ship.run_big _ _ | exact Ship.do_big _ _ | exact Ship.sail_big _ _ | exact Ship.zero_big | exact Ship.Ok.big (by assumption) | omega)) (by kernel_rfl) (by kernel_rfl) ?_
  refine OW.last 6 [4, 7, 8, 9, 10, 11, 12, 13, 14] (x' := ⟨(stq21 s a blocks), (stq20 s a blocks)⟩) (by kernel_rfl) (by kernel_rfl) ?_
  refine EL.sdraw ?_
  refine DW.fn (ar := []) (x' := ⟨(37, .v (.bool true)) :: (stq21 s a blocks), (stq20 s a blocks)⟩) (by kernel_rfl) (by kernel_rfl) F15_call (begun_fn) (by kernel_rfl) (by kernel_rfl) ?_
  refine DW.run 3 (x' := ⟨(stq22 blocks s a), (stq20 s a blocks)⟩) (by kernel_rfl) ?_
  refine DW.fn (ar := [(stq3 blocks), (stq3 blocks)]) (x' := ⟨(41, .v (.bool (Ship.same ((Ship.newP blocks).1) ((Ship.newP blocks).1)))) :: (stq22 blocks s a), (stq20 s a blocks)⟩) (by kernel_rfl) (by kernel_rfl) F16_call (sameShip_fn ((Ship.newP blocks).1) ((Ship.newP blocks).1) (by first | exact hx | exact Ship.new_big _ | exact Ship.run_big _ _ | exact Ship.do_big _ _ | exact Ship.sail_big _ _ | exact Ship.zero_big | exact Ship.Ok.big (by assumption) | omega)) (by kernel_rfl) (by kernel_rfl) ?_
  refine DW.run 2 (x' := ⟨(43, .v (.bool (Ship.same ((Ship.newP blocks).1) ((Ship.newP blocks).1)))) :: (42, .v (.bool (Ship.same ((Ship.newP blocks).1) ((Ship.newP blocks).1)))) :: (41, .v (.bool (Ship.same ((Ship.newP blocks).1) ((Ship.newP blocks).1)))) :: (stq22 blocks s a), (stq20 s a blocks)⟩) (by kernel_rfl) ?_
  rcases Bool.eq_false_or_eq_true (Ship.same ((Ship.newP blocks).1) ((Ship.newP blocks).1)) with h1 | h1
  rw [h1]
  refine DW.run 5 (x' := ⟨(48, .v (.bool (((Ship.newP blocks).2) == (Ship.newP blocks).2))) :: (47, .v (.bool (((Ship.newP blocks).2) == (Ship.newP blocks).2))) :: (46, .v (.bool (((Ship.newP blocks).2) == (Ship.newP blocks).2))) :: (stq23 blocks s a), (stq20 s a blocks)⟩) (by kernel_rfl) ?_
  have h2 : (((Ship.newP blocks).2) == (Ship.newP blocks).2) = true := by simp [strEq_iff]
  rw [h2]
  refine DW.run 1 (x' := ⟨(stq24 s blocks a), (stq20 s a blocks)⟩) (by kernel_rfl) ?_
  refine DW.fn (ar := [(stq8 s)]) (x' := ⟨(50, VI s.checkE) :: (stq24 s blocks a), (stq20 s a blocks)⟩) (by kernel_rfl) (by kernel_rfl) F17_call (check_fn s (by first | exact hx | exact Ship.new_big _ | exact Ship.run_big _ _ | exact Ship.do_big _ _ | exact Ship.sail_big _ _ | exact Ship.zero_big | exact Ship.Ok.big (by assumption) | omega)) (by kernel_rfl) (by kernel_rfl) ?_
  refine DW.run 1 (x' := ⟨(51, (stq8 s)) :: (50, VI s.checkE) :: (stq24 s blocks a), (stq20 s a blocks)⟩) (by kernel_rfl) ?_
  refine DW.fn (ar := [(stq8 s)]) (x' := ⟨(stq25 s blocks a), (stq20 s a blocks)⟩) (by kernel_rfl) (by kernel_rfl) F18_call (rcheck_fn s (by first | exact hx | exact Ship.new_big _ | exact Ship.run_big _ _ | exact Ship.do_big _ _ | exact Ship.sail_big _ _ | exact Ship.zero_big | exact Ship.Ok.big (by assumption) | omega)) (by kernel_rfl) (by kernel_rfl) ?_
  refine DW.run 3 (x' := ⟨(55, .v (.bool (s.checkE == s.checkE))) :: (54, .v (.bool (s.checkE == s.checkE))) :: (53, .v (.bool (s.checkE == s.checkE))) :: (stq25 s blocks a), (stq20 s a blocks)⟩) (by kernel_rfl) ?_
  have h3 : (s.checkE == s.checkE) = true := by simp [strEq_iff]
  rw [h3]
  refine DW.run 2 (x' := ⟨(stq26 s a blocks), (stq20 s a blocks)⟩) (by kernel_rfl) ?_
  refine DW.fn (ar := [(stq10 s a), (stq10 s a)]) (x' := ⟨(58, .v (.bool (Ship.same ((s.doP a).1) ((s.doP a).1)))) :: (stq26 s a blocks), (stq20 s a blocks)⟩) (by kernel_rfl) (by kernel_rfl) F16_call (sameShip_fn ((s.doP a).1) ((s.doP a).1) (by first | exact hx | exact Ship.new_big _ | exact Ship.run_big _ _ | exact Ship.do_big _ _ | exact Ship.sail_big _ _ | exact Ship.zero_big | exact Ship.Ok.big (by assumption) | omega)) (by kernel_rfl) (by kernel_rfl) ?_
  refine DW.run 2 (x' := ⟨(60, .v (.bool (Ship.same ((s.doP a).1) ((s.doP a).1)))) :: (59, .v (.bool (Ship.same ((s.doP a).1) ((s.doP a).1)))) :: (58, .v (.bool (Ship.same ((s.doP a).1) ((s.doP a).1)))) :: (stq26 s a blocks), (stq20 s a blocks)⟩) (by kernel_rfl) ?_
  rcases Bool.eq_false_or_eq_true (Ship.same ((s.doP a).1) ((s.doP a).1)) with h4 | h4
  rw [h4]
  refine DW.last 5 [6] (x' := ⟨[(6, .v (.bool (((s.doP a).2) == (s.doP a).2)))], (stq20 s a blocks)⟩) (by kernel_rfl) (by kernel_rfl) ?_
  refine EL.ret ?_
  refine ⟨.inr rfl, .v (.bool (((s.doP a).2) == (s.doP a).2)), by kernel_rfl, Ale.of_eq ?_⟩
  focus (first | rfl | (simp [Ship.same_self, *]; done) | (simp_all [Ship.same_self]; done) | trace_state)
  rw [h4]
  refine DW.last 5 [6] (x' := ⟨[(6, .v (.bool false))], (stq20 s a blocks)⟩) (by kernel_rfl) (by kernel_rfl) ?_
  refine EL.ret ?_
  refine ⟨.inr rfl, .v (.bool false), by kernel_rfl, Ale.of_eq ?_⟩
  focus (first | rfl | (simp [Ship.same_self, *]; done) | (simp_all [Ship.same_self]; done) | trace_state)
  rw [h1]
  refine DW.last 22 [6] (x' := ⟨[(6, .v (.bool false))], (stq20 s a blocks)⟩) (by kernel_rfl) (by kernel_rfl) ?_
  refine EL.ret ?_
  refine ⟨.inr rfl, .v (.bool false), by kernel_rfl, Ale.of_eq ?_⟩
  focus (first | rfl | (simp [Ship.same_self, *]; done) | (simp_all [Ship.same_self]; done) | trace_state)
theorem ShipTells_walk {w : World} (blocks : Int) (_wblocks : (Lit.int .i64 blocks).wf = true) (s : Ship) (css : List Value) (rs : GoT.rep w w.heap.size css s) (a : Act) (_oka : a.ok) : Calls Try.prog 3 #[I blocks, .agg css.toArray, a.v] w fun e w' => e = .returned (.bool true) ∧ Below w.heap.size w w' := by
  have ls := (Ship.av rs).2
  exact fn_law (vs := [I blocks, .agg css.toArray, a.v]) (shipTells_fn blocks s a (by first | assumption | omega)) (.cons (.v rfl) (.cons ((Ship.av rs).1) (.cons ((R2.agg (.cons (.v rfl) (.cons (.v rfl) (.cons (.v rfl) (.nil)))) : Rep _ a.v _)) (.nil))))
theorem ShipTells_own : ownKnob Try.prog.godebug = none := by kernel_rfl
theorem ShipTells_laidOut : laidOutB Try.prog = true := by kernel_rfl
set_option maxRecDepth 100000 in
set_option linter.unusedVariables false in
theorem ShipTells_lifted (os : Os) (started : os.Started) (H : Type) (enc : TypeId × Value → H) :
    ReturnsInHanded {} Try.checked os 3 .any (Rows.shipTellsSpec.pre6 enc Try.prog Try.f3 Rows.shipTellsRow.domain false) (Rows.shipTellsSpec.post enc Try.prog Try.f3 false true false false) := by
  refine returnsInHanded_of_change (C := Try.checked) ShipTells_own started (by kernel_rfl) Try.func3
    (ChangeSpec.witness6 (enc := enc) (C := Try.checked) false ⟨#[], #[.int .i64 0, .agg #[.slice none 0 0, .slice none 0 0, .slice none 0 0, .int .i64 0, .int .i64 0, .int .i64 0, .slice none 0 0, .slice none 0 0], .agg #[.int .i64 0, .int .i64 0, .string ByteArray.empty]], []⟩ 8 (by kernel_rfl) (by kernel_rfl) (by kernel_rfl) (by kernel_rfl)) ?_
  intro W base args ds gs before hval0 hW hcnd _
  have hval : ∀ (j : Nat) t v, Try.f3.params[j]? = some t → args[j]? = some v → Value.okWide Try.prog W .any base t v := hval0
  have hW' := hW
  obtain ⟨p, q, hA0, hV, rfl, hfz, hnd⟩ := hW
  have hA : DataW.TrodAll enc Try.prog W 0 (fun _ => true) true Try.f3.params.toList args.toList ds p := hA0
  rw [Try.params3] at hA hval
  obtain ⟨v0, vs0, d0, ds0, p0, q0, hargs, rfl, rfl, h0, r0⟩ := trodAll_cons hA
  obtain ⟨v1, vs1, d1, ds1, p1, q1, rfl, rfl, rfl, h1, r1⟩ := trodAll_cons r0
  obtain ⟨v2, vs2, d2, ds2, p2, q2, rfl, rfl, rfl, h2, r2⟩ := trodAll_cons r1
  obtain ⟨rfl, rfl, rfl⟩ := trodAll_nil r2
  obtain rfl : args = #[v0, v1, v2] := by cases args; simp_all
  obtain ⟨rfl, rfl⟩ := trodVars_none hV
  have k0 := h0
  have lt0 : ∀ x ∈ p0, x.block < W.heap.size := by obtain ⟨m, hm⟩ := k0; exact DataW.trod_lt m _ _ _ hm
  obtain ⟨a0, rfl, e0, e0', w0⟩ := open_int Try.underlying3 (hval 0 3 v0 rfl rfl) h0
  have k1 := h1
  have lt1 : ∀ x ∈ p1, x.block < W.heap.size := by obtain ⟨m, hm⟩ := k1; exact DataW.trod_lt m _ _ _ hm
  obtain ⟨x1, cs1, rfl, w1⟩ := open_agg opens_Ship Try.underlying26 (hval 1 26 v1 rfl rfl) h1
  have k2 := h2
  have lt2 : ∀ x ∈ p2, x.block < W.heap.size := by obtain ⟨m, hm⟩ := k2; exact DataW.trod_lt m _ _ _ hm
  obtain ⟨x2, cs2, rfl, w2⟩ := open_agg opens_Act Try.underlying28 (hval 2 28 v2 rfl rfl) h2
  obtain ⟨rfl, ok2⟩ := Act.flat w2
  clear hA0 hval0
  refine (ShipTells_walk (w := W) a0 w0 x1 cs1 w1 x2 ok2).mono fun e W' ⟨he, bel⟩ => ?_
  subst he
  exact ⟨_, rfl, _, _, _, [], _, [], hW', trodAll_mk1 (shut_bool Try.underlying4 _), (trodAll_cons_mk (Below.trod ShipTells_laidOut (by kernel_rfl) (of_decide_eq_true (by kernel_rfl)) k0 bel lt0) (trodAll_cons_mk (Below.trod ShipTells_laidOut (by kernel_rfl) (of_decide_eq_true (by kernel_rfl)) k1 bel lt1) (trodAll_cons_mk (Below.trod ShipTells_laidOut (by kernel_rfl) (of_decide_eq_true (by kernel_rfl)) k2 bel lt2) trodAll_mk0))), rfl, bel.frame _, fun h => by cases h⟩
set_option maxRecDepth 100000 in
set_option maxHeartbeats 4000000 in
theorem ShipTells_closed : joinedFacts Try.prog 3 Try.f3 Rows.shipTellsSpec Rows.shipTellsRow = true := by
  unfold joinedFacts
  repeat' (with_reducible refine and_tt ?_ ?_)
  all_goals as_aux_lemma => kernel_rfl
theorem ShipTells_over : Rows.shipTellsRow.holds Try.pinned (OpenSpec.ofChange Rows.shipTellsSpec) :=
  OpenClaim.holds_of_wide 3 Try.f3 rfl rfl rfl rfl rfl rfl rfl ⟨rfl, rfl, rfl, rfl, rfl⟩ rfl rfl rfl rfl rfl (by as_aux_lemma => kernel_rfl) Try.func3 ShipTells_closed
    (of_decide_eq_true (by as_aux_lemma => kernel_rfl)) (by unfold Func.isWrapper; rw [if_neg (of_decide_eq_false (by as_aux_lemma => kernel_rfl))]; exact ⟨rfl, rfl⟩)
    (fun os started H enc _ => ShipTells_lifted os started H enc)
theorem ShipTells_holds : Rows.ShipTellsSaid := ShipTells_over
end Go.Proofs.Ythdcanpbgaaneaa
