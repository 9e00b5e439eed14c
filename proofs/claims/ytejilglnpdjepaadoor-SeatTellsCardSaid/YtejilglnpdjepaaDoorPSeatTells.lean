/- CheckVote, CheckSeat and Serve return what the document says, errors included: the law SeatTells returns true. No condition. -/
import Derived.Test.YtejilglnpdjepaaDoorPSeatL
import Derived.WalkKit
import Derived.Handy
import Derived.ProofKit
import Derived.OpenShut
import Derived.ShutString
import Derived.ChangeOld
import Derived.Below
import Derived.Lib.Hide
import Derived.WalkLawsBesides
import Derived.WalkSpells
import Derived.Deep.QuietTactic
import Derived.BigQuiet
import Derived.Outline
import Derived.SevenTiedAt
namespace Go.Proofs.YtejilglnpdjepaaDoor
set_option linter.unusedSimpArgs false
set_option linter.unusedVariables false
open Go.ChangeShapes Go.WideShapes Go.ChangeAt Go.RowKit
open Go.ChangeMaps (open_string shut_string)
set_option maxRecDepth 100000
set_option maxHeartbeats 4000000
theorem serve_len (s : Seat) (v : Vote) : (s.serveP v).2.1.length ≤ 1 := by
  unfold Seat.serveP; repeat' split
  all_goals simp
abbrev stq0 (s : Seat) : OB := some ⟨5, [[VI s.promised.time, VI s.promised.who, VI s.kept.at_.time, VI s.kept.at_.who, .v (.string s.kept.data)]]⟩
abbrev stq1 (v : Vote) : OB := some ⟨6, [[VI v.kind, VI v.bid, VI v.node, VI v.copy.at_.time, VI v.copy.at_.who, .v (.string v.copy.data)]]⟩
abbrev stq2 (v : Vote) : AV := .agg [VI v.kind, VI v.bid, VI v.node, VI v.copy.at_.time, VI v.copy.at_.who, .v (.string v.copy.data)]
abbrev stq3 (s : Seat) : AV := .agg [VI s.promised.time, VI s.promised.who, VI s.kept.at_.time, VI s.kept.at_.who, .v (.string s.kept.data)]
abbrev stq4 (v : Vote) (s : Seat) : LS := [(13, (stq2 v)), (12, (stq3 s)), (3, .ref 1 6 0 0), (2, .ref 0 5 0 0)]
abbrev stq5 (s : Seat) (v : Vote) : AV := .agg [VI ((((s.serveP v).1).promised).time), VI ((((s.serveP v).1).promised).who), VI (((((s.serveP v).1).kept).at_).time), VI (((((s.serveP v).1).kept).at_).who), .v (.string ((((s.serveP v).1).kept).data))]
abbrev stq6 (s : Seat) (v : Vote) : LS := (14, .tup [(stq5 s v), .lst 6 (((s.serveP v).2.1).map Vote.cs), VI ((s.serveP v).2.2)]) :: (stq4 v s)
abbrev stq7 (s : Seat) (v : Vote) : OB := some ⟨5, [[VI ((((s.serveP v).1).promised).time), VI ((((s.serveP v).1).promised).who), VI (((((s.serveP v).1).kept).at_).time), VI (((((s.serveP v).1).kept).at_).who), .v (.string ((((s.serveP v).1).kept).data))]]⟩
abbrev stq8 (s : Seat) (v : Vote) : LS := [(7, VI ((s.serveP v).2.2)), (6, .lst 6 (((s.serveP v).2.1).map Vote.cs)), (5, .ref 2 5 0 0), (3, .ref 1 6 0 0), (2, .ref 0 5 0 0)]
abbrev stq9 (s : Seat) (v : Vote) : LS := (21, .tup [(stq5 s v), .lst 6 (((s.serveP v).2.1).map Vote.cs), VI ((s.serveP v).2.2)]) :: (20, (stq2 v)) :: (19, (stq3 s)) :: (stq8 s v)
abbrev stq10 (s : Seat) (v : Vote) : LS := (10, VI ((s.serveP v).2.2)) :: (9, .lst 6 (((s.serveP v).2.1).map Vote.cs)) :: (8, .ref 3 5 0 0) :: (stq8 s v)
abbrev stq11 (v : Vote) (s : Seat) : LS := (27, (stq2 v)) :: (26, .v (.bool true)) :: (25, .v (.bool true)) :: (stq10 s v)
abbrev stq12 (v : Vote) (s : Seat) : LS := (30, VI v.checkE) :: (29, (stq2 v)) :: (28, VI v.checkE) :: (stq11 v s)
abbrev stq13 (s : Seat) (v : Vote) : LS := (34, (stq3 s)) :: (33, .v (.bool true)) :: (32, .v (.bool true)) :: (31, .v (.bool true)) :: (stq12 v s)
abbrev stq14 (s : Seat) (v : Vote) : LS := (37, VI s.checkE) :: (36, (stq3 s)) :: (35, VI s.checkE) :: (stq13 s v)
abbrev stq15 (s : Seat) (v : Vote) : LS := (42, (stq5 s v)) :: (41, (stq5 s v)) :: (40, .v (.bool true)) :: (39, .v (.bool true)) :: (38, .v (.bool true)) :: (stq14 s v)
abbrev stq16 (s : Seat) (v : Vote) : LS := (47, .lst 6 (((s.serveP v).2.1).map Vote.cs)) :: (46, .lst 6 (((s.serveP v).2.1).map Vote.cs)) :: (45, .v (.bool true)) :: (44, .v (.bool true)) :: (43, .v (.bool true)) :: (stq15 s v)
theorem seatTells_fn (s : Seat) (v : Vote) : Fn Tryd.prog 3 [.agg [VI s.promised.time, VI s.promised.who, VI s.kept.at_.time, VI s.kept.at_.who, .v (.string s.kept.data)], .agg [VI v.kind, VI v.bid, VI v.node, VI v.copy.at_.time, VI v.copy.at_.who, .v (.string v.copy.data)]] (.v (.bool true)) := by
  refine fn_walkW F3_ok (of_decide_eq_true (by kernel_rfl)) ?_
  refine EL.sreg ?_
  refine OW.last 3 [2, 3] (x' := ⟨[(3, .ref 1 6 0 0), (2, .ref 0 5 0 0)], [(stq0 s), (stq1 v)]⟩) (by kernel_rfl) (by kernel_rfl) ?_
  refine EL.sreg ?_
  refine OW.run 2 (x' := ⟨(stq4 v s), [(stq0 s), (stq1 v)]⟩) (by kernel_rfl) ?_
  refine OW.fn (ar := [(stq3 s), (stq2 v)]) (x' := ⟨(stq6 s v), [(stq0 s), (stq1 v)]⟩) (by kernel_rfl) (by kernel_rfl) F8_call (serve_fn s v) (by kernel_rfl) (by kernel_rfl) ?_
  refine OW.last 8 [2, 3, 5, 6, 7] (x' := ⟨(stq8 s v), [(stq0 s), (stq1 v), (stq7 s v)]⟩) (by kernel_rfl) (by kernel_rfl) ?_
  refine EL.sreg ?_
  refine OW.run 2 (x' := ⟨(20, (stq2 v)) :: (19, (stq3 s)) :: (stq8 s v), [(stq0 s), (stq1 v), (stq7 s v)]⟩) (by kernel_rfl) ?_
  refine OW.fn (ar := [(stq3 s), (stq2 v)]) (x' := ⟨(stq9 s v), [(stq0 s), (stq1 v), (stq7 s v)]⟩) (by kernel_rfl) (by kernel_rfl) F9_call (rserve_fn s v) (by kernel_rfl) (by kernel_rfl) ?_
  refine OW.last 8 [2, 3, 5, 6, 7, 8, 9, 10] (x' := ⟨(stq10 s v), [(stq0 s), (stq1 v), (stq7 s v), (stq7 s v)]⟩) (by kernel_rfl) (by kernel_rfl) ?_
  refine EL.sdraw ?_
  refine DW.fn (ar := []) (x' := ⟨(25, .v (.bool true)) :: (stq10 s v), [(stq0 s), (stq1 v), (stq7 s v), (stq7 s v)]⟩) (by kernel_rfl) (by kernel_rfl) F10_call (begun_fn) (by kernel_rfl) (by kernel_rfl) ?_
  refine DW.run 2 (x' := ⟨(stq11 v s), [(stq0 s), (stq1 v), (stq7 s v), (stq7 s v)]⟩) (by kernel_rfl) ?_
  refine DW.fn (ar := [(stq2 v)]) (x' := ⟨(28, VI v.checkE) :: (stq11 v s), [(stq0 s), (stq1 v), (stq7 s v), (stq7 s v)]⟩) (by kernel_rfl) (by kernel_rfl) F11_call (vcheck_fn v) (by kernel_rfl) (by kernel_rfl) ?_
  refine DW.run 1 (x' := ⟨(29, (stq2 v)) :: (28, VI v.checkE) :: (stq11 v s), [(stq0 s), (stq1 v), (stq7 s v), (stq7 s v)]⟩) (by kernel_rfl) ?_
  refine DW.fn (ar := [(stq2 v)]) (x' := ⟨(stq12 v s), [(stq0 s), (stq1 v), (stq7 s v), (stq7 s v)]⟩) (by kernel_rfl) (by kernel_rfl) F12_call (rvcheck_fn v) (by kernel_rfl) (by kernel_rfl) ?_
  refine DW.run 3 (x' := ⟨(33, .v (.bool (v.checkE == v.checkE))) :: (32, .v (.bool (v.checkE == v.checkE))) :: (31, .v (.bool (v.checkE == v.checkE))) :: (stq12 v s), [(stq0 s), (stq1 v), (stq7 s v), (stq7 s v)]⟩) (by kernel_rfl) ?_
  have h1 : (v.checkE == v.checkE) = true := by simp [strEq_iff]
  rw [h1]
  refine DW.run 1 (x' := ⟨(stq13 s v), [(stq0 s), (stq1 v), (stq7 s v), (stq7 s v)]⟩) (by kernel_rfl) ?_
  refine DW.fn (ar := [(stq3 s)]) (x' := ⟨(35, VI s.checkE) :: (stq13 s v), [(stq0 s), (stq1 v), (stq7 s v), (stq7 s v)]⟩) (by kernel_rfl) (by kernel_rfl) F13_call (secheck_fn s) (by kernel_rfl) (by kernel_rfl) ?_
  refine DW.run 1 (x' := ⟨(36, (stq3 s)) :: (35, VI s.checkE) :: (stq13 s v), [(stq0 s), (stq1 v), (stq7 s v), (stq7 s v)]⟩) (by kernel_rfl) ?_
  refine DW.fn (ar := [(stq3 s)]) (x' := ⟨(stq14 s v), [(stq0 s), (stq1 v), (stq7 s v), (stq7 s v)]⟩) (by kernel_rfl) (by kernel_rfl) F14_call (rsecheck_fn s) (by kernel_rfl) (by kernel_rfl) ?_
  refine DW.run 3 (x' := ⟨(40, .v (.bool (s.checkE == s.checkE))) :: (39, .v (.bool (s.checkE == s.checkE))) :: (38, .v (.bool (s.checkE == s.checkE))) :: (stq14 s v), [(stq0 s), (stq1 v), (stq7 s v), (stq7 s v)]⟩) (by kernel_rfl) ?_
  have h2 : (s.checkE == s.checkE) = true := by simp [strEq_iff]
  rw [h2]
  refine DW.run 5 (x' := ⟨(45, .v (.bool ((((((s.serveP v).1).promised).time) == (((s.serveP v).1).promised).time) && ((((((s.serveP v).1).promised).who) == (((s.serveP v).1).promised).who) && (((((((s.serveP v).1).kept).at_).time) == ((((s.serveP v).1).kept).at_).time) && (((((((s.serveP v).1).kept).at_).who) == ((((s.serveP v).1).kept).at_).who) && (strEq ((((s.serveP v).1).kept).data) ((((s.serveP v).1).kept).data) && true))))))) :: (44, .v (.bool ((((((s.serveP v).1).promised).time) == (((s.serveP v).1).promised).time) && ((((((s.serveP v).1).promised).who) == (((s.serveP v).1).promised).who) && (((((((s.serveP v).1).kept).at_).time) == ((((s.serveP v).1).kept).at_).time) && (((((((s.serveP v).1).kept).at_).who) == ((((s.serveP v).1).kept).at_).who) && (strEq ((((s.serveP v).1).kept).data) ((((s.serveP v).1).kept).data) && true))))))) :: (43, .v (.bool ((((((s.serveP v).1).promised).time) == (((s.serveP v).1).promised).time) && ((((((s.serveP v).1).promised).who) == (((s.serveP v).1).promised).who) && (((((((s.serveP v).1).kept).at_).time) == ((((s.serveP v).1).kept).at_).time) && (((((((s.serveP v).1).kept).at_).who) == ((((s.serveP v).1).kept).at_).who) && (strEq ((((s.serveP v).1).kept).data) ((((s.serveP v).1).kept).data) && true))))))) :: (stq15 s v), [(stq0 s), (stq1 v), (stq7 s v), (stq7 s v)]⟩) (by kernel_rfl) ?_
  rcases Bool.eq_false_or_eq_true (((((((s.serveP v).1).promised).time) == (((s.serveP v).1).promised).time) && ((((((s.serveP v).1).promised).who) == (((s.serveP v).1).promised).who) && (((((((s.serveP v).1).kept).at_).time) == ((((s.serveP v).1).kept).at_).time) && (((((((s.serveP v).1).kept).at_).who) == ((((s.serveP v).1).kept).at_).who) && (strEq ((((s.serveP v).1).kept).data) ((((s.serveP v).1).kept).data) && true)))))) with h3 | h3
  rw [h3]
  refine DW.run 2 (x' := ⟨(stq16 s v), [(stq0 s), (stq1 v), (stq7 s v), (stq7 s v)]⟩) (by kernel_rfl) ?_
  refine DW.fn (ar := [.lst 6 (((s.serveP v).2.1).map Vote.cs), .lst 6 (((s.serveP v).2.1).map Vote.cs)]) (x' := ⟨(48, .v (.bool (decide (((s.serveP v).2.1) = ((s.serveP v).2.1))))) :: (stq16 s v), [(stq0 s), (stq1 v), (stq7 s v), (stq7 s v)]⟩) (by kernel_rfl) (by kernel_rfl) F15_call (sameVotes_fn ((s.serveP v).2.1) ((s.serveP v).2.1) (by have := serve_len s v; omega)) (by kernel_rfl) (by kernel_rfl) ?_
  refine DW.run 2 (x' := ⟨(50, .v (.bool (decide (((s.serveP v).2.1) = ((s.serveP v).2.1))))) :: (49, .v (.bool (decide (((s.serveP v).2.1) = ((s.serveP v).2.1))))) :: (48, .v (.bool (decide (((s.serveP v).2.1) = ((s.serveP v).2.1))))) :: (stq16 s v), [(stq0 s), (stq1 v), (stq7 s v), (stq7 s v)]⟩) (by kernel_rfl) ?_
  have h4 : decide (((s.serveP v).2.1) = ((s.serveP v).2.1)) = true := by simp [strEq_iff]
  rw [h4]
  refine DW.last 5 [4] (x' := ⟨[(4, .v (.bool (((s.serveP v).2.2) == (s.serveP v).2.2)))], [(stq0 s), (stq1 v), (stq7 s v), (stq7 s v)]⟩) (by kernel_rfl) (by kernel_rfl) ?_
  refine EL.ret ?_
  refine ⟨.inr rfl, .v (.bool (((s.serveP v).2.2) == (s.serveP v).2.2)), by kernel_rfl, Ale.of_eq ?_⟩
  focus (first | rfl | (simp [*]; done) | (simp_all; done) | (exfalso; simp_all [strEq]; done) | trace_state)
  rw [h3]
  refine DW.last 10 [4] (x' := ⟨[(4, .v (.bool false))], [(stq0 s), (stq1 v), (stq7 s v), (stq7 s v)]⟩) (by kernel_rfl) (by kernel_rfl) ?_
  refine EL.ret ?_
  refine ⟨.inr rfl, .v (.bool false), by kernel_rfl, Ale.of_eq ?_⟩
  focus (first | rfl | (simp [*]; done) | (simp_all; done) | (exfalso; simp_all [strEq]; done) | trace_state)
theorem SeatTells_walk {w : World} (hG : GlE (E0 w fun b => b < w.heap.size)) (s : Seat) (_oks : s.ok) (v : Vote) (_okv : v.ok) : Calls Tryd.prog 3 #[s.v, v.v] w fun e w' => e = .returned (.bool true) ∧ Below w.heap.size w w' := by
  exact fn_law (vs := [s.v, v.v]) (seatTells_fn s v ) hG (.cons ((R2.agg (.cons (.v rfl) (.cons (.v rfl) (.cons (.v rfl) (.cons (.v rfl) (.cons (.v rfl) (.nil)))))) : Rep _ s.v _)) (.cons ((R2.agg (.cons (.v rfl) (.cons (.v rfl) (.cons (.v rfl) (.cons (.v rfl) (.cons (.v rfl) (.cons (.v rfl) (.nil))))))) : Rep _ v.v _)) (.nil)))
theorem SeatTells_own : ownKnob Tryd.prog.godebug = none := by kernel_rfl
theorem SeatTells_laidOut : laidOutB Tryd.prog = true := by kernel_rfl
set_option maxRecDepth 100000 in
set_option linter.unusedVariables false in
theorem SeatTells_lifted (os : Os) (started : os.Started) (H : Type) (enc : TypeId × Value → H) :
    ReturnsInHanded {} Tryd.checked os 3 .any (fun w args => (Rows.seatTellsSpec.pre enc Tryd.prog Tryd.f3 [] false w args ∧ laidMetH Tryd.prog Rows.seatTellsRow.laid w) ∧ sizedMet enc Tryd.prog Tryd.f3 (OpenSpec.ofChange Rows.seatTellsSpec) false w args)
      (Rows.seatTellsSpec.post enc Tryd.prog Tryd.f3 false true false false) := by
  refine returnsInHanded_of_change_and (C := Tryd.checked) (X := fun w _ => laidMetH Tryd.prog Rows.seatTellsRow.laid w) (fun _ _ _ hh h => h.of_heap hh) SeatTells_own started (by kernel_rfl) Tryd.func3
    (ChangeSpec.witness_shaped (enc := enc) (C := Tryd.checked) (os := os) (X := fun w _ => laidMetH Tryd.prog Rows.seatTellsRow.laid w) false (World.doorLaid Tryd.prog 14 os) #[.agg #[.int .i64 0, .int .i64 0, .int .i64 0, .int .i64 0, .string ByteArray.empty], .agg #[.int .i64 0, .int .i64 0, .int .i64 0, .int .i64 0, .int .i64 0, .string ByteArray.empty]] 8 rfl (World.shaped_of_RefB (by kernel_rfl) (by kernel_rfl)) (by kernel_rfl) (by kernel_rfl) (by kernel_rfl) (laidMetH_of_parts3 (fuel := 8) (laidMet_of_run' 8 (by kernel_rfl) (by kernel_rfl)) (by kernel_rfl) (by kernel_rfl))) ?_
  intro W base args ds gs before hval0 hW _ _ hL _
  have hval : ∀ (j : Nat) t v, Tryd.f3.params[j]? = some t → args[j]? = some v → Value.okWide Tryd.prog W .any base t v := hval0
  have hW' := hW
  obtain ⟨p, q, hA0, hV, rfl, hfz, hnd⟩ := hW
  have hA : DataW.TrodAll enc Tryd.prog W 0 (fun _ => true) true Tryd.f3.params.toList args.toList ds p := hA0
  rw [Tryd.params3] at hA hval
  obtain ⟨v0, vs0, d0, ds0, p0, q0, hargs, rfl, rfl, h0, r0⟩ := trodAll_cons hA
  obtain ⟨v1, vs1, d1, ds1, p1, q1, rfl, rfl, rfl, h1, r1⟩ := trodAll_cons r0
  obtain ⟨rfl, rfl, rfl⟩ := trodAll_nil r1
  obtain rfl : args = #[v0, v1] := by cases args; simp_all
  obtain ⟨rfl, rfl⟩ := trodVars_none hV
  have k0 := h0
  have lt0 : ∀ x ∈ p0, x.block < W.heap.size := by obtain ⟨m, hm⟩ := k0; exact DataW.trod_lt m _ _ _ hm
  obtain ⟨x0, cs0, rfl, w0⟩ := open_agg opens_Seat Tryd.underlying27 (hval 0 27 v0 rfl rfl) h0
  obtain ⟨rfl, ok0⟩ := Seat.flat w0
  have k1 := h1
  have lt1 : ∀ x ∈ p1, x.block < W.heap.size := by obtain ⟨m, hm⟩ := k1; exact DataW.trod_lt m _ _ _ hm
  obtain ⟨x1, cs1, rfl, w1⟩ := open_agg opens_Vote Tryd.underlying29 (hval 1 29 v1 rfl rfl) h1
  obtain ⟨rfl, ok1⟩ := Vote.flat w1
  clear hA0 hval0
  refine (SeatTells_walk (w := W) (glE_of hL) x0 ok0 x1 ok1).mono fun e W' ⟨he, bel⟩ => ?_
  subst he
  exact ⟨_, rfl, _, _, _, [], _, [], hW', trodAll_mk1 (shut_bool Tryd.underlying4 _), (trodAll_cons_mk (Below.trod SeatTells_laidOut (by kernel_rfl) (of_decide_eq_true (by kernel_rfl)) k0 bel lt0) (trodAll_cons_mk (Below.trod SeatTells_laidOut (by kernel_rfl) (of_decide_eq_true (by kernel_rfl)) k1 bel lt1) trodAll_mk0)), rfl, bel.frame _, fun h => by cases h⟩
set_option maxRecDepth 100000 in
set_option maxHeartbeats 4000000 in
theorem SeatTells_row : Rows.SeatTellsSaid :=
  OpenClaim.holds_of_wide 3 Tryd.f3 rfl rfl rfl rfl rfl rfl rfl ⟨rfl, rfl, rfl, rfl, rfl⟩ rfl rfl rfl rfl rfl (by kernel_rfl) Tryd.func3 (by kernel_rfl)
    (of_decide_eq_true (by kernel_rfl)) (by unfold Func.isWrapper; first | (rw [if_pos (by decide +kernel)]; kernel_rfl) | (rw [if_neg (by decide +kernel)]; exact ⟨rfl, rfl⟩))
    (fun os started H enc _ => SeatTells_lifted os started H enc)
set_option maxRecDepth 100000 in
set_option maxHeartbeats 4000000 in
theorem SeatTells_holds : Rows.SeatTellsCardSaid :=
  Claim7.holds_tied_plain_at .later [] [.data] true (true, "b61f73abae45e264646c0b9802a4a2409c44329666a5012799d964ba1cee84f6") false
    SeatTells_row (fun _ h => by cases h) (by kernel_rfl) (fun _ h => by cases h) seatTells_row_tie rfl ⟨rfl, rfl⟩ (by kernel_rfl) rfl
    (fun f fn hf hfn => by
      obtain rfl : f = 3 := Option.some.inj ((show Tryd.prog.funcNamed "supercargo/supercargolaw.SeatTells" = some 3 by kernel_rfl).symm.trans hf) |>.symm
      obtain rfl : fn = Tryd.f3 := (Option.some.inj (Tryd.func3.symm.trans hfn)).symm
      exact ⟨by kernel_rfl, fun j t ht => by
        rw [Tryd.params3] at ht
        have hm : t ∈ [27, 29] := by simpa using Array.mem_of_getElem? ht
        have hall : ([27, 29].all fun u => !Tryd.prog.wantsStandIn u) = true := by kernel_rfl
        exact (show Tryd.prog.wantsStandIn t = false by simpa using List.all_eq_true.1 hall t hm)⟩)
    (by kernel_rfl)
end Go.Proofs.YtejilglnpdjepaaDoor
