/- New, Check and Do return what the document says, errors included: the law SynodTells returns true. No condition. -/
import Derived.Test.YtligepciannclaaDoorPSynJ
import Derived.WalkKit
import Derived.Handy
import Derived.ProofKit
import Derived.OpenShut
import Derived.ShutString
import Derived.ChangeOld
import Derived.Below
import Derived.Lib.Hide
import Derived.WalkLawsBesides
import Derived.WalkSpells
import Derived.Deep.QuietTactic
import Derived.BigQuiet
import Derived.Outline
import Derived.SevenTiedAt
set_option linter.unusedSimpArgs false
set_option linter.unusedVariables false
set_option maxHeartbeats 4000000
set_option maxRecDepth 100000
namespace Go.Proofs.YtligepciannclaaDoor
open Go.ChangeShapes Go.WideShapes Go.ChangeAt Go.RowKit
open Go.ChangeMaps (open_string shut_string)
section
variable (s : Synod) (v : Voters) (x : Step)
abbrev V28 := (s.doP x.kind x.n x.data)
abbrev V29 := (Synod.same ((Synod.newP v).1) ((Synod.newP v).1))
abbrev V0 : OB := some ⟨2, [[.lst 1 (v.weights.map cI), VI v.need]]⟩
abbrev V1 : OB := some ⟨5, [[.lst 1 (s.voters.weights.map cI), VI s.voters.need, .lst 5 (s.seats.map Seat.cs), .lst 8 (s.bids.map Bid.cs), .lst 6 (s.votes.map Vote.cs)]]⟩
abbrev V2 : OB := some ⟨3, [[VI x.kind, VI x.n, .v (.string x.data)]]⟩
abbrev V3 : LS := [(5, .ref 2 3 0 0), (4, .ref 1 5 0 0), (3, .ref 0 2 0 0)]
abbrev V4 : AV := .agg [.lst 1 (v.weights.map cI), VI v.need]
abbrev V5 : AV := .agg [.lst 1 (((((Synod.newP v).1).voters).weights).map cI), VI ((((Synod.newP v).1).voters).need), .lst 5 ((((Synod.newP v).1).seats).map Seat.cs), .lst 8 ((((Synod.newP v).1).bids).map Bid.cs), .lst 6 ((((Synod.newP v).1).votes).map Vote.cs)]
abbrev V6 : LS := (17, .tup [(V5 v), VI ((Synod.newP v).2)]) :: (16, (V4 v)) :: V3
abbrev V7 : OB := some ⟨5, [[.lst 1 (((((Synod.newP v).1).voters).weights).map cI), VI ((((Synod.newP v).1).voters).need), .lst 5 ((((Synod.newP v).1).seats).map Seat.cs), .lst 8 ((((Synod.newP v).1).bids).map Bid.cs), .lst 6 ((((Synod.newP v).1).votes).map Vote.cs)]]⟩
abbrev V8 : LB := [(V0 v), (V1 s), (V2 x), (V7 v)]
abbrev V9 : LS := (8, VI ((Synod.newP v).2)) :: (7, .ref 3 5 0 0) :: V3
abbrev V10 : AV := .agg [VI x.kind, VI x.n, .v (.string x.data)]
abbrev V11 : AV := .agg [.lst 1 (s.voters.weights.map cI), VI s.voters.need, .lst 5 (s.seats.map Seat.cs), .lst 8 (s.bids.map Bid.cs), .lst 6 (s.votes.map Vote.cs)]
abbrev V12 : AV := .agg [.lst 1 (((((V28 s x).1).voters).weights).map cI), VI ((((V28 s x).1).voters).need), .lst 5 ((((V28 s x).1).seats).map Seat.cs), .lst 8 ((((V28 s x).1).bids).map Bid.cs), .lst 6 ((((V28 s x).1).votes).map Vote.cs)]
abbrev V13 : LS := (23, .tup [(V12 s x), VI ((V28 s x).2)]) :: (22, (V10 x)) :: (21, (V11 s)) :: (V9 v)
abbrev V14 : OB := some ⟨5, [[.lst 1 (((((V28 s x).1).voters).weights).map cI), VI ((((V28 s x).1).voters).need), .lst 5 ((((V28 s x).1).seats).map Seat.cs), .lst 8 ((((V28 s x).1).bids).map Bid.cs), .lst 6 ((((V28 s x).1).votes).map Vote.cs)]]⟩
abbrev V15 : LB := [(V0 v), (V1 s), (V2 x), (V7 v), (V14 s x)]
abbrev V16 : LS := (10, VI ((V28 s x).2)) :: (9, .ref 4 5 0 0) :: (V9 v)
abbrev V17 : LS := (28, .tup [(V5 v), VI ((Synod.newP v).2)]) :: (27, (V4 v)) :: (V16 s v x)
abbrev V18 : LB := [(V0 v), (V1 s), (V2 x), (V7 v), (V14 s x), (V7 v)]
abbrev V19 : LS := [(12, VI ((Synod.newP v).2)), (11, .ref 5 5 0 0), (10, VI ((V28 s x).2)), (9, .ref 4 5 0 0), (8, VI ((Synod.newP v).2)), (7, .ref 3 5 0 0), (5, .ref 2 3 0 0), (4, .ref 1 5 0 0)]
abbrev V20 : LS := (34, .tup [(V12 s x), VI ((V28 s x).2)]) :: (33, (V10 x)) :: (32, (V11 s)) :: (V19 s v x)
abbrev V21 : LB := [(V0 v), (V1 s), (V2 x), (V7 v), (V14 s x), (V7 v), (V14 s x)]
abbrev V22 : LS := [(14, VI ((V28 s x).2)), (13, .ref 6 5 0 0), (12, VI ((Synod.newP v).2)), (11, .ref 5 5 0 0), (10, VI ((V28 s x).2)), (9, .ref 4 5 0 0), (8, VI ((Synod.newP v).2)), (7, .ref 3 5 0 0), (4, .ref 1 5 0 0)]
abbrev V23 : LS := (40, (V5 v)) :: (39, (V5 v)) :: (38, .v (.bool true)) :: (37, .v (.bool true)) :: (V22 s v x)
abbrev V24 : LS := (45, VI ((Synod.newP v).2)) :: (44, VI ((Synod.newP v).2)) :: (43, .v (.bool true)) :: (42, .v (.bool true)) :: (41, .v (.bool true)) :: (V23 s v x)
abbrev V25 : LS := (49, (V11 s)) :: (48, .v (.bool true)) :: (47, .v (.bool true)) :: (46, .v (.bool true)) :: (V24 s v x)
abbrev V26 : LS := (52, VI s.checkE) :: (51, (V11 s)) :: (50, VI s.checkE) :: (V25 s v x)
abbrev V27 : LS := (57, (V12 s x)) :: (56, (V12 s x)) :: (55, .v (.bool true)) :: (54, .v (.bool true)) :: (53, .v (.bool true)) :: (V26 s v x)
end
theorem synodTells_fn (v : Voters) (s : Synod) (x : Step) (hx : v.weights.length ≤ 9223372036854775807) (hs : s.Big) : Fn Tryd.prog 3 [.agg [.lst 1 (v.weights.map cI), VI v.need], .agg [.lst 1 (s.voters.weights.map cI), VI s.voters.need, .lst 5 (s.seats.map Seat.cs), .lst 8 (s.bids.map Bid.cs), .lst 6 (s.votes.map Vote.cs)], .agg [VI x.kind, VI x.n, .v (.string x.data)]] (.v (.bool true)) := by
 refine fnw F3_ok ?_
 refine srl 4 [3, 4, 5] ⟨V3, [(V0 v), (V1 s), (V2 x)]⟩ ?_
 refine srr 1 ⟨(16, (V4 v)) :: V3, [(V0 v), (V1 s), (V2 x)]⟩ ?_
 refine owg [(V4 v)] ⟨(V6 v), [(V0 v), (V1 s), (V2 x)]⟩ (new_fn v (by first | assumption | decide)) ?_
 refine owl 6 [3, 4, 5, 7, 8] ⟨(V9 v), (V8 s v x)⟩ ?_
 refine srr 2 ⟨(22, (V10 x)) :: (21, (V11 s)) :: (V9 v), (V8 s v x)⟩ ?_
 refine owg [(V11 s), (V10 x)] ⟨(V13 s v x), (V8 s v x)⟩ (do_fn s x (by first | assumption | exact Synod.new_big (by first | assumption | decide) | exact Synod.run_big _ _ | exact Synod.do_big _ _ _ _ | exact Synod.sat_big (by assumption) | exact Synod.zero_big | exact Synod.Ok.big (by assumption))) ?_
 refine owl 6 [3, 4, 5, 7, 8, 9, 10] ⟨(V16 s v x), (V15 s v x)⟩ ?_
 refine srr 1 ⟨(27, (V4 v)) :: (V16 s v x), (V15 s v x)⟩ ?_
 refine owg [(V4 v)] ⟨(V17 s v x), (V15 s v x)⟩ (rnew_fn v (by first | omega | assumption)) ?_
 refine owl 6 [4, 5, 7, 8, 9, 10, 11, 12] ⟨(V19 s v x), (V18 s v x)⟩ ?_
 refine srr 2 ⟨(33, (V10 x)) :: (32, (V11 s)) :: (V19 s v x), (V18 s v x)⟩ ?_
 refine owg [(V11 s), (V10 x)] ⟨(V20 s v x), (V18 s v x)⟩ (rstep_fn s x (by first | assumption | exact Synod.new_big (by first | assumption | decide) | exact Synod.run_big _ _ | exact Synod.do_big _ _ _ _ | exact Synod.sat_big (by assumption) | exact Synod.zero_big | exact Synod.Ok.big (by assumption))) ?_
 refine owl 6 [4, 7, 8, 9, 10, 11, 12, 13, 14] ⟨(V22 s v x), (V21 s v x)⟩ ?_
 refine EL.sdraw ?_
 refine dwg [] ⟨(37, .v (.bool true)) :: (V22 s v x), (V21 s v x)⟩ (sbegun_fn) ?_
 refine dwr 3 ⟨(V23 s v x), (V21 s v x)⟩ ?_
 refine dwg [(V5 v), (V5 v)] ⟨(41, .v (.bool (decide (V29 v)))) :: (V23 s v x), (V21 s v x)⟩ (sameSynod_fn ((Synod.newP v).1) ((Synod.newP v).1) (by first | assumption | exact Synod.new_big (by first | assumption | decide) | exact Synod.run_big _ _ | exact Synod.do_big _ _ _ _ | exact Synod.sat_big (by assumption) | exact Synod.zero_big | exact Synod.Ok.big (by assumption))) ?_
 refine dwr 2 ⟨(43, .v (.bool (decide (V29 v)))) :: (42, .v (.bool (decide (V29 v)))) :: (41, .v (.bool (decide (V29 v)))) :: (V23 s v x), (V21 s v x)⟩ ?_
 cases h1 : (decide (Synod.same ((Synod.newP v).1) ((Synod.newP v).1)))
 have g1 := of_decide_eq_false h1
 refine dwl 22 [6] ⟨[(6, .v (.bool false))], (V21 s v x)⟩ ?_
 refine EL.ret ?_
 refine rqe (.v (.bool false)) ?_
 rotate_left
 have g1 := of_decide_eq_true h1
 refine dwr 5 ⟨(48, .v (.bool (((Synod.newP v).2) == (Synod.newP v).2))) :: (47, .v (.bool (((Synod.newP v).2) == (Synod.newP v).2))) :: (46, .v (.bool (((Synod.newP v).2) == (Synod.newP v).2))) :: (V24 s v x), (V21 s v x)⟩ ?_
 have h2 : (((Synod.newP v).2) == (Synod.newP v).2) = true := by simp [strEq_iff]
 rw [h2]
 refine dwr 1 ⟨(V25 s v x), (V21 s v x)⟩ ?_
 refine dwg [(V11 s)] ⟨(50, VI s.checkE) :: (V25 s v x), (V21 s v x)⟩ (check_fn s (by first | assumption | exact Synod.new_big (by first | assumption | decide) | exact Synod.run_big _ _ | exact Synod.do_big _ _ _ _ | exact Synod.sat_big (by assumption) | exact Synod.zero_big | exact Synod.Ok.big (by assumption))) ?_
 refine dwr 1 ⟨(51, (V11 s)) :: (50, VI s.checkE) :: (V25 s v x), (V21 s v x)⟩ ?_
 refine dwg [(V11 s)] ⟨(V26 s v x), (V21 s v x)⟩ (rcheck_fn s (by first | assumption | exact Synod.new_big (by first | assumption | decide) | exact Synod.run_big _ _ | exact Synod.do_big _ _ _ _ | exact Synod.sat_big (by assumption) | exact Synod.zero_big | exact Synod.Ok.big (by assumption))) ?_
 refine dwr 3 ⟨(55, .v (.bool (s.checkE == s.checkE))) :: (54, .v (.bool (s.checkE == s.checkE))) :: (53, .v (.bool (s.checkE == s.checkE))) :: (V26 s v x), (V21 s v x)⟩ ?_
 have h3 : (s.checkE == s.checkE) = true := by simp [strEq_iff]
 rw [h3]
 refine dwr 2 ⟨(V27 s v x), (V21 s v x)⟩ ?_
 refine dwg [(V12 s x), (V12 s x)] ⟨(58, .v (.bool (decide (Synod.same ((V28 s x).1) ((V28 s x).1))))) :: (V27 s v x), (V21 s v x)⟩ (sameSynod_fn ((V28 s x).1) ((V28 s x).1) (by first | assumption | exact Synod.new_big (by first | assumption | decide) | exact Synod.run_big _ _ | exact Synod.do_big _ _ _ _ | exact Synod.sat_big (by assumption) | exact Synod.zero_big | exact Synod.Ok.big (by assumption))) ?_
 refine dwr 2 ⟨(60, .v (.bool (decide (Synod.same ((V28 s x).1) ((V28 s x).1))))) :: (59, .v (.bool (decide (Synod.same ((V28 s x).1) ((V28 s x).1))))) :: (58, .v (.bool (decide (Synod.same ((V28 s x).1) ((V28 s x).1))))) :: (V27 s v x), (V21 s v x)⟩ ?_
 cases h4 : (decide (Synod.same ((s.doP x.kind x.n x.data).1) ((s.doP x.kind x.n x.data).1)))
 have g4 := of_decide_eq_false h4
 refine dwl 5 [6] ⟨[(6, .v (.bool false))], (V21 s v x)⟩ ?_
 refine EL.ret ?_
 refine rqe (.v (.bool false)) ?_
 rotate_left
 have g4 := of_decide_eq_true h4
 refine dwl 5 [6] ⟨[(6, .v (.bool (((V28 s x).2) == (V28 s x).2)))], (V21 s v x)⟩ ?_
 refine EL.ret ?_
 refine rqe (.v (.bool (((s.doP x.kind x.n x.data).2) == (s.doP x.kind x.n x.data).2))) ?_
 rotate_left
 all_goals (first | rfl | (simp [Synod.same_self, *]; done) | (simp_all [Synod.same_self]; done) | (exfalso; simp_all [strEq]; done) | (exfalso; omega))
theorem SynodTells_walk {w : World} (hG : GlE (E0 w fun b => b < w.heap.size)) (v : Voters) (csv : List Value) (rv : GoT.rep w w.heap.size csv v) (s : Synod) (css : List Value) (rs : GoT.rep w w.heap.size css s) (x : Step) (_okx : x.ok) : Calls Tryd.prog 3 #[.agg csv.toArray, .agg css.toArray, x.v] w fun e w' => e = .returned (.bool true) ∧ Below w.heap.size w w' := by
  have lv := (Voters.av rv).2
  have ls := (Synod.av rs).2
  exact fn_law (vs := [.agg csv.toArray, .agg css.toArray, x.v]) (synodTells_fn v s x (by first | assumption | omega) (by first | assumption | omega)) hG (.cons ((Voters.av rv).1) (.cons ((Synod.av rs).1) (.cons ((R2.agg (.cons (.v rfl) (.cons (.v rfl) (.cons (.v rfl) (.nil)))) : Rep _ x.v _)) (.nil))))
theorem SynodTells_own : ownKnob Tryd.prog.godebug = none := by kernel_rfl
theorem SynodTells_laidOut : laidOutB Tryd.prog = true := by kernel_rfl
set_option maxRecDepth 100000 in
set_option linter.unusedVariables false in
theorem SynodTells_lifted (os : Os) (started : os.Started) (H : Type) (enc : TypeId × Value → H) :
    ReturnsInHanded {} Tryd.checked os 3 .any (fun w args => (Rows.synodTellsSpec.pre enc Tryd.prog Tryd.f3 [] false w args ∧ laidMetH Tryd.prog Rows.synodTellsRow.laid w) ∧ sizedMet enc Tryd.prog Tryd.f3 (OpenSpec.ofChange Rows.synodTellsSpec) false w args)
      (Rows.synodTellsSpec.post enc Tryd.prog Tryd.f3 false true false false) := by
  refine returnsInHanded_of_change_and (C := Tryd.checked) (X := fun w _ => laidMetH Tryd.prog Rows.synodTellsRow.laid w) (fun _ _ _ hh h => h.of_heap hh) SynodTells_own started (by kernel_rfl) Tryd.func3
    (ChangeSpec.witness_shaped (enc := enc) (C := Tryd.checked) (os := os) (X := fun w _ => laidMetH Tryd.prog Rows.synodTellsRow.laid w) false (World.doorLaid Tryd.prog 14 os) #[.agg #[.slice none 0 0, .int .i64 0], .agg #[.slice none 0 0, .int .i64 0, .slice none 0 0, .slice none 0 0, .slice none 0 0], .agg #[.int .i64 0, .int .i64 0, .string ByteArray.empty]] 8 rfl (World.shaped_of_RefB (by kernel_rfl) (by kernel_rfl)) (by kernel_rfl) (by kernel_rfl) (by kernel_rfl) (laidMetH_of_parts3 (fuel := 8) (laidMet_of_run' 8 (by kernel_rfl) (by kernel_rfl)) (by kernel_rfl) (by kernel_rfl))) ?_
  intro W base args ds gs before hval0 hW _ _ hL _
  have hval : ∀ (j : Nat) t v, Tryd.f3.params[j]? = some t → args[j]? = some v → Value.okWide Tryd.prog W .any base t v := hval0
  have hW' := hW
  obtain ⟨p, q, hA0, hV, rfl, hfz, hnd⟩ := hW
  have hA : DataW.TrodAll enc Tryd.prog W 0 (fun _ => true) true Tryd.f3.params.toList args.toList ds p := hA0
  rw [Tryd.params3] at hA hval
  obtain ⟨v0, vs0, d0, ds0, p0, q0, hargs, rfl, rfl, h0, r0⟩ := trodAll_cons hA
  obtain ⟨v1, vs1, d1, ds1, p1, q1, rfl, rfl, rfl, h1, r1⟩ := trodAll_cons r0
  obtain ⟨v2, vs2, d2, ds2, p2, q2, rfl, rfl, rfl, h2, r2⟩ := trodAll_cons r1
  obtain ⟨rfl, rfl, rfl⟩ := trodAll_nil r2
  obtain rfl : args = #[v0, v1, v2] := by cases args; simp_all
  obtain ⟨rfl, rfl⟩ := trodVars_none hV
  have k0 := h0
  have lt0 : ∀ x ∈ p0, x.block < W.heap.size := by obtain ⟨m, hm⟩ := k0; exact DataW.trod_lt m _ _ _ hm
  obtain ⟨x0, cs0, rfl, w0⟩ := open_agg opens_Voters Tryd.underlying24 (hval 0 24 v0 rfl rfl) h0
  have k1 := h1
  have lt1 : ∀ x ∈ p1, x.block < W.heap.size := by obtain ⟨m, hm⟩ := k1; exact DataW.trod_lt m _ _ _ hm
  obtain ⟨x1, cs1, rfl, w1⟩ := open_agg opens_Synod Tryd.underlying29 (hval 1 29 v1 rfl rfl) h1
  have k2 := h2
  have lt2 : ∀ x ∈ p2, x.block < W.heap.size := by obtain ⟨m, hm⟩ := k2; exact DataW.trod_lt m _ _ _ hm
  obtain ⟨x2, cs2, rfl, w2⟩ := open_agg opens_Step Tryd.underlying31 (hval 2 31 v2 rfl rfl) h2
  obtain ⟨rfl, ok2⟩ := Step.flat w2
  clear hA0 hval0
  refine (SynodTells_walk (w := W) (glE_of hL) x0 cs0 w0 x1 cs1 w1 x2 ok2).mono fun e W' ⟨he, bel⟩ => ?_
  subst he
  exact ⟨_, rfl, _, _, _, [], _, [], hW', trodAll_mk1 (shut_bool Tryd.underlying4 _), (trodAll_cons_mk (Below.trod SynodTells_laidOut (by kernel_rfl) (of_decide_eq_true (by kernel_rfl)) k0 bel lt0) (trodAll_cons_mk (Below.trod SynodTells_laidOut (by kernel_rfl) (of_decide_eq_true (by kernel_rfl)) k1 bel lt1) (trodAll_cons_mk (Below.trod SynodTells_laidOut (by kernel_rfl) (of_decide_eq_true (by kernel_rfl)) k2 bel lt2) trodAll_mk0))), rfl, bel.frame _, fun h => by cases h⟩
set_option maxRecDepth 100000 in
set_option maxHeartbeats 4000000 in
theorem SynodTells_row : Rows.SynodTellsSaid :=
  OpenClaim.holds_of_wide 3 Tryd.f3 rfl rfl rfl rfl rfl rfl rfl ⟨rfl, rfl, rfl, rfl, rfl⟩ rfl rfl rfl rfl rfl (by kernel_rfl) Tryd.func3 (by kernel_rfl)
    (of_decide_eq_true (by kernel_rfl)) (by unfold Func.isWrapper; first | (rw [if_pos (by decide +kernel)]; kernel_rfl) | (rw [if_neg (by decide +kernel)]; exact ⟨rfl, rfl⟩))
    (fun os started H enc _ => SynodTells_lifted os started H enc)
set_option maxRecDepth 100000 in
set_option maxHeartbeats 4000000 in
theorem SynodTells_holds : Rows.SynodTellsCardSaid :=
  Claim7.holds_tied_plain_at .later [] [.data] true (true, "cb5fefe2008e8336ea9f5d78b4e645a098888375547093116390ebfe8b58d892") false
    SynodTells_row (fun _ h => by cases h) (by kernel_rfl) (fun _ h => by cases h) synodTells_row_tie rfl ⟨rfl, rfl⟩ (by kernel_rfl) rfl
    (fun f fn hf hfn => by
      obtain rfl : f = 3 := Option.some.inj ((show Tryd.prog.funcNamed "supercargo/supercargolaw.SynodTells" = some 3 by kernel_rfl).symm.trans hf) |>.symm
      obtain rfl : fn = Tryd.f3 := (Option.some.inj (Tryd.func3.symm.trans hfn)).symm
      exact ⟨by kernel_rfl, fun j t ht => by
        rw [Tryd.params3] at ht
        have hm : t ∈ [24, 29, 31] := by simpa using Array.mem_of_getElem? ht
        have hall : ([24, 29, 31].all fun u => !Tryd.prog.wantsStandIn u) = true := by kernel_rfl
        exact (show Tryd.prog.wantsStandIn t = false by simpa using List.all_eq_true.1 hall t hm)⟩)
    (by kernel_rfl)
end Go.Proofs.YtligepciannclaaDoor
