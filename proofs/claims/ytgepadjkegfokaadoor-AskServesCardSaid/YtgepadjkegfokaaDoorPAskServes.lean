/- Serve returns what the document says, errors included: the law AskServes returns true. No condition. -/
import Derived.Test.YtgepadjkegfokaaDoorPAskL
import Derived.Test.YtgepadjkegfokaaDoorPAskE
import Derived.WalkKit
import Derived.Handy
import Derived.ProofKit
import Derived.OpenShut
import Derived.ShutString
import Derived.ChangeOld
import Derived.Below
import Derived.Lib.Hide
import Derived.WalkLawsBesides
import Derived.WalkSpells
import Derived.Deep.QuietTactic
import Derived.BigQuiet
import Derived.Outline
import Derived.SevenTiedAt
namespace Go.Proofs.YtgepadjkegfokaaDoor
set_option linter.unusedSimpArgs false
set_option linter.unusedVariables false
open Go.ChangeShapes Go.WideShapes Go.ChangeAt Go.RowKit
open Go.ChangeMaps (open_string shut_string)
set_option maxRecDepth 100000
set_option maxHeartbeats 4000000
theorem serveA_len (c : Copy) (m : Msg) : (serveA c m).2.1.length ≤ 1 := by
  unfold serveA; repeat' split
  all_goals simp
abbrev aserq0 (c : Copy) : OB := some ⟨3, [[VI c.at_.time, VI c.at_.who, .v (.string c.data)]]⟩
abbrev aserq1 (m : Msg) : OB := some ⟨6, [[VI m.kind, VI m.op, VI m.node, VI m.copy.at_.time, VI m.copy.at_.who, .v (.string m.copy.data)]]⟩
abbrev aserq2 (m : Msg) : AV := .agg [VI m.kind, VI m.op, VI m.node, VI m.copy.at_.time, VI m.copy.at_.who, .v (.string m.copy.data)]
abbrev aserq3 (m : Msg) (c : Copy) : LS := [(13, (aserq2 m)), (12, .agg [VI c.at_.time, VI c.at_.who, .v (.string c.data)]), (3, .ref 1 6 0 0), (2, .ref 0 3 0 0)]
abbrev aserq4 (c : Copy) (m : Msg) : AV := .agg [VI ((((serveA c m).1).at_).time), VI ((((serveA c m).1).at_).who), .v (.string (((serveA c m).1).data))]
abbrev aserq5 (c : Copy) (m : Msg) : LS := (14, .tup [(aserq4 c m), .lst 6 (((serveA c m).2.1).map Msg.cs), VI ((serveA c m).2.2)]) :: (aserq3 m c)
abbrev aserq6 (c : Copy) (m : Msg) : OB := some ⟨3, [[VI ((((serveA c m).1).at_).time), VI ((((serveA c m).1).at_).who), .v (.string (((serveA c m).1).data))]]⟩
abbrev aserq7 (c : Copy) (m : Msg) : LS := [(7, VI ((serveA c m).2.2)), (6, .lst 6 (((serveA c m).2.1).map Msg.cs)), (5, .ref 2 3 0 0), (3, .ref 1 6 0 0), (2, .ref 0 3 0 0)]
abbrev aserq8 (m : Msg) (c : Copy) : LS := (20, (aserq2 m)) :: (19, .agg [VI c.at_.time, VI c.at_.who, .v (.string c.data)]) :: (aserq7 c m)
abbrev aserq9 (c : Copy) (m : Msg) : LS := (21, .tup [(aserq4 c m), .lst 6 (((serveA c m).2.1).map Msg.cs), VI ((serveA c m).2.2)]) :: (aserq8 m c)
abbrev aserq10 (c : Copy) (m : Msg) : LS := [(10, VI ((serveA c m).2.2)), (9, .lst 6 (((serveA c m).2.1).map Msg.cs)), (8, .ref 3 3 0 0), (7, VI ((serveA c m).2.2)), (6, .lst 6 (((serveA c m).2.1).map Msg.cs)), (5, .ref 2 3 0 0)]
abbrev aserq11 (c : Copy) (m : Msg) : LS := (28, (aserq4 c m)) :: (27, (aserq4 c m)) :: (26, .v (.bool true)) :: (25, .v (.bool true)) :: (aserq10 c m)
abbrev aserq12 (c : Copy) (m : Msg) : LS := (33, .lst 6 (((serveA c m).2.1).map Msg.cs)) :: (32, .lst 6 (((serveA c m).2.1).map Msg.cs)) :: (31, .v (.bool true)) :: (30, .v (.bool true)) :: (29, .v (.bool true)) :: (aserq11 c m)
theorem askServes_fn (c : Copy) (m : Msg) : Fn Tryd.prog 4 [.agg [VI c.at_.time, VI c.at_.who, .v (.string c.data)], .agg [VI m.kind, VI m.op, VI m.node, VI m.copy.at_.time, VI m.copy.at_.who, .v (.string m.copy.data)]] (.v (.bool true)) := by
  refine fn_walkW F4_ok (of_decide_eq_true (by kernel_rfl)) ?_
  refine EL.sreg ?_
  refine OW.last 3 [2, 3] (x' := ⟨[(3, .ref 1 6 0 0), (2, .ref 0 3 0 0)], [(aserq0 c), (aserq1 m)]⟩) (by kernel_rfl) (by kernel_rfl) ?_
  refine EL.sreg ?_
  refine OW.run 2 (x' := ⟨(aserq3 m c), [(aserq0 c), (aserq1 m)]⟩) (by kernel_rfl) ?_
  refine OW.fn (ar := [.agg [VI c.at_.time, VI c.at_.who, .v (.string c.data)], (aserq2 m)]) (x' := ⟨(aserq5 c m), [(aserq0 c), (aserq1 m)]⟩) (by kernel_rfl) (by kernel_rfl) F16_call (serve_fn c m) (by kernel_rfl) (by kernel_rfl) ?_
  refine OW.last 8 [2, 3, 5, 6, 7] (x' := ⟨(aserq7 c m), [(aserq0 c), (aserq1 m), (aserq6 c m)]⟩) (by kernel_rfl) (by kernel_rfl) ?_
  refine EL.sreg ?_
  refine OW.run 2 (x' := ⟨(aserq8 m c), [(aserq0 c), (aserq1 m), (aserq6 c m)]⟩) (by kernel_rfl) ?_
  refine OW.fn (ar := [.agg [VI c.at_.time, VI c.at_.who, .v (.string c.data)], (aserq2 m)]) (x' := ⟨(aserq9 c m), [(aserq0 c), (aserq1 m), (aserq6 c m)]⟩) (by kernel_rfl) (by kernel_rfl) F17_call (rserve_fn c m) (by kernel_rfl) (by kernel_rfl) ?_
  refine OW.last 8 [5, 6, 7, 8, 9, 10] (x' := ⟨(aserq10 c m), [(aserq0 c), (aserq1 m), (aserq6 c m), (aserq6 c m)]⟩) (by kernel_rfl) (by kernel_rfl) ?_
  refine EL.sreg ?_
  refine OW.fn (ar := []) (x' := ⟨(25, .v (.bool true)) :: (aserq10 c m), [(aserq0 c), (aserq1 m), (aserq6 c m), (aserq6 c m)]⟩) (by kernel_rfl) (by kernel_rfl) F12_call (begun_fn) (by kernel_rfl) (by kernel_rfl) ?_
  refine OW.run 6 (x' := ⟨(31, .v (.bool ((((((serveA c m).1).at_).time) == (((serveA c m).1).at_).time) && ((((((serveA c m).1).at_).who) == (((serveA c m).1).at_).who) && (strEq (((serveA c m).1).data) (((serveA c m).1).data) && true))))) :: (30, .v (.bool ((((((serveA c m).1).at_).time) == (((serveA c m).1).at_).time) && ((((((serveA c m).1).at_).who) == (((serveA c m).1).at_).who) && (strEq (((serveA c m).1).data) (((serveA c m).1).data) && true))))) :: (29, .v (.bool ((((((serveA c m).1).at_).time) == (((serveA c m).1).at_).time) && ((((((serveA c m).1).at_).who) == (((serveA c m).1).at_).who) && (strEq (((serveA c m).1).data) (((serveA c m).1).data) && true))))) :: (aserq11 c m), [(aserq0 c), (aserq1 m), (aserq6 c m), (aserq6 c m)]⟩) (by kernel_rfl) ?_
  rcases Bool.eq_false_or_eq_true (((((((serveA c m).1).at_).time) == (((serveA c m).1).at_).time) && ((((((serveA c m).1).at_).who) == (((serveA c m).1).at_).who) && (strEq (((serveA c m).1).data) (((serveA c m).1).data) && true)))) with h1 | h1
  rw [h1]
  refine OW.run 2 (x' := ⟨(aserq12 c m), [(aserq0 c), (aserq1 m), (aserq6 c m), (aserq6 c m)]⟩) (by kernel_rfl) ?_
  refine OW.fn (ar := [.lst 6 (((serveA c m).2.1).map Msg.cs), .lst 6 (((serveA c m).2.1).map Msg.cs)]) (x' := ⟨(34, .v (.bool (decide (((serveA c m).2.1) = ((serveA c m).2.1))))) :: (aserq12 c m), [(aserq0 c), (aserq1 m), (aserq6 c m), (aserq6 c m)]⟩) (by kernel_rfl) (by kernel_rfl) F15_call (sameMsgs_fn ((serveA c m).2.1) ((serveA c m).2.1) (by have := serveA_len c m; omega)) (by kernel_rfl) (by kernel_rfl) ?_
  refine OW.run 2 (x' := ⟨(36, .v (.bool (decide (((serveA c m).2.1) = ((serveA c m).2.1))))) :: (35, .v (.bool (decide (((serveA c m).2.1) = ((serveA c m).2.1))))) :: (34, .v (.bool (decide (((serveA c m).2.1) = ((serveA c m).2.1))))) :: (aserq12 c m), [(aserq0 c), (aserq1 m), (aserq6 c m), (aserq6 c m)]⟩) (by kernel_rfl) ?_
  have h2 : decide (((serveA c m).2.1) = ((serveA c m).2.1)) = true := by simp [strEq_iff]
  rw [h2]
  refine OW.last 5 [4] (x' := ⟨[(4, .v (.bool (((serveA c m).2.2) == (serveA c m).2.2)))], [(aserq0 c), (aserq1 m), (aserq6 c m), (aserq6 c m)]⟩) (by kernel_rfl) (by kernel_rfl) ?_
  refine EL.ret ?_
  refine ⟨.inr rfl, .v (.bool (((serveA c m).2.2) == (serveA c m).2.2)), by kernel_rfl, Ale.of_eq ?_⟩
  focus (first | rfl | (simp [*]; done) | (simp_all; done) | (exfalso; simp_all [strEq]; done))
  rw [h1]
  refine OW.last 10 [4] (x' := ⟨[(4, .v (.bool false))], [(aserq0 c), (aserq1 m), (aserq6 c m), (aserq6 c m)]⟩) (by kernel_rfl) (by kernel_rfl) ?_
  refine EL.ret ?_
  refine ⟨.inr rfl, .v (.bool false), by kernel_rfl, Ale.of_eq ?_⟩
  focus (first | rfl | (simp [*]; done) | (simp_all; done) | (exfalso; simp_all [strEq]; done))
theorem AskServes_walk {w : World} (hG : GlE (E0 w fun b => b < w.heap.size)) (c : Copy) (_okc : c.ok) (m : Msg) (_okm : m.ok) : Calls Tryd.prog 4 #[c.v, m.v] w fun e w' => e = .returned (.bool true) ∧ Below w.heap.size w w' := by
  exact fn_law (vs := [c.v, m.v]) (askServes_fn c m ) hG (.cons ((R2.agg (.cons (.v rfl) (.cons (.v rfl) (.cons (.v rfl) (.nil)))) : Rep _ c.v _)) (.cons ((R2.agg (.cons (.v rfl) (.cons (.v rfl) (.cons (.v rfl) (.cons (.v rfl) (.cons (.v rfl) (.cons (.v rfl) (.nil))))))) : Rep _ m.v _)) (.nil)))
theorem AskServes_own : ownKnob Tryd.prog.godebug = none := by kernel_rfl
theorem AskServes_laidOut : laidOutB Tryd.prog = true := by kernel_rfl
set_option maxRecDepth 100000 in
set_option linter.unusedVariables false in
theorem AskServes_lifted (os : Os) (started : os.Started) (H : Type) (enc : TypeId × Value → H) :
    ReturnsInHanded {} Tryd.checked os 4 .any (fun w args => (Rows.askServesSpec.pre enc Tryd.prog Tryd.f4 [] false w args ∧ laidMetH Tryd.prog Rows.askServesRow.laid w) ∧ sizedMet enc Tryd.prog Tryd.f4 (OpenSpec.ofChange Rows.askServesSpec) false w args)
      (Rows.askServesSpec.post enc Tryd.prog Tryd.f4 false true false false) := by
  refine returnsInHanded_of_change_and (C := Tryd.checked) (X := fun w _ => laidMetH Tryd.prog Rows.askServesRow.laid w) (fun _ _ _ hh h => h.of_heap hh) AskServes_own started (by kernel_rfl) Tryd.func4
    (ChangeSpec.witness_shaped (enc := enc) (C := Tryd.checked) (os := os) (X := fun w _ => laidMetH Tryd.prog Rows.askServesRow.laid w) false (World.doorLaid Tryd.prog 14 os) #[.agg #[.int .i64 0, .int .i64 0, .string ByteArray.empty], .agg #[.int .i64 0, .int .i64 0, .int .i64 0, .int .i64 0, .int .i64 0, .string ByteArray.empty]] 8 rfl (World.shaped_of_RefB (by kernel_rfl) (by kernel_rfl)) (by kernel_rfl) (by kernel_rfl) (by kernel_rfl) (laidMetH_of_parts3 (fuel := 8) (laidMet_of_run' 8 (by kernel_rfl) (by kernel_rfl)) (by kernel_rfl) (by kernel_rfl))) ?_
  intro W base args ds gs before hval0 hW _ _ hL _
  have hval : ∀ (j : Nat) t v, Tryd.f4.params[j]? = some t → args[j]? = some v → Value.okWide Tryd.prog W .any base t v := hval0
  have hW' := hW
  obtain ⟨p, q, hA0, hV, rfl, hfz, hnd⟩ := hW
  have hA : DataW.TrodAll enc Tryd.prog W 0 (fun _ => true) true Tryd.f4.params.toList args.toList ds p := hA0
  rw [Tryd.params4] at hA hval
  obtain ⟨v0, vs0, d0, ds0, p0, q0, hargs, rfl, rfl, h0, r0⟩ := trodAll_cons hA
  obtain ⟨v1, vs1, d1, ds1, p1, q1, rfl, rfl, rfl, h1, r1⟩ := trodAll_cons r0
  obtain ⟨rfl, rfl, rfl⟩ := trodAll_nil r1
  obtain rfl : args = #[v0, v1] := by cases args; simp_all
  obtain ⟨rfl, rfl⟩ := trodVars_none hV
  have k0 := h0
  have lt0 : ∀ x ∈ p0, x.block < W.heap.size := by obtain ⟨m, hm⟩ := k0; exact DataW.trod_lt m _ _ _ hm
  obtain ⟨x0, cs0, rfl, w0⟩ := open_agg opens_Copy Tryd.underlying28 (hval 0 28 v0 rfl rfl) h0
  obtain ⟨rfl, ok0⟩ := Copy.flat w0
  have k1 := h1
  have lt1 : ∀ x ∈ p1, x.block < W.heap.size := by obtain ⟨m, hm⟩ := k1; exact DataW.trod_lt m _ _ _ hm
  obtain ⟨x1, cs1, rfl, w1⟩ := open_agg opens_Msg Tryd.underlying33 (hval 1 33 v1 rfl rfl) h1
  obtain ⟨rfl, ok1⟩ := Msg.flat w1
  clear hA0 hval0
  refine (AskServes_walk (w := W) (glE_of hL) x0 ok0 x1 ok1).mono fun e W' ⟨he, bel⟩ => ?_
  subst he
  exact ⟨_, rfl, _, _, _, [], _, [], hW', trodAll_mk1 (shut_bool Tryd.underlying4 _), (trodAll_cons_mk (Below.trod AskServes_laidOut (by kernel_rfl) (of_decide_eq_true (by kernel_rfl)) k0 bel lt0) (trodAll_cons_mk (Below.trod AskServes_laidOut (by kernel_rfl) (of_decide_eq_true (by kernel_rfl)) k1 bel lt1) trodAll_mk0)), rfl, bel.frame _, fun h => by cases h⟩
set_option maxRecDepth 100000 in
set_option maxHeartbeats 4000000 in
theorem AskServes_row : Rows.AskServesSaid :=
  OpenClaim.holds_of_wide 4 Tryd.f4 rfl rfl rfl rfl rfl rfl rfl ⟨rfl, rfl, rfl, rfl, rfl⟩ rfl rfl rfl rfl rfl (by kernel_rfl) Tryd.func4 (by kernel_rfl)
    (of_decide_eq_true (by kernel_rfl)) (by unfold Func.isWrapper; first | (rw [if_pos (by decide +kernel)]; kernel_rfl) | (rw [if_neg (by decide +kernel)]; exact ⟨rfl, rfl⟩))
    (fun os started H enc _ => AskServes_lifted os started H enc)
set_option maxRecDepth 100000 in
set_option maxHeartbeats 4000000 in
theorem AskServes_holds : Rows.AskServesCardSaid :=
  Claim7.holds_tied_plain_at .later [] [.data] true (true, "5bc4e28d4169921c484dbcdca1986270267f967a52b7c27f070fd8606f0cf834") false
    AskServes_row (fun _ h => by cases h) (by kernel_rfl) (fun _ h => by cases h) askServes_row_tie rfl ⟨rfl, rfl⟩ (by kernel_rfl) rfl
    (fun f fn hf hfn => by
      obtain rfl : f = 4 := Option.some.inj ((show Tryd.prog.funcNamed "supercargo/supercargolaw.AskServes" = some 4 by kernel_rfl).symm.trans hf) |>.symm
      obtain rfl : fn = Tryd.f4 := (Option.some.inj (Tryd.func4.symm.trans hfn)).symm
      exact ⟨by kernel_rfl, fun j t ht => by
        rw [Tryd.params4] at ht
        have hm : t ∈ [28, 33] := by simpa using Array.mem_of_getElem? ht
        have hall : ([28, 33].all fun u => !Tryd.prog.wantsStandIn u) = true := by kernel_rfl
        exact (show Tryd.prog.wantsStandIn t = false by simpa using List.all_eq_true.1 hall t hm)⟩)
    (by kernel_rfl)
end Go.Proofs.YtgepadjkegfokaaDoor
