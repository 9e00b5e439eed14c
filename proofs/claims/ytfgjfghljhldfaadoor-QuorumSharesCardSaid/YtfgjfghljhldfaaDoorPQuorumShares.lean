/- Two sets that are enough share a node, one that weighs something: the law QuorumShares returns true. No condition. -/
import Derived.Test.YtfgjfghljhldfaaDoorPQuorL
import Derived.Test.YtfgjfghljhldfaaDoorPQuorC
import Derived.WalkKit
import Derived.Handy
import Derived.ProofKit
import Derived.OpenShut
import Derived.ShutString
import Derived.ChangeOld
import Derived.Below
import Derived.Lib.Hide
import Derived.WalkLawsBesides
import Derived.WalkSpells
import Derived.Deep.QuietTactic
import Derived.BigQuiet
import Derived.Outline
import Derived.SevenTiedAt
namespace Go.Proofs.YtfgjfghljhldfaaDoor
set_option linter.unusedSimpArgs false
set_option linter.unusedVariables false
open Go.ChangeShapes Go.WideShapes Go.ChangeAt Go.RowKit
open Go.ChangeMaps (open_string shut_string)
set_option maxRecDepth 100000
set_option maxHeartbeats 4000000
abbrev qsq0 (weights : List Int) (need : Int) (a : U64) (b : U64) : LS := [(0, .lst 1 (weights.map cI)), (1, VI need), (2, .v (.int .u64 (a.n : Int))), (3, .v (.int .u64 (b.n : Int)))]
abbrev qsq1 (a : U64) (need : Int) (weights : List Int) (b : U64) : LS := (18, .v (.int .u64 (a.n : Int))) :: (17, VI need) :: (16, .lst 1 (weights.map cI)) :: (qsq0 weights need a b)
abbrev qsq2 (weights : List Int) (a : U64) (b : U64) : LS := [(0, .lst 1 (weights.map cI)), (2, .v (.int .u64 (a.n : Int))), (3, .v (.int .u64 (b.n : Int)))]
abbrev qsq3 (b : U64) (a : U64) (weights : List Int) : LS := (48, .v (.int .u64 (b.n : Int))) :: (47, .v (.int .u64 (a.n : Int))) :: (46, .lst 1 (weights.map cI)) :: (44, .v (.bool false)) :: (qsq2 weights a b)
abbrev qsq4 (weights : List Int) (a : U64) (b : U64) : LS := (50, .tup [VI ((sumP weights (uAnd a b).n).1), VI ((sumP weights (uAnd a b).n).2)]) :: (49, .v (.int .u64 ((uAnd a b).n : Int))) :: (qsq3 b a weights)
abbrev qsq5 (weights : List Int) (a : U64) (b : U64) : LS := [(14, VI ((sumP weights (uAnd a b).n).2)), (13, VI ((sumP weights (uAnd a b).n).1)), (2, .v (.int .u64 (a.n : Int))), (3, .v (.int .u64 (b.n : Int)))]
abbrev qsq6 (weights : List Int) (a : U64) (b : U64) : LS := (53, VI ((sumP weights (uAnd a b).n).2)) :: (qsq5 weights a b)
abbrev qsq7 (b : U64) (a : U64) (weights : List Int) : LS := (57, .v (.int .u64 (b.n : Int))) :: (56, .v (.int .u64 (a.n : Int))) :: (55, .v (.bool true)) :: (54, .v (.bool true)) :: (qsq6 weights a b)
theorem quorumShares_fn (weights : List Int) (need : Int) (a : U64) (b : U64) (hx : weights.length ≤ 9223372036854775807) : Fn Tryd.prog 4 [.lst 1 (weights.map cI), VI need, .v (.int .u64 (a.n : Int)), .v (.int .u64 (b.n : Int))] (.v (.bool true)) := by
  refine fn_walkW F4_ok (of_decide_eq_true (by kernel_rfl)) ?_
  refine EL.sreg ?_
  refine OW.last 1 [0, 1, 2, 3] (x' := ⟨(qsq0 weights need a b), []⟩) (by kernel_rfl) (by kernel_rfl) ?_
  refine EL.sreg ?_
  refine OW.run 3 (x' := ⟨(qsq1 a need weights b), []⟩) (by kernel_rfl) ?_
  refine OW.fn (ar := [.lst 1 (weights.map cI), VI need, .v (.int .u64 (a.n : Int))]) (x' := ⟨(19, .tup [.v (.bool ((enoughP weights need a.n).1)), VI ((enoughP weights need a.n).2)]) :: (qsq1 a need weights b), []⟩) (by kernel_rfl) (by kernel_rfl) F10_call (enough_fn weights need a hx) (by kernel_rfl) (by kernel_rfl) ?_
  refine OW.last 5 [0, 1, 2, 3, 9, 10] (x' := ⟨(10, VI ((enoughP weights need a.n).2)) :: (9, .v (.bool ((enoughP weights need a.n).1))) :: (qsq0 weights need a b), []⟩) (by kernel_rfl) (by kernel_rfl) ?_
  refine EL.sreg ?_
  refine OW.run 3 (x' := ⟨(25, .v (.int .u64 (b.n : Int))) :: (24, VI need) :: (23, .lst 1 (weights.map cI)) :: (10, VI ((enoughP weights need a.n).2)) :: (9, .v (.bool ((enoughP weights need a.n).1))) :: (qsq0 weights need a b), []⟩) (by kernel_rfl) ?_
  refine OW.fn (ar := [.lst 1 (weights.map cI), VI need, .v (.int .u64 (b.n : Int))]) (x' := ⟨(26, .tup [.v (.bool ((enoughP weights need b.n).1)), VI ((enoughP weights need b.n).2)]) :: (25, .v (.int .u64 (b.n : Int))) :: (24, VI need) :: (23, .lst 1 (weights.map cI)) :: (10, VI ((enoughP weights need a.n).2)) :: (9, .v (.bool ((enoughP weights need a.n).1))) :: (qsq0 weights need a b), []⟩) (by kernel_rfl) (by kernel_rfl) F10_call (enough_fn weights need b hx) (by kernel_rfl) (by kernel_rfl) ?_
  refine OW.last 5 [0, 2, 3, 9, 10, 11, 12] (x' := ⟨(12, VI ((enoughP weights need b.n).2)) :: (11, .v (.bool ((enoughP weights need b.n).1))) :: (10, VI ((enoughP weights need a.n).2)) :: (9, .v (.bool ((enoughP weights need a.n).1))) :: (qsq2 weights a b), []⟩) (by kernel_rfl) (by kernel_rfl) ?_
  refine EL.seq ?_
  refine EL.sreg ?_
  refine OW.fn (ar := []) (x' := ⟨(29, .v (.bool true)) :: (12, VI ((enoughP weights need b.n).2)) :: (11, .v (.bool ((enoughP weights need b.n).1))) :: (10, VI ((enoughP weights need a.n).2)) :: (9, .v (.bool ((enoughP weights need a.n).1))) :: (qsq2 weights a b), []⟩) (by kernel_rfl) (by kernel_rfl) F17_call (qbegun_fn) (by kernel_rfl) (by kernel_rfl) ?_
  refine OW.last 1 [0, 2, 3, 9, 10, 11, 12, 30] (x' := ⟨(30, .v (.bool false)) :: (12, VI ((enoughP weights need b.n).2)) :: (11, .v (.bool ((enoughP weights need b.n).1))) :: (10, VI ((enoughP weights need a.n).2)) :: (9, .v (.bool ((enoughP weights need a.n).1))) :: (qsq2 weights a b), []⟩) (by kernel_rfl) (by kernel_rfl) ?_
  refine EL.condF (by kernel_rfl) ?_
  refine EL.skip ?_
  refine thenL_norm ?_
  refine EL.seq ?_
  refine EL.sreg ?_
  refine OW.run 3 (x' := ⟨(33, .v (.bool (((enoughP weights need a.n).2) != 0))) :: (32, .v (.bool (((enoughP weights need a.n).2) != 0))) :: (31, VI ((enoughP weights need a.n).2)) :: (30, .v (.bool false)) :: (12, VI ((enoughP weights need b.n).2)) :: (11, .v (.bool ((enoughP weights need b.n).1))) :: (10, VI ((enoughP weights need a.n).2)) :: (9, .v (.bool ((enoughP weights need a.n).1))) :: (qsq2 weights a b), []⟩) (by kernel_rfl) ?_
  rcases Bool.eq_false_or_eq_true ((((enoughP weights need a.n).2) != 0)) with h1 | h1
  rw [h1]
  have g1 : ¬ (((enoughP weights need a.n).2) = 0) := by simpa using h1
  refine OW.last 11 [0, 2, 3, 44] (x' := ⟨(44, .v (.bool true)) :: (qsq2 weights a b), []⟩) (by kernel_rfl) (by kernel_rfl) ?_
  refine EL.condT (by kernel_rfl) ?_
  refine EL.sreg ?_
  refine OW.last 1 [8] (x' := ⟨[(8, .v (.bool true))], []⟩) (by kernel_rfl) (by kernel_rfl) ?_
  refine EL.ret ?_
  refine thenL_ret ?_
  refine ⟨.inr rfl, .v (.bool true), by kernel_rfl, Ale.of_eq ?_⟩
  focus ((refine congrArg (fun b => AV.v (Value.bool b)) ?_; first | rfl | (have h9 := shares (ws := weights) (need := need) (a := a) (b := b) (by assumption) (by assumption) (by assumption) (by assumption); obtain ⟨e1, e2, e3⟩ := h9; first | (exfalso; omega) | (simp_all; done) | (simp; omega))))
  rw [h1]
  have g1 : (((enoughP weights need a.n).2) = 0) := by simpa using h1
  refine OW.run 4 (x' := ⟨(37, .v (.bool (((enoughP weights need b.n).2) != 0))) :: (36, .v (.bool (((enoughP weights need b.n).2) != 0))) :: (35, .v (.bool (((enoughP weights need b.n).2) != 0))) :: (34, VI ((enoughP weights need b.n).2)) :: (33, .v (.bool false)) :: (32, .v (.bool false)) :: (31, VI ((enoughP weights need a.n).2)) :: (30, .v (.bool false)) :: (12, VI ((enoughP weights need b.n).2)) :: (11, .v (.bool ((enoughP weights need b.n).1))) :: (10, VI ((enoughP weights need a.n).2)) :: (9, .v (.bool ((enoughP weights need a.n).1))) :: (qsq2 weights a b), []⟩) (by kernel_rfl) ?_
  rcases Bool.eq_false_or_eq_true ((((enoughP weights need b.n).2) != 0)) with h2 | h2
  rw [h2]
  have g2 : ¬ (((enoughP weights need b.n).2) = 0) := by simpa using h2
  refine OW.last 7 [0, 2, 3, 44] (x' := ⟨(44, .v (.bool true)) :: (qsq2 weights a b), []⟩) (by kernel_rfl) (by kernel_rfl) ?_
  refine EL.condT (by kernel_rfl) ?_
  refine EL.sreg ?_
  refine OW.last 1 [8] (x' := ⟨[(8, .v (.bool true))], []⟩) (by kernel_rfl) (by kernel_rfl) ?_
  refine EL.ret ?_
  refine thenL_ret ?_
  refine ⟨.inr rfl, .v (.bool true), by kernel_rfl, Ale.of_eq ?_⟩
  focus ((refine congrArg (fun b => AV.v (Value.bool b)) ?_; first | rfl | (have h9 := shares (ws := weights) (need := need) (a := a) (b := b) (by assumption) (by assumption) (by assumption) (by assumption); obtain ⟨e1, e2, e3⟩ := h9; first | (exfalso; omega) | (simp_all; done) | (simp; omega))))
  rw [h2]
  have g2 : (((enoughP weights need b.n).2) = 0) := by simpa using h2
  refine OW.run 4 (x' := ⟨(41, .v (.bool (!((enoughP weights need a.n).1)))) :: (40, .v (.bool (!((enoughP weights need a.n).1)))) :: (39, .v (.bool (!((enoughP weights need a.n).1)))) :: (38, .v (.bool ((enoughP weights need a.n).1))) :: (37, .v (.bool false)) :: (36, .v (.bool false)) :: (35, .v (.bool false)) :: (34, VI ((enoughP weights need b.n).2)) :: (33, .v (.bool false)) :: (32, .v (.bool false)) :: (31, VI ((enoughP weights need a.n).2)) :: (30, .v (.bool false)) :: (12, VI ((enoughP weights need b.n).2)) :: (11, .v (.bool ((enoughP weights need b.n).1))) :: (10, VI ((enoughP weights need a.n).2)) :: (9, .v (.bool ((enoughP weights need a.n).1))) :: (qsq2 weights a b), []⟩) (by kernel_rfl) ?_
  rcases Bool.eq_false_or_eq_true ((enoughP weights need a.n).1) with h3 | h3
  rw [h3]
  refine OW.last 3 [0, 2, 3, 44] (x' := ⟨(44, .v (.bool (!((enoughP weights need b.n).1)))) :: (qsq2 weights a b), []⟩) (by kernel_rfl) (by kernel_rfl) ?_
  rcases Bool.eq_false_or_eq_true ((enoughP weights need b.n).1) with h4 | h4
  rw [h4]
  refine EL.condF (by kernel_rfl) ?_
  refine EL.skip ?_
  refine thenL_norm ?_
  refine EL.sreg ?_
  refine OW.run 4 (x' := ⟨(49, .v (.int .u64 (bits .and .u64 (a.n : Int) (b.n : Int)))) :: (qsq3 b a weights), []⟩) (by kernel_rfl) ?_
  have e5 : bits .and .u64 (a.n : Int) (b.n : Int) = ((uAnd a b).n : Int) := uAnd_bits (by omega)
  rw [e5]
  clear e5
  refine OW.fn (ar := [.lst 1 (weights.map cI), .v (.int .u64 ((uAnd a b).n : Int))]) (x' := ⟨(qsq4 weights a b), []⟩) (by kernel_rfl) (by kernel_rfl) F9_call (sum_fn weights (uAnd a b) hx) (by kernel_rfl) (by kernel_rfl) ?_
  refine OW.last 5 [2, 3, 13, 14] (x' := ⟨(qsq5 weights a b), []⟩) (by kernel_rfl) (by kernel_rfl) ?_
  refine EL.sreg ?_
  refine OW.run 3 (x' := ⟨(55, .v (.bool (((sumP weights (uAnd a b).n).2) == 0))) :: (54, .v (.bool (((sumP weights (uAnd a b).n).2) == 0))) :: (qsq6 weights a b), []⟩) (by kernel_rfl) ?_
  rcases Bool.eq_false_or_eq_true ((((sumP weights (uAnd a b).n).2) == 0)) with h6 | h6
  rw [h6]
  have g6 : (((sumP weights (uAnd a b).n).2) = 0) := by simpa using h6
  refine OW.run 6 (x' := ⟨(61, .v (.bool ((bits .and .u64 (a.n : Int) (b.n : Int)) != 0))) :: (60, .v (.bool ((bits .and .u64 (a.n : Int) (b.n : Int)) != 0))) :: (59, .v (.bool ((bits .and .u64 (a.n : Int) (b.n : Int)) != 0))) :: (58, .v (.int .u64 (bits .and .u64 (a.n : Int) (b.n : Int)))) :: (qsq7 b a weights), []⟩) (by kernel_rfl) ?_
  have e7 : bits .and .u64 (a.n : Int) (b.n : Int) = ((uAnd a b).n : Int) := uAnd_bits (by omega)
  rw [e7]
  clear e7
  rcases Bool.eq_false_or_eq_true ((((uAnd a b).n : Int) != 0)) with h8 | h8
  rw [h8]
  have g8 : ¬ (((uAnd a b).n : Int) = 0) := by simpa using h8
  refine OW.last 4 [8] (x' := ⟨[(8, .v (.bool (decide (((sumP weights (uAnd a b).n).1) > 0))))], []⟩) (by kernel_rfl) (by kernel_rfl) ?_
  refine EL.ret ?_
  refine ⟨.inr rfl, .v (.bool (decide (((sumP weights (uAnd a b).n).1) > 0))), by kernel_rfl, Ale.of_eq ?_⟩
  focus ((refine congrArg (fun b => AV.v (Value.bool b)) ?_; first | rfl | (have h9 := shares (ws := weights) (need := need) (a := a) (b := b) (by assumption) (by assumption) (by assumption) (by assumption); obtain ⟨e1, e2, e3⟩ := h9; first | (exfalso; omega) | (simp_all; done) | (simp; omega))))
  rw [h8]
  have g8 : (((uAnd a b).n : Int) = 0) := by simpa using h8
  refine OW.last 4 [8] (x' := ⟨[(8, .v (.bool false))], []⟩) (by kernel_rfl) (by kernel_rfl) ?_
  refine EL.ret ?_
  refine ⟨.inr rfl, .v (.bool false), by kernel_rfl, Ale.of_eq ?_⟩
  focus ((refine congrArg (fun b => AV.v (Value.bool b)) ?_; first | rfl | (have h9 := shares (ws := weights) (need := need) (a := a) (b := b) (by assumption) (by assumption) (by assumption) (by assumption); obtain ⟨e1, e2, e3⟩ := h9; first | (exfalso; omega) | (simp_all; done) | (simp; omega))))
  rw [h6]
  have g6 : ¬ (((sumP weights (uAnd a b).n).2) = 0) := by simpa using h6
  refine OW.last 10 [8] (x' := ⟨[(8, .v (.bool false))], []⟩) (by kernel_rfl) (by kernel_rfl) ?_
  refine EL.ret ?_
  refine ⟨.inr rfl, .v (.bool false), by kernel_rfl, Ale.of_eq ?_⟩
  focus ((refine congrArg (fun b => AV.v (Value.bool b)) ?_; first | rfl | (have h9 := shares (ws := weights) (need := need) (a := a) (b := b) (by assumption) (by assumption) (by assumption) (by assumption); obtain ⟨e1, e2, e3⟩ := h9; first | (exfalso; omega) | (simp_all; done) | (simp; omega))))
  rw [h4]
  refine EL.condT (by kernel_rfl) ?_
  refine EL.sreg ?_
  refine OW.last 1 [8] (x' := ⟨[(8, .v (.bool true))], []⟩) (by kernel_rfl) (by kernel_rfl) ?_
  refine EL.ret ?_
  refine thenL_ret ?_
  refine ⟨.inr rfl, .v (.bool true), by kernel_rfl, Ale.of_eq ?_⟩
  focus ((refine congrArg (fun b => AV.v (Value.bool b)) ?_; first | rfl | (have h9 := shares (ws := weights) (need := need) (a := a) (b := b) (by assumption) (by assumption) (by assumption) (by assumption); obtain ⟨e1, e2, e3⟩ := h9; first | (exfalso; omega) | (simp_all; done) | (simp; omega))))
  rw [h3]
  refine OW.last 3 [0, 2, 3, 44] (x' := ⟨(44, .v (.bool true)) :: (qsq2 weights a b), []⟩) (by kernel_rfl) (by kernel_rfl) ?_
  refine EL.condT (by kernel_rfl) ?_
  refine EL.sreg ?_
  refine OW.last 1 [8] (x' := ⟨[(8, .v (.bool true))], []⟩) (by kernel_rfl) (by kernel_rfl) ?_
  refine EL.ret ?_
  refine thenL_ret ?_
  refine ⟨.inr rfl, .v (.bool true), by kernel_rfl, Ale.of_eq ?_⟩
  focus ((refine congrArg (fun b => AV.v (Value.bool b)) ?_; first | rfl | (have h9 := shares (ws := weights) (need := need) (a := a) (b := b) (by assumption) (by assumption) (by assumption) (by assumption); obtain ⟨e1, e2, e3⟩ := h9; first | (exfalso; omega) | (simp_all; done) | (simp; omega))))
theorem QuorumShares_walk {w : World} (hG : GlE (E0 w fun b => b < w.heap.size)) (weights : List Int) (Aweights : Option Addr) (nweights cweights : Nat) (rweights : GoT.rep w w.heap.size [.slice Aweights nweights cweights] weights) (need : Int) (_wneed : (Lit.int .i64 need).wf = true) (a : U64) (b : U64) : Calls Tryd.prog 4 #[.slice Aweights nweights cweights, I need, .int .u64 (a.n : Int), .int .u64 (b.n : Int)] w fun e w' => e = .returned (.bool true) ∧ Below w.heap.size w w' := by
  have lweights := rep_len rweights
  exact fn_law (vs := [.slice Aweights nweights cweights, I need, .int .u64 (a.n : Int), .int .u64 (b.n : Int)]) (quorumShares_fn weights need a b (by first | assumption | omega)) hG (.cons (rep_list (fun x : Int => [I x]) _ int_flat (fun _ => rfl) (by intro x v hv; simp at hv; rcases hv with rfl <;> exact ⟨rfl, rfl⟩) rweights) (.cons (.v rfl) (.cons (.v rfl) (.cons (.v rfl) (.nil)))))
theorem QuorumShares_own : ownKnob Tryd.prog.godebug = none := by kernel_rfl
theorem QuorumShares_laidOut : laidOutB Tryd.prog = true := by kernel_rfl
set_option maxRecDepth 100000 in
set_option linter.unusedVariables false in
theorem QuorumShares_lifted (os : Os) (started : os.Started) (H : Type) (enc : TypeId × Value → H) :
    ReturnsInHanded {} Tryd.checked os 4 .any (fun w args => (Rows.quorumSharesSpec.pre enc Tryd.prog Tryd.f4 [] false w args ∧ laidMetH Tryd.prog Rows.quorumSharesRow.laid w) ∧ sizedMet enc Tryd.prog Tryd.f4 (OpenSpec.ofChange Rows.quorumSharesSpec) false w args)
      (Rows.quorumSharesSpec.post enc Tryd.prog Tryd.f4 false true false false) := by
  refine returnsInHanded_of_change_and (C := Tryd.checked) (X := fun w _ => laidMetH Tryd.prog Rows.quorumSharesRow.laid w) (fun _ _ _ hh h => h.of_heap hh) QuorumShares_own started (by kernel_rfl) Tryd.func4
    (ChangeSpec.witness_shaped (enc := enc) (C := Tryd.checked) (os := os) (X := fun w _ => laidMetH Tryd.prog Rows.quorumSharesRow.laid w) false (World.doorLaid Tryd.prog 14 os) #[.slice none 0 0, .int .i64 0, .int .u64 0, .int .u64 0] 8 rfl (World.shaped_of_RefB (by kernel_rfl) (by kernel_rfl)) (by kernel_rfl) (by kernel_rfl) (by kernel_rfl) (laidMetH_of_parts3 (fuel := 8) (laidMet_of_run' 8 (by kernel_rfl) (by kernel_rfl)) (by kernel_rfl) (by kernel_rfl))) ?_
  intro W base args ds gs before hval0 hW _ _ hL _
  have hval : ∀ (j : Nat) t v, Tryd.f4.params[j]? = some t → args[j]? = some v → Value.okWide Tryd.prog W .any base t v := hval0
  have hW' := hW
  obtain ⟨p, q, hA0, hV, rfl, hfz, hnd⟩ := hW
  have hA : DataW.TrodAll enc Tryd.prog W 0 (fun _ => true) true Tryd.f4.params.toList args.toList ds p := hA0
  rw [Tryd.params4] at hA hval
  obtain ⟨v0, vs0, d0, ds0, p0, q0, hargs, rfl, rfl, h0, r0⟩ := trodAll_cons hA
  obtain ⟨v1, vs1, d1, ds1, p1, q1, rfl, rfl, rfl, h1, r1⟩ := trodAll_cons r0
  obtain ⟨v2, vs2, d2, ds2, p2, q2, rfl, rfl, rfl, h2, r2⟩ := trodAll_cons r1
  obtain ⟨v3, vs3, d3, ds3, p3, q3, rfl, rfl, rfl, h3, r3⟩ := trodAll_cons r2
  obtain ⟨rfl, rfl, rfl⟩ := trodAll_nil r3
  obtain rfl : args = #[v0, v1, v2, v3] := by cases args; simp_all
  obtain ⟨rfl, rfl⟩ := trodVars_none hV
  have k0 := h0
  have lt0 : ∀ x ∈ p0, x.block < W.heap.size := by obtain ⟨m, hm⟩ := k0; exact DataW.trod_lt m _ _ _ hm
  obtain ⟨x0, A0, n0, c0, rfl, w0⟩ := open_list opens_Li64 Tryd.underlying22 (hval 0 22 v0 rfl rfl) h0
  have k1 := h1
  have lt1 : ∀ x ∈ p1, x.block < W.heap.size := by obtain ⟨m, hm⟩ := k1; exact DataW.trod_lt m _ _ _ hm
  obtain ⟨a1, rfl, e1, e1', w1⟩ := open_int Tryd.underlying3 (hval 1 3 v1 rfl rfl) h1
  have k2 := h2
  have lt2 : ∀ x ∈ p2, x.block < W.heap.size := by obtain ⟨m, hm⟩ := k2; exact DataW.trod_lt m _ _ _ hm
  obtain ⟨a2, rfl, e2, e2', w2⟩ := open_int Tryd.underlying23 (hval 2 23 v2 rfl rfl) h2
  obtain ⟨x2, rfl⟩ := u64_of_wf w2
  have k3 := h3
  have lt3 : ∀ x ∈ p3, x.block < W.heap.size := by obtain ⟨m, hm⟩ := k3; exact DataW.trod_lt m _ _ _ hm
  obtain ⟨a3, rfl, e3, e3', w3⟩ := open_int Tryd.underlying23 (hval 3 23 v3 rfl rfl) h3
  obtain ⟨x3, rfl⟩ := u64_of_wf w3
  clear hA0 hval0
  refine (QuorumShares_walk (w := W) (glE_of hL) x0 A0 n0 c0 w0 a1 w1 x2 x3).mono fun e W' ⟨he, bel⟩ => ?_
  subst he
  exact ⟨_, rfl, _, _, _, [], _, [], hW', trodAll_mk1 (shut_bool Tryd.underlying4 _), (trodAll_cons_mk (Below.trod QuorumShares_laidOut (by kernel_rfl) (of_decide_eq_true (by kernel_rfl)) k0 bel lt0) (trodAll_cons_mk (Below.trod QuorumShares_laidOut (by kernel_rfl) (of_decide_eq_true (by kernel_rfl)) k1 bel lt1) (trodAll_cons_mk (Below.trod QuorumShares_laidOut (by kernel_rfl) (of_decide_eq_true (by kernel_rfl)) k2 bel lt2) (trodAll_cons_mk (Below.trod QuorumShares_laidOut (by kernel_rfl) (of_decide_eq_true (by kernel_rfl)) k3 bel lt3) trodAll_mk0)))), rfl, bel.frame _, fun h => by cases h⟩
set_option maxRecDepth 100000 in
set_option maxHeartbeats 4000000 in
theorem QuorumShares_row : Rows.QuorumSharesSaid :=
  OpenClaim.holds_of_wide 4 Tryd.f4 rfl rfl rfl rfl rfl rfl rfl ⟨rfl, rfl, rfl, rfl, rfl⟩ rfl rfl rfl rfl rfl (by kernel_rfl) Tryd.func4 (by kernel_rfl)
    (of_decide_eq_true (by kernel_rfl)) (by unfold Func.isWrapper; first | (rw [if_pos (by decide +kernel)]; kernel_rfl) | (rw [if_neg (by decide +kernel)]; exact ⟨rfl, rfl⟩))
    (fun os started H enc _ => QuorumShares_lifted os started H enc)
set_option maxRecDepth 100000 in
set_option maxHeartbeats 4000000 in
theorem QuorumShares_holds : Rows.QuorumSharesCardSaid :=
  Claim7.holds_tied_plain_at .later [] [.data] true (true, "4e0091b368fd50dbe6aea04a975ad067ec1fbf576cf131f96a83b4fbf0e1ad13") false
    QuorumShares_row (fun _ h => by cases h) (by kernel_rfl) (fun _ h => by cases h) quorumShares_row_tie rfl ⟨rfl, rfl⟩ (by kernel_rfl) rfl
    (fun f fn hf hfn => by
      obtain rfl : f = 4 := Option.some.inj ((show Tryd.prog.funcNamed "supercargo/supercargolaw.QuorumShares" = some 4 by kernel_rfl).symm.trans hf) |>.symm
      obtain rfl : fn = Tryd.f4 := (Option.some.inj (Tryd.func4.symm.trans hfn)).symm
      exact ⟨by kernel_rfl, fun j t ht => by
        rw [Tryd.params4] at ht
        have hm : t ∈ [22, 3, 23, 23] := by simpa using Array.mem_of_getElem? ht
        have hall : ([22, 3, 23, 23].all fun u => !Tryd.prog.wantsStandIn u) = true := by kernel_rfl
        exact (show Tryd.prog.wantsStandIn t = false by simpa using List.all_eq_true.1 hall t hm)⟩)
    (by kernel_rfl)
end Go.Proofs.YtfgjfghljhldfaaDoor
