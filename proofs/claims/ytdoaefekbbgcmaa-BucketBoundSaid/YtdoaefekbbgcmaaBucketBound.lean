/- In an interval, at most Burst plus Rate times its length are taken: the law BucketBound returns true. No condition. -/
import Derived.Test.YtdoaefekbbgcmaaBucketA
import Derived.Test.YtdoaefekbbgcmaaBucketB
import Derived.Test.YtdoaefekbbgcmaaBucketN
import Derived.WalkKit
import Derived.Handy
import Derived.ProofKit
import Derived.OpenShut
import Derived.ShutString
import Derived.ChangeOld
import Derived.Below
import Derived.Lib.Hide
import Derived.WalkLawsBesides
import Derived.WalkSpells
import Derived.Deep.QuietTactic
import Derived.BigQuiet
import Derived.Outline
namespace Go.Proofs.Ytdoaefekbbgcmaa
set_option linter.unusedSimpArgs false
set_option linter.unusedVariables false
open Go.ChangeShapes Go.WideShapes Go.ChangeAt Go.RowKit
open Go.ChangeMaps (open_string shut_string)
set_option maxRecDepth 100000
theorem bucketBound_fn (b : Bucket) (asks : List Term) (f : Int) (t : Int) (hx : asks.length ≤ 9223372036854775807) : Fn Try.prog 5 [.agg [VI b.level, VI b.now, VI b.burst, VI b.rate], .lst 2 (asks.map Term.cs), VI f, VI t] (.v (.bool true)) := by
  refine fn_walkW F5_ok (of_decide_eq_true (by kernel_rfl)) ?_
  refine EL.sreg ?_
  refine OW.last 2 [1, 2, 3, 4] (x' := ⟨[(4, .ref 0 4 0 0), (1, .lst 2 (asks.map Term.cs)), (2, VI f), (3, VI t)], [some ⟨4, [[VI b.level, VI b.now, VI b.burst, VI b.rate]]⟩]⟩) (by kernel_rfl) (by kernel_rfl) ?_
  refine EL.sreg ?_
  refine OW.run 2 (x' := ⟨[(17, .lst 2 (asks.map Term.cs)), (16, .agg [VI b.level, VI b.now, VI b.burst, VI b.rate]), (4, .ref 0 4 0 0), (1, .lst 2 (asks.map Term.cs)), (2, VI f), (3, VI t)], [some ⟨4, [[VI b.level, VI b.now, VI b.burst, VI b.rate]]⟩]⟩) (by kernel_rfl) ?_
  refine OW.fn (ar := [.agg [VI b.level, VI b.now, VI b.burst, VI b.rate], .lst 2 (asks.map Term.cs)]) (x' := ⟨[(18, .tup [.lst 1 (((b.serveP asks).1).map cI), .agg [VI (((b.serveP asks).2.1).level), VI (((b.serveP asks).2.1).now), VI (((b.serveP asks).2.1).burst), VI (((b.serveP asks).2.1).rate)], VI ((b.serveP asks).2.2)]), (17, .lst 2 (asks.map Term.cs)), (16, .agg [VI b.level, VI b.now, VI b.burst, VI b.rate]), (4, .ref 0 4 0 0), (1, .lst 2 (asks.map Term.cs)), (2, VI f), (3, VI t)], [some ⟨4, [[VI b.level, VI b.now, VI b.burst, VI b.rate]]⟩]⟩) (by kernel_rfl) (by kernel_rfl) F18_call (serve_fn b asks) (by kernel_rfl) (by kernel_rfl) ?_
  refine OW.last 8 [1, 2, 3, 4, 9, 10, 11] (x' := ⟨[(11, VI ((b.serveP asks).2.2)), (9, .lst 1 (((b.serveP asks).1).map cI)), (10, .ref 1 4 0 0), (4, .ref 0 4 0 0), (1, .lst 2 (asks.map Term.cs)), (2, VI f), (3, VI t)], [some ⟨4, [[VI b.level, VI b.now, VI b.burst, VI b.rate]]⟩, some ⟨4, [[VI (((b.serveP asks).2.1).level), VI (((b.serveP asks).2.1).now), VI (((b.serveP asks).2.1).burst), VI (((b.serveP asks).2.1).rate)]]⟩]⟩) (by kernel_rfl) (by kernel_rfl) ?_
  refine EL.seq ?_
  refine EL.sreg ?_
  refine OW.fn (ar := []) (x' := ⟨[(22, .v (.bool true)), (11, VI ((b.serveP asks).2.2)), (9, .lst 1 (((b.serveP asks).1).map cI)), (10, .ref 1 4 0 0), (4, .ref 0 4 0 0), (1, .lst 2 (asks.map Term.cs)), (2, VI f), (3, VI t)], [some ⟨4, [[VI b.level, VI b.now, VI b.burst, VI b.rate]]⟩, some ⟨4, [[VI (((b.serveP asks).2.1).level), VI (((b.serveP asks).2.1).now), VI (((b.serveP asks).2.1).burst), VI (((b.serveP asks).2.1).rate)]]⟩]⟩) (by kernel_rfl) (by kernel_rfl) F15_call (begun_fn) (by kernel_rfl) (by kernel_rfl) ?_
  refine OW.last 1 [1, 2, 3, 4, 9, 10, 11, 23] (x' := ⟨[(23, .v (.bool false)), (11, VI ((b.serveP asks).2.2)), (9, .lst 1 (((b.serveP asks).1).map cI)), (10, .ref 1 4 0 0), (4, .ref 0 4 0 0), (1, .lst 2 (asks.map Term.cs)), (2, VI f), (3, VI t)], [some ⟨4, [[VI b.level, VI b.now, VI b.burst, VI b.rate]]⟩, some ⟨4, [[VI (((b.serveP asks).2.1).level), VI (((b.serveP asks).2.1).now), VI (((b.serveP asks).2.1).burst), VI (((b.serveP asks).2.1).rate)]]⟩]⟩) (by kernel_rfl) (by kernel_rfl) ?_
  refine EL.condF (by kernel_rfl) ?_
  refine EL.skip ?_
  refine thenL_norm ?_
  refine EL.seq ?_
  refine EL.sreg ?_
  refine OW.last 2 [1, 2, 3, 4, 9, 10, 25] (x' := ⟨[(25, .v (.bool (((b.serveP asks).2.2) != 0))), (9, .lst 1 (((b.serveP asks).1).map cI)), (10, .ref 1 4 0 0), (4, .ref 0 4 0 0), (1, .lst 2 (asks.map Term.cs)), (2, VI f), (3, VI t)], [some ⟨4, [[VI b.level, VI b.now, VI b.burst, VI b.rate]]⟩, some ⟨4, [[VI (((b.serveP asks).2.1).level), VI (((b.serveP asks).2.1).now), VI (((b.serveP asks).2.1).burst), VI (((b.serveP asks).2.1).rate)]]⟩]⟩) (by kernel_rfl) (by kernel_rfl) ?_
  rcases Bool.eq_false_or_eq_true ((((b.serveP asks).2.2) != 0)) with h1 | h1
  · rw [h1]
    have g1 : ¬ (((b.serveP asks).2.2) = 0) := by simpa using h1
    refine EL.condT (by kernel_rfl) ?_
    refine EL.sreg ?_
    refine OW.run 1 (x' := ⟨[(26, .lst 1 (((b.serveP asks).1).map cI)), (25, .v (.bool true)), (9, .lst 1 (((b.serveP asks).1).map cI)), (10, .ref 1 4 0 0), (4, .ref 0 4 0 0), (1, .lst 2 (asks.map Term.cs)), (2, VI f), (3, VI t)], [some ⟨4, [[VI b.level, VI b.now, VI b.burst, VI b.rate]]⟩, some ⟨4, [[VI (((b.serveP asks).2.1).level), VI (((b.serveP asks).2.1).now), VI (((b.serveP asks).2.1).burst), VI (((b.serveP asks).2.1).rate)]]⟩]⟩) (by kernel_rfl) ?_
    refine OW.ope (v := VI (List.length ((b.serveP asks).1) : Int)) (u := []) (acc := []) (x' := ⟨[(27, VI (List.length ((b.serveP asks).1) : Int)), (26, .lst 1 (((b.serveP asks).1).map cI)), (25, .v (.bool true)), (9, .lst 1 (((b.serveP asks).1).map cI)), (10, .ref 1 4 0 0), (4, .ref 0 4 0 0), (1, .lst 2 (asks.map Term.cs)), (2, VI f), (3, VI t)], [some ⟨4, [[VI b.level, VI b.now, VI b.burst, VI b.rate]]⟩, some ⟨4, [[VI (((b.serveP asks).2.1).level), VI (((b.serveP asks).2.1).now), VI (((b.serveP asks).2.1).burst), VI (((b.serveP asks).2.1).rate)]]⟩]⟩) (by kernel_rfl) (opE_len cI ((b.serveP asks).1) (.s 26) 1 (by kernel_rfl) (by kernel_rfl) (.inl rfl)) (by kernel_rfl) ?_
    refine OW.run 2 (x' := ⟨[(29, .v (.bool ((List.length ((b.serveP asks).1) : Int) == 0))), (28, .v (.bool ((List.length ((b.serveP asks).1) : Int) == 0))), (27, VI (List.length ((b.serveP asks).1) : Int)), (26, .lst 1 (((b.serveP asks).1).map cI)), (25, .v (.bool true)), (9, .lst 1 (((b.serveP asks).1).map cI)), (10, .ref 1 4 0 0), (4, .ref 0 4 0 0), (1, .lst 2 (asks.map Term.cs)), (2, VI f), (3, VI t)], [some ⟨4, [[VI b.level, VI b.now, VI b.burst, VI b.rate]]⟩, some ⟨4, [[VI (((b.serveP asks).2.1).level), VI (((b.serveP asks).2.1).now), VI (((b.serveP asks).2.1).burst), VI (((b.serveP asks).2.1).rate)]]⟩]⟩) (by kernel_rfl) ?_
    rcases Bool.eq_false_or_eq_true (((List.length ((b.serveP asks).1) : Int) == 0)) with h2 | h2
    · rw [h2]
      have g2 : ((List.length ((b.serveP asks).1) : Int) = 0) := by simpa using h2
      have n2 : ((List.length ((b.serveP asks).1)) = 0) := by omega
      refine OW.last 5 [8] (x' := ⟨[(8, .v (.bool (((((b.serveP asks).2.1).level) == 0) && (((((b.serveP asks).2.1).now) == 0) && (((((b.serveP asks).2.1).burst) == 0) && (((((b.serveP asks).2.1).rate) == 0) && true))))))], [some ⟨4, [[VI b.level, VI b.now, VI b.burst, VI b.rate]]⟩, some ⟨4, [[VI (((b.serveP asks).2.1).level), VI (((b.serveP asks).2.1).now), VI (((b.serveP asks).2.1).burst), VI (((b.serveP asks).2.1).rate)]]⟩]⟩) (by kernel_rfl) (by kernel_rfl) ?_
      refine EL.ret ?_
      refine thenL_ret ?_
      refine ⟨.inr rfl, .v (.bool (((((b.serveP asks).2.1).level) == 0) && (((((b.serveP asks).2.1).now) == 0) && (((((b.serveP asks).2.1).burst) == 0) && (((((b.serveP asks).2.1).rate) == 0) && true))))), by kernel_rfl, Ale.of_eq ?_⟩
      first | rfl | (exfalso; have q := hgood a9 (List.mem_of_getElem? ha9); omega) | (rw [List.drop_eq_nil_of_le (by omega)] at hs; simp only [Bucket.sumOf] at hs; have hb := Bucket.serve_bound (b := b) (asks := asks) (f := f) (t := t) (by omega) (by omega) (by omega) (by omega); first | (exfalso; omega) | (refine congrArg (fun b => AV.v (Value.bool b)) ?_; simp; omega)) | (have hn := Bucket.serve_no (b := b) (asks := asks) (by omega); simp_all; done) | trace_state
    · rw [h2]
      have g2 : ¬ ((List.length ((b.serveP asks).1) : Int) = 0) := by simpa using h2
      have n2 : ¬ ((List.length ((b.serveP asks).1)) = 0) := by omega
      refine OW.last 5 [8] (x' := ⟨[(8, .v (.bool false))], [some ⟨4, [[VI b.level, VI b.now, VI b.burst, VI b.rate]]⟩, some ⟨4, [[VI (((b.serveP asks).2.1).level), VI (((b.serveP asks).2.1).now), VI (((b.serveP asks).2.1).burst), VI (((b.serveP asks).2.1).rate)]]⟩]⟩) (by kernel_rfl) (by kernel_rfl) ?_
      refine EL.ret ?_
      refine thenL_ret ?_
      refine ⟨.inr rfl, .v (.bool false), by kernel_rfl, Ale.of_eq ?_⟩
      first | rfl | (exfalso; have q := hgood a9 (List.mem_of_getElem? ha9); omega) | (rw [List.drop_eq_nil_of_le (by omega)] at hs; simp only [Bucket.sumOf] at hs; have hb := Bucket.serve_bound (b := b) (asks := asks) (f := f) (t := t) (by omega) (by omega) (by omega) (by omega); first | (exfalso; omega) | (refine congrArg (fun b => AV.v (Value.bool b)) ?_; simp; omega)) | (have hn := Bucket.serve_no (b := b) (asks := asks) (by omega); simp_all; done) | trace_state
  · rw [h1]
    have g1 : (((b.serveP asks).2.2) = 0) := by simpa using h1
    refine EL.condF (by kernel_rfl) ?_
    refine EL.skip ?_
    refine thenL_norm ?_
    refine EL.seq ?_
    refine EL.sreg ?_
    refine OW.run 3 (x' := ⟨[(36, .v (.bool (decide (f < 0)))), (35, .v (.bool (decide (f < 0)))), (34, VI f), (25, .v (.bool false)), (9, .lst 1 (((b.serveP asks).1).map cI)), (10, .ref 1 4 0 0), (4, .ref 0 4 0 0), (1, .lst 2 (asks.map Term.cs)), (2, VI f), (3, VI t)], [some ⟨4, [[VI b.level, VI b.now, VI b.burst, VI b.rate]]⟩, some ⟨4, [[VI (((b.serveP asks).2.1).level), VI (((b.serveP asks).2.1).now), VI (((b.serveP asks).2.1).burst), VI (((b.serveP asks).2.1).rate)]]⟩]⟩) (by kernel_rfl) ?_
    rcases Bool.eq_false_or_eq_true (decide (f < 0)) with h3 | h3
    · rw [h3]
      have g3 : (f < 0) := of_decide_eq_true h3
      refine OW.last 8 [1, 2, 3, 4, 9, 10, 44] (x' := ⟨[(44, .v (.bool true)), (9, .lst 1 (((b.serveP asks).1).map cI)), (10, .ref 1 4 0 0), (4, .ref 0 4 0 0), (1, .lst 2 (asks.map Term.cs)), (2, VI f), (3, VI t)], [some ⟨4, [[VI b.level, VI b.now, VI b.burst, VI b.rate]]⟩, some ⟨4, [[VI (((b.serveP asks).2.1).level), VI (((b.serveP asks).2.1).now), VI (((b.serveP asks).2.1).burst), VI (((b.serveP asks).2.1).rate)]]⟩]⟩) (by kernel_rfl) (by kernel_rfl) ?_
      refine EL.condT (by kernel_rfl) ?_
      refine EL.sreg ?_
      refine OW.last 1 [8] (x' := ⟨[(8, .v (.bool true))], [some ⟨4, [[VI b.level, VI b.now, VI b.burst, VI b.rate]]⟩, some ⟨4, [[VI (((b.serveP asks).2.1).level), VI (((b.serveP asks).2.1).now), VI (((b.serveP asks).2.1).burst), VI (((b.serveP asks).2.1).rate)]]⟩]⟩) (by kernel_rfl) (by kernel_rfl) ?_
      refine EL.ret ?_
      refine thenL_ret ?_
      refine ⟨.inr rfl, .v (.bool true), by kernel_rfl, Ale.of_eq ?_⟩
      first | rfl | (exfalso; have q := hgood a9 (List.mem_of_getElem? ha9); omega) | (rw [List.drop_eq_nil_of_le (by omega)] at hs; simp only [Bucket.sumOf] at hs; have hb := Bucket.serve_bound (b := b) (asks := asks) (f := f) (t := t) (by omega) (by omega) (by omega) (by omega); first | (exfalso; omega) | (refine congrArg (fun b => AV.v (Value.bool b)) ?_; simp; omega)) | (have hn := Bucket.serve_no (b := b) (asks := asks) (by omega); simp_all; done) | trace_state
    · rw [h3]
      have g3 : ¬ (f < 0) := of_decide_eq_false h3
      refine OW.run 5 (x' := ⟨[(41, .v (.bool (decide (t < f)))), (40, .v (.bool (decide (t < f)))), (39, .v (.bool (decide (t < f)))), (38, VI f), (37, VI t), (36, .v (.bool false)), (35, .v (.bool false)), (34, VI f), (25, .v (.bool false)), (9, .lst 1 (((b.serveP asks).1).map cI)), (10, .ref 1 4 0 0), (4, .ref 0 4 0 0), (1, .lst 2 (asks.map Term.cs)), (2, VI f), (3, VI t)], [some ⟨4, [[VI b.level, VI b.now, VI b.burst, VI b.rate]]⟩, some ⟨4, [[VI (((b.serveP asks).2.1).level), VI (((b.serveP asks).2.1).now), VI (((b.serveP asks).2.1).burst), VI (((b.serveP asks).2.1).rate)]]⟩]⟩) (by kernel_rfl) ?_
      rcases Bool.eq_false_or_eq_true (decide (t < f)) with h4 | h4
      · rw [h4]
        have g4 : (t < f) := of_decide_eq_true h4
        refine OW.last 3 [1, 2, 3, 4, 9, 10, 44] (x' := ⟨[(44, .v (.bool true)), (9, .lst 1 (((b.serveP asks).1).map cI)), (10, .ref 1 4 0 0), (4, .ref 0 4 0 0), (1, .lst 2 (asks.map Term.cs)), (2, VI f), (3, VI t)], [some ⟨4, [[VI b.level, VI b.now, VI b.burst, VI b.rate]]⟩, some ⟨4, [[VI (((b.serveP asks).2.1).level), VI (((b.serveP asks).2.1).now), VI (((b.serveP asks).2.1).burst), VI (((b.serveP asks).2.1).rate)]]⟩]⟩) (by kernel_rfl) (by kernel_rfl) ?_
        refine EL.condT (by kernel_rfl) ?_
        refine EL.sreg ?_
        refine OW.last 1 [8] (x' := ⟨[(8, .v (.bool true))], [some ⟨4, [[VI b.level, VI b.now, VI b.burst, VI b.rate]]⟩, some ⟨4, [[VI (((b.serveP asks).2.1).level), VI (((b.serveP asks).2.1).now), VI (((b.serveP asks).2.1).burst), VI (((b.serveP asks).2.1).rate)]]⟩]⟩) (by kernel_rfl) (by kernel_rfl) ?_
        refine EL.ret ?_
        refine thenL_ret ?_
        refine ⟨.inr rfl, .v (.bool true), by kernel_rfl, Ale.of_eq ?_⟩
        first | rfl | (exfalso; have q := hgood a9 (List.mem_of_getElem? ha9); omega) | (rw [List.drop_eq_nil_of_le (by omega)] at hs; simp only [Bucket.sumOf] at hs; have hb := Bucket.serve_bound (b := b) (asks := asks) (f := f) (t := t) (by omega) (by omega) (by omega) (by omega); first | (exfalso; omega) | (refine congrArg (fun b => AV.v (Value.bool b)) ?_; simp; omega)) | (have hn := Bucket.serve_no (b := b) (asks := asks) (by omega); simp_all; done) | trace_state
      · rw [h4]
        have g4 : ¬ (t < f) := of_decide_eq_false h4
        refine OW.last 3 [1, 2, 3, 4, 9, 10, 44] (x' := ⟨[(44, .v (.bool (decide (t > 1000000)))), (9, .lst 1 (((b.serveP asks).1).map cI)), (10, .ref 1 4 0 0), (4, .ref 0 4 0 0), (1, .lst 2 (asks.map Term.cs)), (2, VI f), (3, VI t)], [some ⟨4, [[VI b.level, VI b.now, VI b.burst, VI b.rate]]⟩, some ⟨4, [[VI (((b.serveP asks).2.1).level), VI (((b.serveP asks).2.1).now), VI (((b.serveP asks).2.1).burst), VI (((b.serveP asks).2.1).rate)]]⟩]⟩) (by kernel_rfl) (by kernel_rfl) ?_
        rcases Bool.eq_false_or_eq_true (decide (t > 1000000)) with h5 | h5
        · rw [h5]
          have g5 : (t > 1000000) := of_decide_eq_true h5
          refine EL.condT (by kernel_rfl) ?_
          refine EL.sreg ?_
          refine OW.last 1 [8] (x' := ⟨[(8, .v (.bool true))], [some ⟨4, [[VI b.level, VI b.now, VI b.burst, VI b.rate]]⟩, some ⟨4, [[VI (((b.serveP asks).2.1).level), VI (((b.serveP asks).2.1).now), VI (((b.serveP asks).2.1).burst), VI (((b.serveP asks).2.1).rate)]]⟩]⟩) (by kernel_rfl) (by kernel_rfl) ?_
          refine EL.ret ?_
          refine thenL_ret ?_
          refine ⟨.inr rfl, .v (.bool true), by kernel_rfl, Ale.of_eq ?_⟩
          first | rfl | (exfalso; have q := hgood a9 (List.mem_of_getElem? ha9); omega) | (rw [List.drop_eq_nil_of_le (by omega)] at hs; simp only [Bucket.sumOf] at hs; have hb := Bucket.serve_bound (b := b) (asks := asks) (f := f) (t := t) (by omega) (by omega) (by omega) (by omega); first | (exfalso; omega) | (refine congrArg (fun b => AV.v (Value.bool b)) ?_; simp; omega)) | (have hn := Bucket.serve_no (b := b) (asks := asks) (by omega); simp_all; done) | trace_state
        · rw [h5]
          have g5 : ¬ (t > 1000000) := of_decide_eq_false h5
          refine EL.condF (by kernel_rfl) ?_
          refine EL.skip ?_
          refine thenL_norm ?_
          refine EL.sreg ?_
          refine OW.last 1 [1, 2, 3, 4, 9, 10, 12] (x' := ⟨[(12, VI 0), (9, .lst 1 (((b.serveP asks).1).map cI)), (10, .ref 1 4 0 0), (4, .ref 0 4 0 0), (1, .lst 2 (asks.map Term.cs)), (2, VI f), (3, VI t)], [some ⟨4, [[VI b.level, VI b.now, VI b.burst, VI b.rate]]⟩, some ⟨4, [[VI (((b.serveP asks).2.1).level), VI (((b.serveP asks).2.1).now), VI (((b.serveP asks).2.1).burst), VI (((b.serveP asks).2.1).rate)]]⟩]⟩) (by kernel_rfl) (by kernel_rfl) ?_
          refine EL.seq ?_
          refine EL.sreg ?_
          refine OW.last 1 [1, 2, 3, 4, 9, 10, 12, 13] (x' := ⟨[(13, VI 0), (12, VI 0), (9, .lst 1 (((b.serveP asks).1).map cI)), (10, .ref 1 4 0 0), (4, .ref 0 4 0 0), (1, .lst 2 (asks.map Term.cs)), (2, VI f), (3, VI t)], [some ⟨4, [[VI b.level, VI b.now, VI b.burst, VI b.rate]]⟩, some ⟨4, [[VI (((b.serveP asks).2.1).level), VI (((b.serveP asks).2.1).now), VI (((b.serveP asks).2.1).burst), VI (((b.serveP asks).2.1).rate)]]⟩]⟩) (by kernel_rfl) (by kernel_rfl) ?_
          refine EL.block ?_
          refine EL.loopN (fun m x => ∃ (k : Nat) (s : Int), m = (b.serveP asks).1.length - k ∧ (k ≤ (b.serveP asks).1.length ∧ (b.serveP asks).1.length ≤ 64 ∧ 0 ≤ s ∧ s ≤ 100000 * k ∧ Bucket.sumOf f t asks (b.serveP asks).1 = s + Bucket.sumOf f t asks ((b.serveP asks).1.drop k)) ∧ x = ⟨[(1, .lst 2 (asks.map Term.cs)), (2, VI f), (3, VI t), (4, .ref 0 4 0 0), (9, .lst 1 (((b.serveP asks).1).map cI)), (10, .ref 1 4 0 0), (12, VI s), (13, VI (k : Int))], [some ⟨4, [[VI b.level, VI b.now, VI b.burst, VI b.rate]]⟩, some ⟨4, [[VI (((b.serveP asks).2.1).level), VI (((b.serveP asks).2.1).now), VI (((b.serveP asks).2.1).burst), VI (((b.serveP asks).2.1).rate)]]⟩]⟩) (y := (fun (k : Nat) (s : Int) => (⟨[(1, .lst 2 (asks.map Term.cs)), (2, VI f), (3, VI t), (4, .ref 0 4 0 0), (9, .lst 1 (((b.serveP asks).1).map cI)), (10, .ref 1 4 0 0), (12, VI s), (13, VI (k : Int))], [some ⟨4, [[VI b.level, VI b.now, VI b.burst, VI b.rate]]⟩, some ⟨4, [[VI (((b.serveP asks).2.1).level), VI (((b.serveP asks).2.1).now), VI (((b.serveP asks).2.1).burst), VI (((b.serveP asks).2.1).rate)]]⟩]⟩ : L3)) 0 0) [1, 2, 3, 4, 9, 10, 12, 13] [.old 0 false, .old 1 false] [] (by kernel_rfl) trivial ⟨0, 0, rfl, by have hb := Bucket.serve_bound (b := b) (asks := asks) (f := f) (t := t) (by omega) (by omega) (by omega) (by omega); exact ⟨by omega, by omega, by omega, by omega, by simp⟩, rfl⟩ ?_
          rintro _ _ ⟨k, s, rfl, hI6, rfl⟩
          obtain ⟨hk, hl, hq0, hq1, hs⟩ := hI6
          have hgood := Bucket.serve_good (b := b) (asks := asks)
          refine EL.seq ?_
          refine EL.sreg ?_
          refine OW.run 2 (x' := ⟨[(46, .lst 1 (((b.serveP asks).1).map cI)), (45, VI (k : Int)), (1, .lst 2 (asks.map Term.cs)), (2, VI f), (3, VI t), (4, .ref 0 4 0 0), (9, .lst 1 (((b.serveP asks).1).map cI)), (10, .ref 1 4 0 0), (12, VI s), (13, VI (k : Int))], [some ⟨4, [[VI b.level, VI b.now, VI b.burst, VI b.rate]]⟩, some ⟨4, [[VI (((b.serveP asks).2.1).level), VI (((b.serveP asks).2.1).now), VI (((b.serveP asks).2.1).burst), VI (((b.serveP asks).2.1).rate)]]⟩]⟩) (by kernel_rfl) ?_
          refine OW.ope (v := VI (List.length ((b.serveP asks).1) : Int)) (u := []) (acc := []) (x' := ⟨[(47, VI (List.length ((b.serveP asks).1) : Int)), (46, .lst 1 (((b.serveP asks).1).map cI)), (45, VI (k : Int)), (1, .lst 2 (asks.map Term.cs)), (2, VI f), (3, VI t), (4, .ref 0 4 0 0), (9, .lst 1 (((b.serveP asks).1).map cI)), (10, .ref 1 4 0 0), (12, VI s), (13, VI (k : Int))], [some ⟨4, [[VI b.level, VI b.now, VI b.burst, VI b.rate]]⟩, some ⟨4, [[VI (((b.serveP asks).2.1).level), VI (((b.serveP asks).2.1).now), VI (((b.serveP asks).2.1).burst), VI (((b.serveP asks).2.1).rate)]]⟩]⟩) (by kernel_rfl) (opE_len cI ((b.serveP asks).1) (.s 46) 1 (by kernel_rfl) (by kernel_rfl) (.inl rfl)) (by kernel_rfl) ?_
          refine OW.last 1 [1, 2, 3, 4, 9, 10, 12, 13, 48] (x' := ⟨[(48, .v (.bool (decide ((k : Int) < (List.length ((b.serveP asks).1) : Int))))), (1, .lst 2 (asks.map Term.cs)), (2, VI f), (3, VI t), (4, .ref 0 4 0 0), (9, .lst 1 (((b.serveP asks).1).map cI)), (10, .ref 1 4 0 0), (12, VI s), (13, VI (k : Int))], [some ⟨4, [[VI b.level, VI b.now, VI b.burst, VI b.rate]]⟩, some ⟨4, [[VI (((b.serveP asks).2.1).level), VI (((b.serveP asks).2.1).now), VI (((b.serveP asks).2.1).burst), VI (((b.serveP asks).2.1).rate)]]⟩]⟩) (by kernel_rfl) (by kernel_rfl) ?_
          rcases Bool.eq_false_or_eq_true (decide ((k : Int) < (List.length ((b.serveP asks).1) : Int))) with h7 | h7
          · rw [h7]
            have g7 : ((k : Int) < (List.length ((b.serveP asks).1) : Int)) := of_decide_eq_true h7
            have n7 : ((k) < (List.length ((b.serveP asks).1))) := by omega
            refine EL.condT (by kernel_rfl) ?_
            refine EL.skip ?_
            refine thenL_norm ?_
            refine EL.seq ?_
            refine EL.block ?_
            refine EL.seq ?_
            refine EL.sreg ?_
            refine OW.run 2 (x' := ⟨[(52, VI (k : Int)), (51, .lst 1 (((b.serveP asks).1).map cI)), (48, .v (.bool true)), (1, .lst 2 (asks.map Term.cs)), (2, VI f), (3, VI t), (4, .ref 0 4 0 0), (9, .lst 1 (((b.serveP asks).1).map cI)), (10, .ref 1 4 0 0), (12, VI s), (13, VI (k : Int))], [some ⟨4, [[VI b.level, VI b.now, VI b.burst, VI b.rate]]⟩, some ⟨4, [[VI (((b.serveP asks).2.1).level), VI (((b.serveP asks).2.1).now), VI (((b.serveP asks).2.1).burst), VI (((b.serveP asks).2.1).rate)]]⟩]⟩) (by kernel_rfl) ?_
            obtain ⟨a9, ha9⟩ : ∃ y, ((b.serveP asks).1)[((k : Int) : Int).toNat]? = some y := idx_ex ⟨by omega, by omega⟩
            have iha9 : ((b.serveP asks).1)[k]? = some a9 := by simpa using ha9
            have dha9 := drop_get iha9
            refine OW.ope (v := .pim [VI a9] 0) (u := []) (acc := []) (x' := ⟨[(53, .pim [VI a9] 0), (52, VI (k : Int)), (51, .lst 1 (((b.serveP asks).1).map cI)), (48, .v (.bool true)), (1, .lst 2 (asks.map Term.cs)), (2, VI f), (3, VI t), (4, .ref 0 4 0 0), (9, .lst 1 (((b.serveP asks).1).map cI)), (10, .ref 1 4 0 0), (12, VI s), (13, VI (k : Int))], [some ⟨4, [[VI b.level, VI b.now, VI b.burst, VI b.rate]]⟩, some ⟨4, [[VI (((b.serveP asks).2.1).level), VI (((b.serveP asks).2.1).now), VI (((b.serveP asks).2.1).burst), VI (((b.serveP asks).2.1).rate)]]⟩]⟩) (by kernel_rfl) (opE_iad cI ((b.serveP asks).1) (.s 51) (.s 52) 1 .i64 (k : Int) a9 (by kernel_rfl) (by kernel_rfl) (.inl rfl) rfl (by omega) ha9) (by kernel_rfl) ?_
            refine OW.run 3 (x' := ⟨[(56, .v (.bool (decide (a9 < 0)))), (55, .v (.bool (decide (a9 < 0)))), (54, VI a9), (53, .pim [VI a9] 0), (52, VI (k : Int)), (51, .lst 1 (((b.serveP asks).1).map cI)), (48, .v (.bool true)), (1, .lst 2 (asks.map Term.cs)), (2, VI f), (3, VI t), (4, .ref 0 4 0 0), (9, .lst 1 (((b.serveP asks).1).map cI)), (10, .ref 1 4 0 0), (12, VI s), (13, VI (k : Int))], [some ⟨4, [[VI b.level, VI b.now, VI b.burst, VI b.rate]]⟩, some ⟨4, [[VI (((b.serveP asks).2.1).level), VI (((b.serveP asks).2.1).now), VI (((b.serveP asks).2.1).burst), VI (((b.serveP asks).2.1).rate)]]⟩]⟩) (by kernel_rfl) ?_
            rcases Bool.eq_false_or_eq_true (decide (a9 < 0)) with h10 | h10
            · rw [h10]
              have g10 : (a9 < 0) := of_decide_eq_true h10
              refine OW.last 8 [1, 2, 3, 4, 9, 10, 12, 13, 64] (x' := ⟨[(64, .v (.bool true)), (1, .lst 2 (asks.map Term.cs)), (2, VI f), (3, VI t), (4, .ref 0 4 0 0), (9, .lst 1 (((b.serveP asks).1).map cI)), (10, .ref 1 4 0 0), (12, VI s), (13, VI (k : Int))], [some ⟨4, [[VI b.level, VI b.now, VI b.burst, VI b.rate]]⟩, some ⟨4, [[VI (((b.serveP asks).2.1).level), VI (((b.serveP asks).2.1).now), VI (((b.serveP asks).2.1).burst), VI (((b.serveP asks).2.1).rate)]]⟩]⟩) (by kernel_rfl) (by kernel_rfl) ?_
              refine EL.condT (by kernel_rfl) ?_
              refine EL.sreg ?_
              refine OW.last 1 [8] (x' := ⟨[(8, .v (.bool false))], [some ⟨4, [[VI b.level, VI b.now, VI b.burst, VI b.rate]]⟩, some ⟨4, [[VI (((b.serveP asks).2.1).level), VI (((b.serveP asks).2.1).now), VI (((b.serveP asks).2.1).burst), VI (((b.serveP asks).2.1).rate)]]⟩]⟩) (by kernel_rfl) (by kernel_rfl) ?_
              refine EL.ret ?_
              refine thenL_ret ?_
              refine inBlk_ret ?_
              refine thenL_ret ?_
              refine thenL_ret ?_
              refine inBlk_ret ?_
              refine thenL_ret ?_
              refine ⟨.inr rfl, .v (.bool false), by kernel_rfl, Ale.of_eq ?_⟩
              first | rfl | (exfalso; have q := hgood a9 (List.mem_of_getElem? ha9); omega) | (rw [List.drop_eq_nil_of_le (by omega)] at hs; simp only [Bucket.sumOf] at hs; have hb := Bucket.serve_bound (b := b) (asks := asks) (f := f) (t := t) (by omega) (by omega) (by omega) (by omega); first | (exfalso; omega) | (refine congrArg (fun b => AV.v (Value.bool b)) ?_; simp; omega)) | (have hn := Bucket.serve_no (b := b) (asks := asks) (by omega); simp_all; done) | trace_state
            · rw [h10]
              have g10 : ¬ (a9 < 0) := of_decide_eq_false h10
              refine OW.run 2 (x' := ⟨[(58, VI (k : Int)), (57, .lst 1 (((b.serveP asks).1).map cI)), (56, .v (.bool false)), (55, .v (.bool false)), (54, VI a9), (53, .pim [VI a9] 0), (52, VI (k : Int)), (51, .lst 1 (((b.serveP asks).1).map cI)), (48, .v (.bool true)), (1, .lst 2 (asks.map Term.cs)), (2, VI f), (3, VI t), (4, .ref 0 4 0 0), (9, .lst 1 (((b.serveP asks).1).map cI)), (10, .ref 1 4 0 0), (12, VI s), (13, VI (k : Int))], [some ⟨4, [[VI b.level, VI b.now, VI b.burst, VI b.rate]]⟩, some ⟨4, [[VI (((b.serveP asks).2.1).level), VI (((b.serveP asks).2.1).now), VI (((b.serveP asks).2.1).burst), VI (((b.serveP asks).2.1).rate)]]⟩]⟩) (by kernel_rfl) ?_
              refine OW.ope (v := .pim [VI a9] 0) (u := []) (acc := []) (x' := ⟨[(59, .pim [VI a9] 0), (58, VI (k : Int)), (57, .lst 1 (((b.serveP asks).1).map cI)), (56, .v (.bool false)), (55, .v (.bool false)), (54, VI a9), (53, .pim [VI a9] 0), (52, VI (k : Int)), (51, .lst 1 (((b.serveP asks).1).map cI)), (48, .v (.bool true)), (1, .lst 2 (asks.map Term.cs)), (2, VI f), (3, VI t), (4, .ref 0 4 0 0), (9, .lst 1 (((b.serveP asks).1).map cI)), (10, .ref 1 4 0 0), (12, VI s), (13, VI (k : Int))], [some ⟨4, [[VI b.level, VI b.now, VI b.burst, VI b.rate]]⟩, some ⟨4, [[VI (((b.serveP asks).2.1).level), VI (((b.serveP asks).2.1).now), VI (((b.serveP asks).2.1).burst), VI (((b.serveP asks).2.1).rate)]]⟩]⟩) (by kernel_rfl) (opE_iad cI ((b.serveP asks).1) (.s 57) (.s 58) 1 .i64 (k : Int) a9 (by kernel_rfl) (by kernel_rfl) (.inl rfl) rfl (by omega) ha9) (by kernel_rfl) ?_
              refine OW.run 2 (x' := ⟨[(61, .lst 2 (asks.map Term.cs)), (60, VI a9), (59, .pim [VI a9] 0), (58, VI (k : Int)), (57, .lst 1 (((b.serveP asks).1).map cI)), (56, .v (.bool false)), (55, .v (.bool false)), (54, VI a9), (53, .pim [VI a9] 0), (52, VI (k : Int)), (51, .lst 1 (((b.serveP asks).1).map cI)), (48, .v (.bool true)), (1, .lst 2 (asks.map Term.cs)), (2, VI f), (3, VI t), (4, .ref 0 4 0 0), (9, .lst 1 (((b.serveP asks).1).map cI)), (10, .ref 1 4 0 0), (12, VI s), (13, VI (k : Int))], [some ⟨4, [[VI b.level, VI b.now, VI b.burst, VI b.rate]]⟩, some ⟨4, [[VI (((b.serveP asks).2.1).level), VI (((b.serveP asks).2.1).now), VI (((b.serveP asks).2.1).burst), VI (((b.serveP asks).2.1).rate)]]⟩]⟩) (by kernel_rfl) ?_
              refine OW.ope (v := VI (List.length asks : Int)) (u := []) (acc := []) (x' := ⟨[(62, VI (List.length asks : Int)), (61, .lst 2 (asks.map Term.cs)), (60, VI a9), (59, .pim [VI a9] 0), (58, VI (k : Int)), (57, .lst 1 (((b.serveP asks).1).map cI)), (56, .v (.bool false)), (55, .v (.bool false)), (54, VI a9), (53, .pim [VI a9] 0), (52, VI (k : Int)), (51, .lst 1 (((b.serveP asks).1).map cI)), (48, .v (.bool true)), (1, .lst 2 (asks.map Term.cs)), (2, VI f), (3, VI t), (4, .ref 0 4 0 0), (9, .lst 1 (((b.serveP asks).1).map cI)), (10, .ref 1 4 0 0), (12, VI s), (13, VI (k : Int))], [some ⟨4, [[VI b.level, VI b.now, VI b.burst, VI b.rate]]⟩, some ⟨4, [[VI (((b.serveP asks).2.1).level), VI (((b.serveP asks).2.1).now), VI (((b.serveP asks).2.1).burst), VI (((b.serveP asks).2.1).rate)]]⟩]⟩) (by kernel_rfl) (opE_len Term.cs asks (.s 61) 2 (by kernel_rfl) (by kernel_rfl) (.inl rfl)) (by kernel_rfl) ?_
              refine OW.last 2 [1, 2, 3, 4, 9, 10, 12, 13, 64] (x' := ⟨[(64, .v (.bool (decide (a9 ≥ (List.length asks : Int))))), (1, .lst 2 (asks.map Term.cs)), (2, VI f), (3, VI t), (4, .ref 0 4 0 0), (9, .lst 1 (((b.serveP asks).1).map cI)), (10, .ref 1 4 0 0), (12, VI s), (13, VI (k : Int))], [some ⟨4, [[VI b.level, VI b.now, VI b.burst, VI b.rate]]⟩, some ⟨4, [[VI (((b.serveP asks).2.1).level), VI (((b.serveP asks).2.1).now), VI (((b.serveP asks).2.1).burst), VI (((b.serveP asks).2.1).rate)]]⟩]⟩) (by kernel_rfl) (by kernel_rfl) ?_
              rcases Bool.eq_false_or_eq_true (decide (a9 ≥ (List.length asks : Int))) with h11 | h11
              · rw [h11]
                have g11 : (a9 ≥ (List.length asks : Int)) := of_decide_eq_true h11
                refine EL.condT (by kernel_rfl) ?_
                refine EL.sreg ?_
                refine OW.last 1 [8] (x' := ⟨[(8, .v (.bool false))], [some ⟨4, [[VI b.level, VI b.now, VI b.burst, VI b.rate]]⟩, some ⟨4, [[VI (((b.serveP asks).2.1).level), VI (((b.serveP asks).2.1).now), VI (((b.serveP asks).2.1).burst), VI (((b.serveP asks).2.1).rate)]]⟩]⟩) (by kernel_rfl) (by kernel_rfl) ?_
                refine EL.ret ?_
                refine thenL_ret ?_
                refine inBlk_ret ?_
                refine thenL_ret ?_
                refine thenL_ret ?_
                refine inBlk_ret ?_
                refine thenL_ret ?_
                refine ⟨.inr rfl, .v (.bool false), by kernel_rfl, Ale.of_eq ?_⟩
                first | rfl | (exfalso; have q := hgood a9 (List.mem_of_getElem? ha9); omega) | (rw [List.drop_eq_nil_of_le (by omega)] at hs; simp only [Bucket.sumOf] at hs; have hb := Bucket.serve_bound (b := b) (asks := asks) (f := f) (t := t) (by omega) (by omega) (by omega) (by omega); first | (exfalso; omega) | (refine congrArg (fun b => AV.v (Value.bool b)) ?_; simp; omega)) | (have hn := Bucket.serve_no (b := b) (asks := asks) (by omega); simp_all; done) | trace_state
              · rw [h11]
                have g11 : ¬ (a9 ≥ (List.length asks : Int)) := of_decide_eq_false h11
                refine EL.condF (by kernel_rfl) ?_
                refine EL.skip ?_
                refine thenL_norm ?_
                refine EL.sreg ?_
                refine OW.run 3 (x' := ⟨[(67, VI (k : Int)), (66, .lst 1 (((b.serveP asks).1).map cI)), (65, .lst 2 (asks.map Term.cs)), (64, .v (.bool false)), (1, .lst 2 (asks.map Term.cs)), (2, VI f), (3, VI t), (4, .ref 0 4 0 0), (9, .lst 1 (((b.serveP asks).1).map cI)), (10, .ref 1 4 0 0), (12, VI s), (13, VI (k : Int))], [some ⟨4, [[VI b.level, VI b.now, VI b.burst, VI b.rate]]⟩, some ⟨4, [[VI (((b.serveP asks).2.1).level), VI (((b.serveP asks).2.1).now), VI (((b.serveP asks).2.1).burst), VI (((b.serveP asks).2.1).rate)]]⟩]⟩) (by kernel_rfl) ?_
                refine OW.ope (v := .pim [VI a9] 0) (u := []) (acc := []) (x' := ⟨[(68, .pim [VI a9] 0), (67, VI (k : Int)), (66, .lst 1 (((b.serveP asks).1).map cI)), (65, .lst 2 (asks.map Term.cs)), (64, .v (.bool false)), (1, .lst 2 (asks.map Term.cs)), (2, VI f), (3, VI t), (4, .ref 0 4 0 0), (9, .lst 1 (((b.serveP asks).1).map cI)), (10, .ref 1 4 0 0), (12, VI s), (13, VI (k : Int))], [some ⟨4, [[VI b.level, VI b.now, VI b.burst, VI b.rate]]⟩, some ⟨4, [[VI (((b.serveP asks).2.1).level), VI (((b.serveP asks).2.1).now), VI (((b.serveP asks).2.1).burst), VI (((b.serveP asks).2.1).rate)]]⟩]⟩) (by kernel_rfl) (opE_iad cI ((b.serveP asks).1) (.s 66) (.s 67) 1 .i64 (k : Int) a9 (by kernel_rfl) (by kernel_rfl) (.inl rfl) rfl (by omega) ha9) (by kernel_rfl) ?_
                refine OW.run 1 (x' := ⟨[(69, VI a9), (68, .pim [VI a9] 0), (67, VI (k : Int)), (66, .lst 1 (((b.serveP asks).1).map cI)), (65, .lst 2 (asks.map Term.cs)), (64, .v (.bool false)), (1, .lst 2 (asks.map Term.cs)), (2, VI f), (3, VI t), (4, .ref 0 4 0 0), (9, .lst 1 (((b.serveP asks).1).map cI)), (10, .ref 1 4 0 0), (12, VI s), (13, VI (k : Int))], [some ⟨4, [[VI b.level, VI b.now, VI b.burst, VI b.rate]]⟩, some ⟨4, [[VI (((b.serveP asks).2.1).level), VI (((b.serveP asks).2.1).now), VI (((b.serveP asks).2.1).burst), VI (((b.serveP asks).2.1).rate)]]⟩]⟩) (by kernel_rfl) ?_
                obtain ⟨a13, ha13⟩ : ∃ y, asks[(a9 : Int).toNat]? = some y := idx_ex ⟨by omega, by omega⟩
                refine OW.ope (v := .pim [VI a13.begin, VI a13.end_] 0) (u := []) (acc := []) (x' := ⟨[(70, .pim [VI a13.begin, VI a13.end_] 0), (69, VI a9), (68, .pim [VI a9] 0), (67, VI (k : Int)), (66, .lst 1 (((b.serveP asks).1).map cI)), (65, .lst 2 (asks.map Term.cs)), (64, .v (.bool false)), (1, .lst 2 (asks.map Term.cs)), (2, VI f), (3, VI t), (4, .ref 0 4 0 0), (9, .lst 1 (((b.serveP asks).1).map cI)), (10, .ref 1 4 0 0), (12, VI s), (13, VI (k : Int))], [some ⟨4, [[VI b.level, VI b.now, VI b.burst, VI b.rate]]⟩, some ⟨4, [[VI (((b.serveP asks).2.1).level), VI (((b.serveP asks).2.1).now), VI (((b.serveP asks).2.1).burst), VI (((b.serveP asks).2.1).rate)]]⟩]⟩) (by kernel_rfl) (opE_iad Term.cs asks (.s 65) (.s 69) 2 .i64 a9 a13 (by kernel_rfl) (by kernel_rfl) (.inl rfl) rfl (by omega) ha13) (by kernel_rfl) ?_
                refine OW.last 3 [1, 2, 3, 4, 9, 10, 12, 13, 14] (x' := ⟨[(14, .ref 2 2 0 0), (1, .lst 2 (asks.map Term.cs)), (2, VI f), (3, VI t), (4, .ref 0 4 0 0), (9, .lst 1 (((b.serveP asks).1).map cI)), (10, .ref 1 4 0 0), (12, VI s), (13, VI (k : Int))], [some ⟨4, [[VI b.level, VI b.now, VI b.burst, VI b.rate]]⟩, some ⟨4, [[VI (((b.serveP asks).2.1).level), VI (((b.serveP asks).2.1).now), VI (((b.serveP asks).2.1).burst), VI (((b.serveP asks).2.1).rate)]]⟩, some ⟨2, [[VI a13.begin, VI a13.end_]]⟩]⟩) (by kernel_rfl) (by kernel_rfl) ?_
                refine EL.sreg ?_
                refine OW.run 5 (x' := ⟨[(76, .v (.bool (decide (a13.begin ≥ f)))), (75, .v (.bool (decide (a13.begin ≥ f)))), (74, VI f), (73, VI a13.begin), (72, .ref 2 2 0 0), (14, .ref 2 2 0 0), (1, .lst 2 (asks.map Term.cs)), (2, VI f), (3, VI t), (4, .ref 0 4 0 0), (9, .lst 1 (((b.serveP asks).1).map cI)), (10, .ref 1 4 0 0), (12, VI s), (13, VI (k : Int))], [some ⟨4, [[VI b.level, VI b.now, VI b.burst, VI b.rate]]⟩, some ⟨4, [[VI (((b.serveP asks).2.1).level), VI (((b.serveP asks).2.1).now), VI (((b.serveP asks).2.1).burst), VI (((b.serveP asks).2.1).rate)]]⟩, some ⟨2, [[VI a13.begin, VI a13.end_]]⟩]⟩) (by kernel_rfl) ?_
                rcases Bool.eq_false_or_eq_true (decide (a13.begin ≥ f)) with h14 | h14
                · rw [h14]
                  have g14 : (a13.begin ≥ f) := of_decide_eq_true h14
                  refine OW.last 5 [1, 2, 3, 4, 9, 10, 12, 13, 14, 81] (x' := ⟨[(81, .v (.bool (decide (a13.begin ≤ t)))), (14, .ref 2 2 0 0), (1, .lst 2 (asks.map Term.cs)), (2, VI f), (3, VI t), (4, .ref 0 4 0 0), (9, .lst 1 (((b.serveP asks).1).map cI)), (10, .ref 1 4 0 0), (12, VI s), (13, VI (k : Int))], [some ⟨4, [[VI b.level, VI b.now, VI b.burst, VI b.rate]]⟩, some ⟨4, [[VI (((b.serveP asks).2.1).level), VI (((b.serveP asks).2.1).now), VI (((b.serveP asks).2.1).burst), VI (((b.serveP asks).2.1).rate)]]⟩, some ⟨2, [[VI a13.begin, VI a13.end_]]⟩]⟩) (by kernel_rfl) (by kernel_rfl) ?_
                  rcases Bool.eq_false_or_eq_true (decide (a13.begin ≤ t)) with h15 | h15
                  · rw [h15]
                    have g15 : (a13.begin ≤ t) := of_decide_eq_true h15
                    refine EL.condT (by kernel_rfl) ?_
                    refine EL.reg0 ?_
                    refine OW.run 5 (x' := ⟨[(12, VI (IntKind.i64.wrap (s + a13.end_))), (85, VI (IntKind.i64.wrap (s + a13.end_))), (84, VI a13.end_), (83, .ref 2 2 0 1), (82, VI s), (81, .v (.bool true)), (14, .ref 2 2 0 0), (1, .lst 2 (asks.map Term.cs)), (2, VI f), (3, VI t), (4, .ref 0 4 0 0), (9, .lst 1 (((b.serveP asks).1).map cI)), (10, .ref 1 4 0 0), (13, VI (k : Int))], [some ⟨4, [[VI b.level, VI b.now, VI b.burst, VI b.rate]]⟩, some ⟨4, [[VI (((b.serveP asks).2.1).level), VI (((b.serveP asks).2.1).now), VI (((b.serveP asks).2.1).burst), VI (((b.serveP asks).2.1).rate)]]⟩, some ⟨2, [[VI a13.begin, VI a13.end_]]⟩]⟩) (by kernel_rfl) ?_
                    have e16 : IntKind.i64.wrap (s + a13.end_) = s + a13.end_ := wr64 (by have q := hgood a9 (List.mem_of_getElem? ha9); have q2 := q.2.2 a13 ha13; omega)
                    rw [e16]
                    refine OW.end 0 (x' := ⟨[(12, VI (s + a13.end_)), (85, VI (s + a13.end_)), (84, VI a13.end_), (83, .ref 2 2 0 1), (82, VI s), (81, .v (.bool true)), (14, .ref 2 2 0 0), (1, .lst 2 (asks.map Term.cs)), (2, VI f), (3, VI t), (4, .ref 0 4 0 0), (9, .lst 1 (((b.serveP asks).1).map cI)), (10, .ref 1 4 0 0), (13, VI (k : Int))], [some ⟨4, [[VI b.level, VI b.now, VI b.burst, VI b.rate]]⟩, some ⟨4, [[VI (((b.serveP asks).2.1).level), VI (((b.serveP asks).2.1).now), VI (((b.serveP asks).2.1).burst), VI (((b.serveP asks).2.1).rate)]]⟩, some ⟨2, [[VI a13.begin, VI a13.end_]]⟩]⟩) (by kernel_rfl) (by kernel_rfl) ?_
                    refine inBlk_norm ?_
                    refine thenL_norm ?_
                    refine EL.reg0 ?_
                    refine OW.run 3 (x' := ⟨[(13, VI (IntKind.i64.wrap ((k : Int) + 1))), (50, VI (IntKind.i64.wrap ((k : Int) + 1))), (49, VI (k : Int)), (12, VI (s + a13.end_)), (85, VI (s + a13.end_)), (84, VI a13.end_), (83, .ref 2 2 0 1), (82, VI s), (81, .v (.bool true)), (14, .ref 2 2 0 0), (1, .lst 2 (asks.map Term.cs)), (2, VI f), (3, VI t), (4, .ref 0 4 0 0), (9, .lst 1 (((b.serveP asks).1).map cI)), (10, .ref 1 4 0 0)], [some ⟨4, [[VI b.level, VI b.now, VI b.burst, VI b.rate]]⟩, some ⟨4, [[VI (((b.serveP asks).2.1).level), VI (((b.serveP asks).2.1).now), VI (((b.serveP asks).2.1).burst), VI (((b.serveP asks).2.1).rate)]]⟩, some ⟨2, [[VI a13.begin, VI a13.end_]]⟩]⟩) (by kernel_rfl) ?_
                    have e17 : IntKind.i64.wrap ((k : Int) + 1) = (k : Int) + 1 := wr64 (by omega)
                    rw [e17]
                    refine OW.end 0 (x' := ⟨[(13, VI ((k : Int) + 1)), (50, VI ((k : Int) + 1)), (49, VI (k : Int)), (12, VI (s + a13.end_)), (85, VI (s + a13.end_)), (84, VI a13.end_), (83, .ref 2 2 0 1), (82, VI s), (81, .v (.bool true)), (14, .ref 2 2 0 0), (1, .lst 2 (asks.map Term.cs)), (2, VI f), (3, VI t), (4, .ref 0 4 0 0), (9, .lst 1 (((b.serveP asks).1).map cI)), (10, .ref 1 4 0 0)], [some ⟨4, [[VI b.level, VI b.now, VI b.burst, VI b.rate]]⟩, some ⟨4, [[VI (((b.serveP asks).2.1).level), VI (((b.serveP asks).2.1).now), VI (((b.serveP asks).2.1).burst), VI (((b.serveP asks).2.1).rate)]]⟩, some ⟨2, [[VI a13.begin, VI a13.end_]]⟩]⟩) (by kernel_rfl) (by kernel_rfl) ?_
                    refine thenL_norm ?_
                    refine round_end (live := [1, 2, 3, 4, 9, 10, 12, 13]) (src := [.old 0 false, .old 1 false]) (es := []) (y := (fun (k : Nat) (s : Int) => (⟨[(1, .lst 2 (asks.map Term.cs)), (2, VI f), (3, VI t), (4, .ref 0 4 0 0), (9, .lst 1 (((b.serveP asks).1).map cI)), (10, .ref 1 4 0 0), (12, VI s), (13, VI (k : Int))], [some ⟨4, [[VI b.level, VI b.now, VI b.burst, VI b.rate]]⟩, some ⟨4, [[VI (((b.serveP asks).2.1).level), VI (((b.serveP asks).2.1).now), VI (((b.serveP asks).2.1).burst), VI (((b.serveP asks).2.1).rate)]]⟩]⟩ : L3)) (k + 1) (s + a13.end_)) ?_ trivial ?_ ⟨(k + 1), (s + a13.end_), rfl, ?_, rfl⟩
                    · kernel_rfl
                    · omega
                    · (have q := hgood a9 (List.mem_of_getElem? ha9); have q2 := q.2.2 a13 ha13; rw [dha9] at hs; simp only [Bucket.sumOf, ha13] at hs; refine ⟨by omega, by omega, by omega, by omega, ?_⟩; first | (rw [if_pos (show Bucket.inIv f t a13 from ⟨by omega, by omega⟩)] at hs; omega) | (rw [if_neg (show ¬ Bucket.inIv f t a13 from fun hh => by obtain ⟨_, _⟩ := hh; omega)] at hs; omega))
                  · rw [h15]
                    have g15 : ¬ (a13.begin ≤ t) := of_decide_eq_false h15
                    refine EL.condF (by kernel_rfl) ?_
                    refine EL.skip ?_
                    refine inBlk_norm ?_
                    refine thenL_norm ?_
                    refine EL.reg0 ?_
                    refine OW.run 3 (x' := ⟨[(13, VI (IntKind.i64.wrap ((k : Int) + 1))), (50, VI (IntKind.i64.wrap ((k : Int) + 1))), (49, VI (k : Int)), (81, .v (.bool false)), (14, .ref 2 2 0 0), (1, .lst 2 (asks.map Term.cs)), (2, VI f), (3, VI t), (4, .ref 0 4 0 0), (9, .lst 1 (((b.serveP asks).1).map cI)), (10, .ref 1 4 0 0), (12, VI s)], [some ⟨4, [[VI b.level, VI b.now, VI b.burst, VI b.rate]]⟩, some ⟨4, [[VI (((b.serveP asks).2.1).level), VI (((b.serveP asks).2.1).now), VI (((b.serveP asks).2.1).burst), VI (((b.serveP asks).2.1).rate)]]⟩, some ⟨2, [[VI a13.begin, VI a13.end_]]⟩]⟩) (by kernel_rfl) ?_
                    have e18 : IntKind.i64.wrap ((k : Int) + 1) = (k : Int) + 1 := wr64 (by omega)
                    rw [e18]
                    refine OW.end 0 (x' := ⟨[(13, VI ((k : Int) + 1)), (50, VI ((k : Int) + 1)), (49, VI (k : Int)), (81, .v (.bool false)), (14, .ref 2 2 0 0), (1, .lst 2 (asks.map Term.cs)), (2, VI f), (3, VI t), (4, .ref 0 4 0 0), (9, .lst 1 (((b.serveP asks).1).map cI)), (10, .ref 1 4 0 0), (12, VI s)], [some ⟨4, [[VI b.level, VI b.now, VI b.burst, VI b.rate]]⟩, some ⟨4, [[VI (((b.serveP asks).2.1).level), VI (((b.serveP asks).2.1).now), VI (((b.serveP asks).2.1).burst), VI (((b.serveP asks).2.1).rate)]]⟩, some ⟨2, [[VI a13.begin, VI a13.end_]]⟩]⟩) (by kernel_rfl) (by kernel_rfl) ?_
                    refine thenL_norm ?_
                    refine round_end (live := [1, 2, 3, 4, 9, 10, 12, 13]) (src := [.old 0 false, .old 1 false]) (es := []) (y := (fun (k : Nat) (s : Int) => (⟨[(1, .lst 2 (asks.map Term.cs)), (2, VI f), (3, VI t), (4, .ref 0 4 0 0), (9, .lst 1 (((b.serveP asks).1).map cI)), (10, .ref 1 4 0 0), (12, VI s), (13, VI (k : Int))], [some ⟨4, [[VI b.level, VI b.now, VI b.burst, VI b.rate]]⟩, some ⟨4, [[VI (((b.serveP asks).2.1).level), VI (((b.serveP asks).2.1).now), VI (((b.serveP asks).2.1).burst), VI (((b.serveP asks).2.1).rate)]]⟩]⟩ : L3)) (k + 1) s) ?_ trivial ?_ ⟨(k + 1), s, rfl, ?_, rfl⟩
                    · kernel_rfl
                    · omega
                    · (have q := hgood a9 (List.mem_of_getElem? ha9); have q2 := q.2.2 a13 ha13; rw [dha9] at hs; simp only [Bucket.sumOf, ha13] at hs; refine ⟨by omega, by omega, by omega, by omega, ?_⟩; first | (rw [if_pos (show Bucket.inIv f t a13 from ⟨by omega, by omega⟩)] at hs; omega) | (rw [if_neg (show ¬ Bucket.inIv f t a13 from fun hh => by obtain ⟨_, _⟩ := hh; omega)] at hs; omega))
                · rw [h14]
                  have g14 : ¬ (a13.begin ≥ f) := of_decide_eq_false h14
                  refine OW.last 5 [1, 2, 3, 4, 9, 10, 12, 13, 14, 81] (x' := ⟨[(81, .v (.bool false)), (14, .ref 2 2 0 0), (1, .lst 2 (asks.map Term.cs)), (2, VI f), (3, VI t), (4, .ref 0 4 0 0), (9, .lst 1 (((b.serveP asks).1).map cI)), (10, .ref 1 4 0 0), (12, VI s), (13, VI (k : Int))], [some ⟨4, [[VI b.level, VI b.now, VI b.burst, VI b.rate]]⟩, some ⟨4, [[VI (((b.serveP asks).2.1).level), VI (((b.serveP asks).2.1).now), VI (((b.serveP asks).2.1).burst), VI (((b.serveP asks).2.1).rate)]]⟩, some ⟨2, [[VI a13.begin, VI a13.end_]]⟩]⟩) (by kernel_rfl) (by kernel_rfl) ?_
                  refine EL.condF (by kernel_rfl) ?_
                  refine EL.skip ?_
                  refine inBlk_norm ?_
                  refine thenL_norm ?_
                  refine EL.reg0 ?_
                  refine OW.run 3 (x' := ⟨[(13, VI (IntKind.i64.wrap ((k : Int) + 1))), (50, VI (IntKind.i64.wrap ((k : Int) + 1))), (49, VI (k : Int)), (81, .v (.bool false)), (14, .ref 2 2 0 0), (1, .lst 2 (asks.map Term.cs)), (2, VI f), (3, VI t), (4, .ref 0 4 0 0), (9, .lst 1 (((b.serveP asks).1).map cI)), (10, .ref 1 4 0 0), (12, VI s)], [some ⟨4, [[VI b.level, VI b.now, VI b.burst, VI b.rate]]⟩, some ⟨4, [[VI (((b.serveP asks).2.1).level), VI (((b.serveP asks).2.1).now), VI (((b.serveP asks).2.1).burst), VI (((b.serveP asks).2.1).rate)]]⟩, some ⟨2, [[VI a13.begin, VI a13.end_]]⟩]⟩) (by kernel_rfl) ?_
                  have e19 : IntKind.i64.wrap ((k : Int) + 1) = (k : Int) + 1 := wr64 (by omega)
                  rw [e19]
                  refine OW.end 0 (x' := ⟨[(13, VI ((k : Int) + 1)), (50, VI ((k : Int) + 1)), (49, VI (k : Int)), (81, .v (.bool false)), (14, .ref 2 2 0 0), (1, .lst 2 (asks.map Term.cs)), (2, VI f), (3, VI t), (4, .ref 0 4 0 0), (9, .lst 1 (((b.serveP asks).1).map cI)), (10, .ref 1 4 0 0), (12, VI s)], [some ⟨4, [[VI b.level, VI b.now, VI b.burst, VI b.rate]]⟩, some ⟨4, [[VI (((b.serveP asks).2.1).level), VI (((b.serveP asks).2.1).now), VI (((b.serveP asks).2.1).burst), VI (((b.serveP asks).2.1).rate)]]⟩, some ⟨2, [[VI a13.begin, VI a13.end_]]⟩]⟩) (by kernel_rfl) (by kernel_rfl) ?_
                  refine thenL_norm ?_
                  refine round_end (live := [1, 2, 3, 4, 9, 10, 12, 13]) (src := [.old 0 false, .old 1 false]) (es := []) (y := (fun (k : Nat) (s : Int) => (⟨[(1, .lst 2 (asks.map Term.cs)), (2, VI f), (3, VI t), (4, .ref 0 4 0 0), (9, .lst 1 (((b.serveP asks).1).map cI)), (10, .ref 1 4 0 0), (12, VI s), (13, VI (k : Int))], [some ⟨4, [[VI b.level, VI b.now, VI b.burst, VI b.rate]]⟩, some ⟨4, [[VI (((b.serveP asks).2.1).level), VI (((b.serveP asks).2.1).now), VI (((b.serveP asks).2.1).burst), VI (((b.serveP asks).2.1).rate)]]⟩]⟩ : L3)) (k + 1) s) ?_ trivial ?_ ⟨(k + 1), s, rfl, ?_, rfl⟩
                  · kernel_rfl
                  · omega
                  · (have q := hgood a9 (List.mem_of_getElem? ha9); have q2 := q.2.2 a13 ha13; rw [dha9] at hs; simp only [Bucket.sumOf, ha13] at hs; refine ⟨by omega, by omega, by omega, by omega, ?_⟩; first | (rw [if_pos (show Bucket.inIv f t a13 from ⟨by omega, by omega⟩)] at hs; omega) | (rw [if_neg (show ¬ Bucket.inIv f t a13 from fun hh => by obtain ⟨_, _⟩ := hh; omega)] at hs; omega))
          · rw [h7]
            have g7 : ¬ ((k : Int) < (List.length ((b.serveP asks).1) : Int)) := of_decide_eq_false h7
            have n7 : ¬ ((k) < (List.length ((b.serveP asks).1))) := by omega
            refine EL.condF (by kernel_rfl) ?_
            refine EL.exit ?_
            refine thenL_exit ?_
            refine thenL_exit ?_
            refine inBlk_hit ?_
            refine thenL_norm ?_
            refine EL.sreg ?_
            refine OW.run 12 (x' := ⟨[(97, .v (.bool (decide (s ≤ IntKind.i64.wrap (b.burst + (IntKind.i64.wrap (b.rate * (IntKind.i64.wrap (t - f))))))))), (96, .v (.bool (decide (s ≤ IntKind.i64.wrap (b.burst + (IntKind.i64.wrap (b.rate * (IntKind.i64.wrap (t - f))))))))), (95, VI (IntKind.i64.wrap (b.burst + (IntKind.i64.wrap (b.rate * (IntKind.i64.wrap (t - f))))))), (94, VI (IntKind.i64.wrap (b.rate * (IntKind.i64.wrap (t - f))))), (93, VI (IntKind.i64.wrap (t - f))), (92, VI f), (91, VI t), (90, VI b.rate), (89, .ref 0 4 0 3), (88, VI b.burst), (87, .ref 0 4 0 2), (86, VI s), (48, .v (.bool false)), (1, .lst 2 (asks.map Term.cs)), (2, VI f), (3, VI t), (4, .ref 0 4 0 0), (9, .lst 1 (((b.serveP asks).1).map cI)), (10, .ref 1 4 0 0), (12, VI s), (13, VI (k : Int))], [some ⟨4, [[VI b.level, VI b.now, VI b.burst, VI b.rate]]⟩, some ⟨4, [[VI (((b.serveP asks).2.1).level), VI (((b.serveP asks).2.1).now), VI (((b.serveP asks).2.1).burst), VI (((b.serveP asks).2.1).rate)]]⟩]⟩) (by kernel_rfl) ?_
            have e20 : IntKind.i64.wrap (t - f) = t - f := wr64 (by omega)
            rw [e20]
            have e21 : IntKind.i64.wrap (b.rate * (t - f)) = b.rate * (t - f) := wr64 (by have hb := Bucket.serve_bound (b := b) (asks := asks) (f := f) (t := t) (by omega) (by omega) (by omega) (by omega); obtain ⟨_, _, _, _, ⟨⟨_, _⟩, ⟨_, _⟩, _, _⟩, _⟩ := hb; have hp := Bucket.prod_bd (r := b.rate) (d := t - f) (by omega) (by omega) (by omega) (by omega); omega)
            rw [e21]
            have e22 : IntKind.i64.wrap (b.burst + (b.rate * (t - f))) = b.burst + (b.rate * (t - f)) := wr64 (by have hb := Bucket.serve_bound (b := b) (asks := asks) (f := f) (t := t) (by omega) (by omega) (by omega) (by omega); obtain ⟨_, _, _, _, ⟨⟨_, _⟩, ⟨_, _⟩, _, _⟩, _⟩ := hb; have hp := Bucket.prod_bd (r := b.rate) (d := t - f) (by omega) (by omega) (by omega) (by omega); omega)
            rw [e22]
            rcases Bool.eq_false_or_eq_true (decide (s ≤ (b.burst + (b.rate * (t - f))))) with h23 | h23
            · rw [h23]
              have g23 : (s ≤ (b.burst + (b.rate * (t - f)))) := of_decide_eq_true h23
              refine OW.run 1 (x' := ⟨[(98, .agg [VI (((b.serveP asks).2.1).level), VI (((b.serveP asks).2.1).now), VI (((b.serveP asks).2.1).burst), VI (((b.serveP asks).2.1).rate)]), (97, .v (.bool true)), (96, .v (.bool true)), (95, VI (b.burst + (b.rate * (t - f)))), (94, VI (b.rate * (t - f))), (93, VI (t - f)), (92, VI f), (91, VI t), (90, VI b.rate), (89, .ref 0 4 0 3), (88, VI b.burst), (87, .ref 0 4 0 2), (86, VI s), (48, .v (.bool false)), (1, .lst 2 (asks.map Term.cs)), (2, VI f), (3, VI t), (4, .ref 0 4 0 0), (9, .lst 1 (((b.serveP asks).1).map cI)), (10, .ref 1 4 0 0), (12, VI s), (13, VI (k : Int))], [some ⟨4, [[VI b.level, VI b.now, VI b.burst, VI b.rate]]⟩, some ⟨4, [[VI (((b.serveP asks).2.1).level), VI (((b.serveP asks).2.1).now), VI (((b.serveP asks).2.1).burst), VI (((b.serveP asks).2.1).rate)]]⟩]⟩) (by kernel_rfl) ?_
              refine OW.fn (ar := [.agg [VI (((b.serveP asks).2.1).level), VI (((b.serveP asks).2.1).now), VI (((b.serveP asks).2.1).burst), VI (((b.serveP asks).2.1).rate)]]) (x' := ⟨[(99, VI (((b.serveP asks).2.1).checkE)), (98, .agg [VI (((b.serveP asks).2.1).level), VI (((b.serveP asks).2.1).now), VI (((b.serveP asks).2.1).burst), VI (((b.serveP asks).2.1).rate)]), (97, .v (.bool true)), (96, .v (.bool true)), (95, VI (b.burst + (b.rate * (t - f)))), (94, VI (b.rate * (t - f))), (93, VI (t - f)), (92, VI f), (91, VI t), (90, VI b.rate), (89, .ref 0 4 0 3), (88, VI b.burst), (87, .ref 0 4 0 2), (86, VI s), (48, .v (.bool false)), (1, .lst 2 (asks.map Term.cs)), (2, VI f), (3, VI t), (4, .ref 0 4 0 0), (9, .lst 1 (((b.serveP asks).1).map cI)), (10, .ref 1 4 0 0), (12, VI s), (13, VI (k : Int))], [some ⟨4, [[VI b.level, VI b.now, VI b.burst, VI b.rate]]⟩, some ⟨4, [[VI (((b.serveP asks).2.1).level), VI (((b.serveP asks).2.1).now), VI (((b.serveP asks).2.1).burst), VI (((b.serveP asks).2.1).rate)]]⟩]⟩) (by kernel_rfl) (by kernel_rfl) F16_call (check_fn ((b.serveP asks).2.1)) (by kernel_rfl) (by kernel_rfl) ?_
              refine OW.last 3 [8] (x' := ⟨[(8, .v (.bool ((((b.serveP asks).2.1).checkE) == 0)))], [some ⟨4, [[VI b.level, VI b.now, VI b.burst, VI b.rate]]⟩, some ⟨4, [[VI (((b.serveP asks).2.1).level), VI (((b.serveP asks).2.1).now), VI (((b.serveP asks).2.1).burst), VI (((b.serveP asks).2.1).rate)]]⟩]⟩) (by kernel_rfl) (by kernel_rfl) ?_
              refine EL.ret ?_
              refine ⟨.inr rfl, .v (.bool ((((b.serveP asks).2.1).checkE) == 0)), by kernel_rfl, Ale.of_eq ?_⟩
              first | rfl | (exfalso; have q := hgood a9 (List.mem_of_getElem? ha9); omega) | (rw [List.drop_eq_nil_of_le (by omega)] at hs; simp only [Bucket.sumOf] at hs; have hb := Bucket.serve_bound (b := b) (asks := asks) (f := f) (t := t) (by omega) (by omega) (by omega) (by omega); first | (exfalso; omega) | (refine congrArg (fun b => AV.v (Value.bool b)) ?_; simp; omega)) | (have hn := Bucket.serve_no (b := b) (asks := asks) (by omega); simp_all; done) | trace_state
            · rw [h23]
              have g23 : ¬ (s ≤ (b.burst + (b.rate * (t - f)))) := of_decide_eq_false h23
              refine OW.last 5 [8] (x' := ⟨[(8, .v (.bool false))], [some ⟨4, [[VI b.level, VI b.now, VI b.burst, VI b.rate]]⟩, some ⟨4, [[VI (((b.serveP asks).2.1).level), VI (((b.serveP asks).2.1).now), VI (((b.serveP asks).2.1).burst), VI (((b.serveP asks).2.1).rate)]]⟩]⟩) (by kernel_rfl) (by kernel_rfl) ?_
              refine EL.ret ?_
              refine ⟨.inr rfl, .v (.bool false), by kernel_rfl, Ale.of_eq ?_⟩
              first | rfl | (exfalso; have q := hgood a9 (List.mem_of_getElem? ha9); omega) | (rw [List.drop_eq_nil_of_le (by omega)] at hs; simp only [Bucket.sumOf] at hs; have hb := Bucket.serve_bound (b := b) (asks := asks) (f := f) (t := t) (by omega) (by omega) (by omega) (by omega); first | (exfalso; omega) | (refine congrArg (fun b => AV.v (Value.bool b)) ?_; simp; omega)) | (have hn := Bucket.serve_no (b := b) (asks := asks) (by omega); simp_all; done) | trace_state
theorem BucketBound_walk {w : World} (b : Bucket) (_okb : b.ok) (asks : List Term) (Aasks : Option Addr) (nasks casks : Nat) (rasks : GoT.rep w w.heap.size [.slice Aasks nasks casks] asks) (f : Int) (_wf : (Lit.int .i64 f).wf = true) (t : Int) (_wt : (Lit.int .i64 t).wf = true) : Calls Try.prog 5 #[b.v, .slice Aasks nasks casks, I f, I t] w fun e w' => e = .returned (.bool true) ∧ Below w.heap.size w w' := by
  have lasks := rep_len rasks
  exact fn_law (vs := [b.v, .slice Aasks nasks casks, I f, I t]) (bucketBound_fn b asks f t (by omega)) (.cons ((R2.agg (.cons (.v rfl) (.cons (.v rfl) (.cons (.v rfl) (.cons (.v rfl) (.nil))))) : Rep _ b.v _)) (.cons (rep_list (fun x : Term => [I x.begin, I x.end_]) _ Term.flat (fun _ => rfl) (by intro x v hv; simp at hv; rcases hv with rfl | rfl <;> exact ⟨rfl, rfl⟩) rasks) (.cons (.v rfl) (.cons (.v rfl) (.nil)))))
theorem BucketBound_own : ownKnob Try.prog.godebug = none := by kernel_rfl
theorem BucketBound_laidOut : laidOutB Try.prog = true := by kernel_rfl
set_option maxRecDepth 100000 in
set_option linter.unusedVariables false in
theorem BucketBound_lifted (os : Os) (started : os.Started) (H : Type) (enc : TypeId × Value → H) :
    ReturnsInHanded {} Try.checked os 5 .any (Rows.bucketBoundSpec.pre6 enc Try.prog Try.f5 Rows.bucketBoundRow.domain false) (Rows.bucketBoundSpec.post enc Try.prog Try.f5 false true false false) := by
  refine returnsInHanded_of_change (C := Try.checked) BucketBound_own started (by kernel_rfl) Try.func5
    (ChangeSpec.witness6 (enc := enc) (C := Try.checked) false ⟨#[], #[.agg #[.int .i64 0, .int .i64 0, .int .i64 0, .int .i64 0], .slice none 0 0, .int .i64 0, .int .i64 0], []⟩ 8 (by kernel_rfl) (by kernel_rfl) (by kernel_rfl) (by kernel_rfl)) ?_
  intro W base args ds gs before hval0 hW hcnd _
  have hval : ∀ (j : Nat) t v, Try.f5.params[j]? = some t → args[j]? = some v → Value.okWide Try.prog W .any base t v := hval0
  have hW' := hW
  obtain ⟨p, q, hA0, hV, rfl, hfz, hnd⟩ := hW
  have hA : DataW.TrodAll enc Try.prog W 0 (fun _ => true) true Try.f5.params.toList args.toList ds p := hA0
  rw [Try.params5] at hA hval
  obtain ⟨v0, vs0, d0, ds0, p0, q0, hargs, rfl, rfl, h0, r0⟩ := trodAll_cons hA
  obtain ⟨v1, vs1, d1, ds1, p1, q1, rfl, rfl, rfl, h1, r1⟩ := trodAll_cons r0
  obtain ⟨v2, vs2, d2, ds2, p2, q2, rfl, rfl, rfl, h2, r2⟩ := trodAll_cons r1
  obtain ⟨v3, vs3, d3, ds3, p3, q3, rfl, rfl, rfl, h3, r3⟩ := trodAll_cons r2
  obtain ⟨rfl, rfl, rfl⟩ := trodAll_nil r3
  obtain rfl : args = #[v0, v1, v2, v3] := by cases args; simp_all
  obtain ⟨rfl, rfl⟩ := trodVars_none hV
  have k0 := h0
  have lt0 : ∀ x ∈ p0, x.block < W.heap.size := by obtain ⟨m, hm⟩ := k0; exact DataW.trod_lt m _ _ _ hm
  obtain ⟨x0, cs0, rfl, w0⟩ := open_agg opens_Bucket Try.underlying23 (hval 0 23 v0 rfl rfl) h0
  obtain ⟨rfl, ok0⟩ := Bucket.flat w0
  have k1 := h1
  have lt1 : ∀ x ∈ p1, x.block < W.heap.size := by obtain ⟨m, hm⟩ := k1; exact DataW.trod_lt m _ _ _ hm
  obtain ⟨x1, A1, n1, c1, rfl, w1⟩ := open_list opens_LTerm Try.underlying32 (hval 1 32 v1 rfl rfl) h1
  have k2 := h2
  have lt2 : ∀ x ∈ p2, x.block < W.heap.size := by obtain ⟨m, hm⟩ := k2; exact DataW.trod_lt m _ _ _ hm
  obtain ⟨a2, rfl, e2, e2', w2⟩ := open_int Try.underlying3 (hval 2 3 v2 rfl rfl) h2
  have k3 := h3
  have lt3 : ∀ x ∈ p3, x.block < W.heap.size := by obtain ⟨m, hm⟩ := k3; exact DataW.trod_lt m _ _ _ hm
  obtain ⟨a3, rfl, e3, e3', w3⟩ := open_int Try.underlying3 (hval 3 3 v3 rfl rfl) h3
  clear hA0 hval0
  refine (BucketBound_walk (w := W) x0 ok0 x1 A1 n1 c1 w1 a2 w2 a3 w3).mono fun e W' ⟨he, bel⟩ => ?_
  subst he
  exact ⟨_, rfl, _, _, _, [], _, [], hW', trodAll_mk1 (shut_bool Try.underlying4 _), (trodAll_cons_mk (Below.trod BucketBound_laidOut (by kernel_rfl) (of_decide_eq_true (by kernel_rfl)) k0 bel lt0) (trodAll_cons_mk (Below.trod BucketBound_laidOut (by kernel_rfl) (of_decide_eq_true (by kernel_rfl)) k1 bel lt1) (trodAll_cons_mk (Below.trod BucketBound_laidOut (by kernel_rfl) (of_decide_eq_true (by kernel_rfl)) k2 bel lt2) (trodAll_cons_mk (Below.trod BucketBound_laidOut (by kernel_rfl) (of_decide_eq_true (by kernel_rfl)) k3 bel lt3) trodAll_mk0)))), rfl, bel.frame _, fun h => by cases h⟩
theorem BucketBound_closed : joinedFacts Try.prog 5 Try.f5 Rows.bucketBoundSpec Rows.bucketBoundRow = true := by
  unfold joinedFacts
  repeat' (with_reducible refine and_tt ?_ ?_)
  all_goals as_aux_lemma => kernel_rfl
theorem BucketBound_over : Rows.bucketBoundRow.holds Try.pinned (OpenSpec.ofChange Rows.bucketBoundSpec) :=
  OpenClaim.holds_of_wide 5 Try.f5 rfl rfl rfl rfl rfl rfl rfl ⟨rfl, rfl, rfl, rfl, rfl⟩ rfl rfl rfl rfl rfl (by as_aux_lemma => kernel_rfl) Try.func5 BucketBound_closed
    (of_decide_eq_true (by as_aux_lemma => kernel_rfl)) (by unfold Func.isWrapper; rw [if_neg (of_decide_eq_false (by as_aux_lemma => kernel_rfl))]; exact ⟨rfl, rfl⟩)
    (fun os started H enc _ => BucketBound_lifted os started H enc)
theorem BucketBound_holds : Rows.BucketBoundSaid := BucketBound_over
end Go.Proofs.Ytdoaefekbbgcmaa
