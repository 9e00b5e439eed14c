/- At the time that Ready returns the tokens are available, and not before; more tokens are not available earlier: the law BucketReady returns true. No condition. -/
import Derived.Test.YtdoaefekbbgcmaaBucketA
import Derived.Test.YtdoaefekbbgcmaaBucketB
import Derived.Test.YtdoaefekbbgcmaaBucketN
import Derived.WalkKit
import Derived.Handy
import Derived.ProofKit
import Derived.OpenShut
import Derived.ShutString
import Derived.ChangeOld
import Derived.Below
import Derived.Lib.Hide
import Derived.WalkLawsBesides
import Derived.WalkSpells
import Derived.Deep.QuietTactic
import Derived.BigQuiet
import Derived.Outline
namespace Go.Proofs.Ytdoaefekbbgcmaa
set_option linter.unusedSimpArgs false
set_option linter.unusedVariables false
open Go.ChangeShapes Go.WideShapes Go.ChangeAt Go.RowKit
open Go.ChangeMaps (open_string shut_string)
set_option maxRecDepth 100000
theorem bucketReady_fn (b : Bucket) (n : Int) (more : Int) (now : Int) : Fn Try.prog 7 [.agg [VI b.level, VI b.now, VI b.burst, VI b.rate], VI n, VI more, VI now] (.v (.bool true)) := by
  refine fn_walkW F7_ok (of_decide_eq_true (by kernel_rfl)) ?_
  refine EL.sreg ?_
  refine OW.last 2 [1, 2, 3, 4] (x' := ⟨[(4, .ref 0 4 0 0), (1, VI n), (2, VI more), (3, VI now)], [some ⟨4, [[VI b.level, VI b.now, VI b.burst, VI b.rate]]⟩]⟩) (by kernel_rfl) (by kernel_rfl) ?_
  refine EL.sreg ?_
  refine OW.run 2 (x' := ⟨[(21, VI n), (20, .agg [VI b.level, VI b.now, VI b.burst, VI b.rate]), (4, .ref 0 4 0 0), (1, VI n), (2, VI more), (3, VI now)], [some ⟨4, [[VI b.level, VI b.now, VI b.burst, VI b.rate]]⟩]⟩) (by kernel_rfl) ?_
  refine OW.fn (ar := [.agg [VI b.level, VI b.now, VI b.burst, VI b.rate], VI n]) (x' := ⟨[(22, .tup [VI ((b.readyP n).1), VI ((b.readyP n).2)]), (21, VI n), (20, .agg [VI b.level, VI b.now, VI b.burst, VI b.rate]), (4, .ref 0 4 0 0), (1, VI n), (2, VI more), (3, VI now)], [some ⟨4, [[VI b.level, VI b.now, VI b.burst, VI b.rate]]⟩]⟩) (by kernel_rfl) (by kernel_rfl) F11_call (ready_fn b n) (by kernel_rfl) (by kernel_rfl) ?_
  refine OW.last 5 [1, 2, 3, 4, 9, 10] (x' := ⟨[(10, VI ((b.readyP n).2)), (9, VI ((b.readyP n).1)), (4, .ref 0 4 0 0), (1, VI n), (2, VI more), (3, VI now)], [some ⟨4, [[VI b.level, VI b.now, VI b.burst, VI b.rate]]⟩]⟩) (by kernel_rfl) (by kernel_rfl) ?_
  refine EL.seq ?_
  refine EL.sreg ?_
  refine OW.fn (ar := []) (x' := ⟨[(25, .v (.bool true)), (10, VI ((b.readyP n).2)), (9, VI ((b.readyP n).1)), (4, .ref 0 4 0 0), (1, VI n), (2, VI more), (3, VI now)], [some ⟨4, [[VI b.level, VI b.now, VI b.burst, VI b.rate]]⟩]⟩) (by kernel_rfl) (by kernel_rfl) F15_call (begun_fn) (by kernel_rfl) (by kernel_rfl) ?_
  refine OW.last 1 [1, 2, 3, 4, 9, 10, 26] (x' := ⟨[(26, .v (.bool false)), (10, VI ((b.readyP n).2)), (9, VI ((b.readyP n).1)), (4, .ref 0 4 0 0), (1, VI n), (2, VI more), (3, VI now)], [some ⟨4, [[VI b.level, VI b.now, VI b.burst, VI b.rate]]⟩]⟩) (by kernel_rfl) (by kernel_rfl) ?_
  refine EL.condF (by kernel_rfl) ?_
  refine EL.skip ?_
  refine thenL_norm ?_
  refine EL.seq ?_
  refine EL.sreg ?_
  refine OW.last 2 [1, 2, 3, 4, 9, 28] (x' := ⟨[(28, .v (.bool (((b.readyP n).2) != 0))), (9, VI ((b.readyP n).1)), (4, .ref 0 4 0 0), (1, VI n), (2, VI more), (3, VI now)], [some ⟨4, [[VI b.level, VI b.now, VI b.burst, VI b.rate]]⟩]⟩) (by kernel_rfl) (by kernel_rfl) ?_
  rcases Bool.eq_false_or_eq_true ((((b.readyP n).2) != 0)) with h1 | h1
  · rw [h1]
    have g1 : ¬ (((b.readyP n).2) = 0) := by simpa using h1
    refine EL.condT (by kernel_rfl) ?_
    refine EL.sreg ?_
    refine OW.run 3 (x' := ⟨[(32, VI n), (31, VI now), (30, .agg [VI b.level, VI b.now, VI b.burst, VI b.rate]), (28, .v (.bool true)), (9, VI ((b.readyP n).1)), (4, .ref 0 4 0 0), (1, VI n), (2, VI more), (3, VI now)], [some ⟨4, [[VI b.level, VI b.now, VI b.burst, VI b.rate]]⟩]⟩) (by kernel_rfl) ?_
    refine OW.fn (ar := [.agg [VI b.level, VI b.now, VI b.burst, VI b.rate], VI now, VI n]) (x' := ⟨[(33, .tup [.agg [VI (((b.takeP now n).1).level), VI (((b.takeP now n).1).now), VI (((b.takeP now n).1).burst), VI (((b.takeP now n).1).rate)], VI ((b.takeP now n).2)]), (32, VI n), (31, VI now), (30, .agg [VI b.level, VI b.now, VI b.burst, VI b.rate]), (28, .v (.bool true)), (9, VI ((b.readyP n).1)), (4, .ref 0 4 0 0), (1, VI n), (2, VI more), (3, VI now)], [some ⟨4, [[VI b.level, VI b.now, VI b.burst, VI b.rate]]⟩]⟩) (by kernel_rfl) (by kernel_rfl) F10_call (take_fn b now n) (by kernel_rfl) (by kernel_rfl) ?_
    refine OW.last 6 [9, 12] (x' := ⟨[(12, VI ((b.takeP now n).2)), (9, VI ((b.readyP n).1))], [some ⟨4, [[VI b.level, VI b.now, VI b.burst, VI b.rate]]⟩, some ⟨4, [[VI (((b.takeP now n).1).level), VI (((b.takeP now n).1).now), VI (((b.takeP now n).1).burst), VI (((b.takeP now n).1).rate)]]⟩]⟩) (by kernel_rfl) (by kernel_rfl) ?_
    refine EL.sreg ?_
    refine OW.run 3 (x' := ⟨[(38, .v (.bool (((b.readyP n).1) == 0))), (37, .v (.bool (((b.readyP n).1) == 0))), (36, VI ((b.readyP n).1)), (12, VI ((b.takeP now n).2)), (9, VI ((b.readyP n).1))], [some ⟨4, [[VI b.level, VI b.now, VI b.burst, VI b.rate]]⟩, some ⟨4, [[VI (((b.takeP now n).1).level), VI (((b.takeP now n).1).now), VI (((b.takeP now n).1).burst), VI (((b.takeP now n).1).rate)]]⟩]⟩) (by kernel_rfl) ?_
    rcases Bool.eq_false_or_eq_true ((((b.readyP n).1) == 0)) with h2 | h2
    · rw [h2]
      have g2 : (((b.readyP n).1) = 0) := by simpa using h2
      refine OW.last 4 [8] (x' := ⟨[(8, .v (.bool (((b.takeP now n).2) != 0)))], [some ⟨4, [[VI b.level, VI b.now, VI b.burst, VI b.rate]]⟩, some ⟨4, [[VI (((b.takeP now n).1).level), VI (((b.takeP now n).1).now), VI (((b.takeP now n).1).burst), VI (((b.takeP now n).1).rate)]]⟩]⟩) (by kernel_rfl) (by kernel_rfl) ?_
      refine EL.ret ?_
      refine thenL_ret ?_
      refine ⟨.inr rfl, .v (.bool (((b.takeP now n).2) != 0)), by kernel_rfl, Ale.of_eq ?_⟩
      first | rfl | (exfalso; have hn := Bucket.ready_no (now := now) (n := n) (b := b) (by omega); omega) | (exfalso; have hn := Bucket.ready_yes (n := n) (b := b) (by omega); first | (have := hn.2.2.2 now (by omega); omega) | (have := Bucket.ready_more (n := n) (more := more) (b := b) (by omega) (by omega) (by omega); omega) | omega) | (have hn := Bucket.ready_no (now := now) (n := n) (b := b) (by omega); refine congrArg (fun b => AV.v (Value.bool b)) ?_; simp [hn, *]; done) | (have hn := Bucket.ready_yes (n := n) (b := b) (by omega); have := Bucket.ready_more (n := n) (more := more) (b := b) (by omega) (by omega) (by omega); refine congrArg (fun b => AV.v (Value.bool b)) ?_; simp; omega) | trace_state
    · rw [h2]
      have g2 : ¬ (((b.readyP n).1) = 0) := by simpa using h2
      refine OW.last 4 [8] (x' := ⟨[(8, .v (.bool false))], [some ⟨4, [[VI b.level, VI b.now, VI b.burst, VI b.rate]]⟩, some ⟨4, [[VI (((b.takeP now n).1).level), VI (((b.takeP now n).1).now), VI (((b.takeP now n).1).burst), VI (((b.takeP now n).1).rate)]]⟩]⟩) (by kernel_rfl) (by kernel_rfl) ?_
      refine EL.ret ?_
      refine thenL_ret ?_
      refine ⟨.inr rfl, .v (.bool false), by kernel_rfl, Ale.of_eq ?_⟩
      first | rfl | (exfalso; have hn := Bucket.ready_no (now := now) (n := n) (b := b) (by omega); omega) | (exfalso; have hn := Bucket.ready_yes (n := n) (b := b) (by omega); first | (have := hn.2.2.2 now (by omega); omega) | (have := Bucket.ready_more (n := n) (more := more) (b := b) (by omega) (by omega) (by omega); omega) | omega) | (have hn := Bucket.ready_no (now := now) (n := n) (b := b) (by omega); refine congrArg (fun b => AV.v (Value.bool b)) ?_; simp [hn, *]; done) | (have hn := Bucket.ready_yes (n := n) (b := b) (by omega); have := Bucket.ready_more (n := n) (more := more) (b := b) (by omega) (by omega) (by omega); refine congrArg (fun b => AV.v (Value.bool b)) ?_; simp; omega) | trace_state
  · rw [h1]
    have g1 : (((b.readyP n).2) = 0) := by simpa using h1
    refine EL.condF (by kernel_rfl) ?_
    refine EL.skip ?_
    refine thenL_norm ?_
    refine EL.sreg ?_
    refine OW.run 3 (x' := ⟨[(45, VI n), (44, VI ((b.readyP n).1)), (43, .agg [VI b.level, VI b.now, VI b.burst, VI b.rate]), (28, .v (.bool false)), (9, VI ((b.readyP n).1)), (4, .ref 0 4 0 0), (1, VI n), (2, VI more), (3, VI now)], [some ⟨4, [[VI b.level, VI b.now, VI b.burst, VI b.rate]]⟩]⟩) (by kernel_rfl) ?_
    refine OW.fn (ar := [.agg [VI b.level, VI b.now, VI b.burst, VI b.rate], VI ((b.readyP n).1), VI n]) (x' := ⟨[(46, .tup [.agg [VI (((b.takeP ((b.readyP n).1) n).1).level), VI (((b.takeP ((b.readyP n).1) n).1).now), VI (((b.takeP ((b.readyP n).1) n).1).burst), VI (((b.takeP ((b.readyP n).1) n).1).rate)], VI ((b.takeP ((b.readyP n).1) n).2)]), (45, VI n), (44, VI ((b.readyP n).1)), (43, .agg [VI b.level, VI b.now, VI b.burst, VI b.rate]), (28, .v (.bool false)), (9, VI ((b.readyP n).1)), (4, .ref 0 4 0 0), (1, VI n), (2, VI more), (3, VI now)], [some ⟨4, [[VI b.level, VI b.now, VI b.burst, VI b.rate]]⟩]⟩) (by kernel_rfl) (by kernel_rfl) F10_call (take_fn b ((b.readyP n).1) n) (by kernel_rfl) (by kernel_rfl) ?_
    refine OW.last 6 [1, 2, 3, 4, 9, 14] (x' := ⟨[(14, VI ((b.takeP ((b.readyP n).1) n).2)), (9, VI ((b.readyP n).1)), (4, .ref 0 4 0 0), (1, VI n), (2, VI more), (3, VI now)], [some ⟨4, [[VI b.level, VI b.now, VI b.burst, VI b.rate]]⟩, some ⟨4, [[VI (((b.takeP ((b.readyP n).1) n).1).level), VI (((b.takeP ((b.readyP n).1) n).1).now), VI (((b.takeP ((b.readyP n).1) n).1).burst), VI (((b.takeP ((b.readyP n).1) n).1).rate)]]⟩]⟩) (by kernel_rfl) (by kernel_rfl) ?_
    refine EL.sreg ?_
    refine OW.run 3 (x' := ⟨[(52, VI n), (51, VI now), (50, .agg [VI b.level, VI b.now, VI b.burst, VI b.rate]), (14, VI ((b.takeP ((b.readyP n).1) n).2)), (9, VI ((b.readyP n).1)), (4, .ref 0 4 0 0), (1, VI n), (2, VI more), (3, VI now)], [some ⟨4, [[VI b.level, VI b.now, VI b.burst, VI b.rate]]⟩, some ⟨4, [[VI (((b.takeP ((b.readyP n).1) n).1).level), VI (((b.takeP ((b.readyP n).1) n).1).now), VI (((b.takeP ((b.readyP n).1) n).1).burst), VI (((b.takeP ((b.readyP n).1) n).1).rate)]]⟩]⟩) (by kernel_rfl) ?_
    refine OW.fn (ar := [.agg [VI b.level, VI b.now, VI b.burst, VI b.rate], VI now, VI n]) (x' := ⟨[(53, .tup [.agg [VI (((b.takeP now n).1).level), VI (((b.takeP now n).1).now), VI (((b.takeP now n).1).burst), VI (((b.takeP now n).1).rate)], VI ((b.takeP now n).2)]), (52, VI n), (51, VI now), (50, .agg [VI b.level, VI b.now, VI b.burst, VI b.rate]), (14, VI ((b.takeP ((b.readyP n).1) n).2)), (9, VI ((b.readyP n).1)), (4, .ref 0 4 0 0), (1, VI n), (2, VI more), (3, VI now)], [some ⟨4, [[VI b.level, VI b.now, VI b.burst, VI b.rate]]⟩, some ⟨4, [[VI (((b.takeP ((b.readyP n).1) n).1).level), VI (((b.takeP ((b.readyP n).1) n).1).now), VI (((b.takeP ((b.readyP n).1) n).1).burst), VI (((b.takeP ((b.readyP n).1) n).1).rate)]]⟩]⟩) (by kernel_rfl) (by kernel_rfl) F10_call (take_fn b now n) (by kernel_rfl) (by kernel_rfl) ?_
    refine OW.last 6 [1, 2, 3, 4, 9, 14, 16] (x' := ⟨[(16, VI ((b.takeP now n).2)), (14, VI ((b.takeP ((b.readyP n).1) n).2)), (9, VI ((b.readyP n).1)), (4, .ref 0 4 0 0), (1, VI n), (2, VI more), (3, VI now)], [some ⟨4, [[VI b.level, VI b.now, VI b.burst, VI b.rate]]⟩, some ⟨4, [[VI (((b.takeP ((b.readyP n).1) n).1).level), VI (((b.takeP ((b.readyP n).1) n).1).now), VI (((b.takeP ((b.readyP n).1) n).1).burst), VI (((b.takeP ((b.readyP n).1) n).1).rate)]]⟩, some ⟨4, [[VI (((b.takeP now n).1).level), VI (((b.takeP now n).1).now), VI (((b.takeP now n).1).burst), VI (((b.takeP now n).1).rate)]]⟩]⟩) (by kernel_rfl) (by kernel_rfl) ?_
    refine EL.sreg ?_
    refine OW.run 2 (x' := ⟨[(58, VI more), (57, .agg [VI b.level, VI b.now, VI b.burst, VI b.rate]), (16, VI ((b.takeP now n).2)), (14, VI ((b.takeP ((b.readyP n).1) n).2)), (9, VI ((b.readyP n).1)), (4, .ref 0 4 0 0), (1, VI n), (2, VI more), (3, VI now)], [some ⟨4, [[VI b.level, VI b.now, VI b.burst, VI b.rate]]⟩, some ⟨4, [[VI (((b.takeP ((b.readyP n).1) n).1).level), VI (((b.takeP ((b.readyP n).1) n).1).now), VI (((b.takeP ((b.readyP n).1) n).1).burst), VI (((b.takeP ((b.readyP n).1) n).1).rate)]]⟩, some ⟨4, [[VI (((b.takeP now n).1).level), VI (((b.takeP now n).1).now), VI (((b.takeP now n).1).burst), VI (((b.takeP now n).1).rate)]]⟩]⟩) (by kernel_rfl) ?_
    refine OW.fn (ar := [.agg [VI b.level, VI b.now, VI b.burst, VI b.rate], VI more]) (x' := ⟨[(59, .tup [VI ((b.readyP more).1), VI ((b.readyP more).2)]), (58, VI more), (57, .agg [VI b.level, VI b.now, VI b.burst, VI b.rate]), (16, VI ((b.takeP now n).2)), (14, VI ((b.takeP ((b.readyP n).1) n).2)), (9, VI ((b.readyP n).1)), (4, .ref 0 4 0 0), (1, VI n), (2, VI more), (3, VI now)], [some ⟨4, [[VI b.level, VI b.now, VI b.burst, VI b.rate]]⟩, some ⟨4, [[VI (((b.takeP ((b.readyP n).1) n).1).level), VI (((b.takeP ((b.readyP n).1) n).1).now), VI (((b.takeP ((b.readyP n).1) n).1).burst), VI (((b.takeP ((b.readyP n).1) n).1).rate)]]⟩, some ⟨4, [[VI (((b.takeP now n).1).level), VI (((b.takeP now n).1).now), VI (((b.takeP now n).1).burst), VI (((b.takeP now n).1).rate)]]⟩]⟩) (by kernel_rfl) (by kernel_rfl) F11_call (ready_fn b more) (by kernel_rfl) (by kernel_rfl) ?_
    refine OW.last 5 [1, 2, 3, 9, 14, 16, 17, 18] (x' := ⟨[(18, VI ((b.readyP more).2)), (17, VI ((b.readyP more).1)), (16, VI ((b.takeP now n).2)), (14, VI ((b.takeP ((b.readyP n).1) n).2)), (9, VI ((b.readyP n).1)), (1, VI n), (2, VI more), (3, VI now)], [some ⟨4, [[VI b.level, VI b.now, VI b.burst, VI b.rate]]⟩, some ⟨4, [[VI (((b.takeP ((b.readyP n).1) n).1).level), VI (((b.takeP ((b.readyP n).1) n).1).now), VI (((b.takeP ((b.readyP n).1) n).1).burst), VI (((b.takeP ((b.readyP n).1) n).1).rate)]]⟩, some ⟨4, [[VI (((b.takeP now n).1).level), VI (((b.takeP now n).1).now), VI (((b.takeP now n).1).burst), VI (((b.takeP now n).1).rate)]]⟩]⟩) (by kernel_rfl) (by kernel_rfl) ?_
    refine EL.sreg ?_
    refine OW.run 3 (x' := ⟨[(64, .v (.bool (((b.takeP ((b.readyP n).1) n).2) == 0))), (63, .v (.bool (((b.takeP ((b.readyP n).1) n).2) == 0))), (62, VI ((b.takeP ((b.readyP n).1) n).2)), (18, VI ((b.readyP more).2)), (17, VI ((b.readyP more).1)), (16, VI ((b.takeP now n).2)), (14, VI ((b.takeP ((b.readyP n).1) n).2)), (9, VI ((b.readyP n).1)), (1, VI n), (2, VI more), (3, VI now)], [some ⟨4, [[VI b.level, VI b.now, VI b.burst, VI b.rate]]⟩, some ⟨4, [[VI (((b.takeP ((b.readyP n).1) n).1).level), VI (((b.takeP ((b.readyP n).1) n).1).now), VI (((b.takeP ((b.readyP n).1) n).1).burst), VI (((b.takeP ((b.readyP n).1) n).1).rate)]]⟩, some ⟨4, [[VI (((b.takeP now n).1).level), VI (((b.takeP now n).1).now), VI (((b.takeP now n).1).burst), VI (((b.takeP now n).1).rate)]]⟩]⟩) (by kernel_rfl) ?_
    rcases Bool.eq_false_or_eq_true ((((b.takeP ((b.readyP n).1) n).2) == 0)) with h3 | h3
    · rw [h3]
      have g3 : (((b.takeP ((b.readyP n).1) n).2) = 0) := by simpa using h3
      refine OW.run 4 (x' := ⟨[(68, .v (.bool (decide (now ≥ (b.readyP n).1)))), (67, .v (.bool (decide (now ≥ (b.readyP n).1)))), (66, VI ((b.readyP n).1)), (65, VI now), (64, .v (.bool true)), (63, .v (.bool true)), (62, VI ((b.takeP ((b.readyP n).1) n).2)), (18, VI ((b.readyP more).2)), (17, VI ((b.readyP more).1)), (16, VI ((b.takeP now n).2)), (14, VI ((b.takeP ((b.readyP n).1) n).2)), (9, VI ((b.readyP n).1)), (1, VI n), (2, VI more), (3, VI now)], [some ⟨4, [[VI b.level, VI b.now, VI b.burst, VI b.rate]]⟩, some ⟨4, [[VI (((b.takeP ((b.readyP n).1) n).1).level), VI (((b.takeP ((b.readyP n).1) n).1).now), VI (((b.takeP ((b.readyP n).1) n).1).burst), VI (((b.takeP ((b.readyP n).1) n).1).rate)]]⟩, some ⟨4, [[VI (((b.takeP now n).1).level), VI (((b.takeP now n).1).now), VI (((b.takeP now n).1).burst), VI (((b.takeP now n).1).rate)]]⟩]⟩) (by kernel_rfl) ?_
      rcases Bool.eq_false_or_eq_true (decide (now ≥ (b.readyP n).1)) with h4 | h4
      · rw [h4]
        have g4 : (now ≥ (b.readyP n).1) := of_decide_eq_true h4
        refine OW.run 8 (x' := ⟨[(76, .v (.bool (((b.readyP more).2) != 0))), (75, .v (.bool (((b.readyP more).2) != 0))), (74, VI ((b.readyP more).2)), (73, .v (.bool true)), (72, .v (.bool true)), (71, .v (.bool true)), (70, .v undef), (69, .v undef), (68, .v (.bool true)), (67, .v (.bool true)), (66, VI ((b.readyP n).1)), (65, VI now), (64, .v (.bool true)), (63, .v (.bool true)), (62, VI ((b.takeP ((b.readyP n).1) n).2)), (18, VI ((b.readyP more).2)), (17, VI ((b.readyP more).1)), (16, VI ((b.takeP now n).2)), (14, VI ((b.takeP ((b.readyP n).1) n).2)), (9, VI ((b.readyP n).1)), (1, VI n), (2, VI more), (3, VI now)], [some ⟨4, [[VI b.level, VI b.now, VI b.burst, VI b.rate]]⟩, some ⟨4, [[VI (((b.takeP ((b.readyP n).1) n).1).level), VI (((b.takeP ((b.readyP n).1) n).1).now), VI (((b.takeP ((b.readyP n).1) n).1).burst), VI (((b.takeP ((b.readyP n).1) n).1).rate)]]⟩, some ⟨4, [[VI (((b.takeP now n).1).level), VI (((b.takeP now n).1).now), VI (((b.takeP now n).1).burst), VI (((b.takeP now n).1).rate)]]⟩]⟩) (by kernel_rfl) ?_
        rcases Bool.eq_false_or_eq_true ((((b.readyP more).2) != 0)) with h5 | h5
        · rw [h5]
          have g5 : ¬ (((b.readyP more).2) = 0) := by simpa using h5
          refine OW.last 11 [8] (x' := ⟨[(8, .v (.bool true))], [some ⟨4, [[VI b.level, VI b.now, VI b.burst, VI b.rate]]⟩, some ⟨4, [[VI (((b.takeP ((b.readyP n).1) n).1).level), VI (((b.takeP ((b.readyP n).1) n).1).now), VI (((b.takeP ((b.readyP n).1) n).1).burst), VI (((b.takeP ((b.readyP n).1) n).1).rate)]]⟩, some ⟨4, [[VI (((b.takeP now n).1).level), VI (((b.takeP now n).1).now), VI (((b.takeP now n).1).burst), VI (((b.takeP now n).1).rate)]]⟩]⟩) (by kernel_rfl) (by kernel_rfl) ?_
          refine EL.ret ?_
          refine ⟨.inr rfl, .v (.bool true), by kernel_rfl, Ale.of_eq ?_⟩
          first | rfl | (exfalso; have hn := Bucket.ready_no (now := now) (n := n) (b := b) (by omega); omega) | (exfalso; have hn := Bucket.ready_yes (n := n) (b := b) (by omega); first | (have := hn.2.2.2 now (by omega); omega) | (have := Bucket.ready_more (n := n) (more := more) (b := b) (by omega) (by omega) (by omega); omega) | omega) | (have hn := Bucket.ready_no (now := now) (n := n) (b := b) (by omega); refine congrArg (fun b => AV.v (Value.bool b)) ?_; simp [hn, *]; done) | (have hn := Bucket.ready_yes (n := n) (b := b) (by omega); have := Bucket.ready_more (n := n) (more := more) (b := b) (by omega) (by omega) (by omega); refine congrArg (fun b => AV.v (Value.bool b)) ?_; simp; omega) | trace_state
        · rw [h5]
          have g5 : (((b.readyP more).2) = 0) := by simpa using h5
          refine OW.run 5 (x' := ⟨[(81, .v (.bool (decide (more < n)))), (80, .v (.bool (decide (more < n)))), (79, .v (.bool (decide (more < n)))), (78, VI n), (77, VI more), (76, .v (.bool false)), (75, .v (.bool false)), (74, VI ((b.readyP more).2)), (73, .v (.bool true)), (72, .v (.bool true)), (71, .v (.bool true)), (70, .v undef), (69, .v undef), (68, .v (.bool true)), (67, .v (.bool true)), (66, VI ((b.readyP n).1)), (65, VI now), (64, .v (.bool true)), (63, .v (.bool true)), (62, VI ((b.takeP ((b.readyP n).1) n).2)), (18, VI ((b.readyP more).2)), (17, VI ((b.readyP more).1)), (16, VI ((b.takeP now n).2)), (14, VI ((b.takeP ((b.readyP n).1) n).2)), (9, VI ((b.readyP n).1)), (1, VI n), (2, VI more), (3, VI now)], [some ⟨4, [[VI b.level, VI b.now, VI b.burst, VI b.rate]]⟩, some ⟨4, [[VI (((b.takeP ((b.readyP n).1) n).1).level), VI (((b.takeP ((b.readyP n).1) n).1).now), VI (((b.takeP ((b.readyP n).1) n).1).burst), VI (((b.takeP ((b.readyP n).1) n).1).rate)]]⟩, some ⟨4, [[VI (((b.takeP now n).1).level), VI (((b.takeP now n).1).now), VI (((b.takeP now n).1).burst), VI (((b.takeP now n).1).rate)]]⟩]⟩) (by kernel_rfl) ?_
          rcases Bool.eq_false_or_eq_true (decide (more < n)) with h6 | h6
          · rw [h6]
            have g6 : (more < n) := of_decide_eq_true h6
            refine OW.last 6 [8] (x' := ⟨[(8, .v (.bool true))], [some ⟨4, [[VI b.level, VI b.now, VI b.burst, VI b.rate]]⟩, some ⟨4, [[VI (((b.takeP ((b.readyP n).1) n).1).level), VI (((b.takeP ((b.readyP n).1) n).1).now), VI (((b.takeP ((b.readyP n).1) n).1).burst), VI (((b.takeP ((b.readyP n).1) n).1).rate)]]⟩, some ⟨4, [[VI (((b.takeP now n).1).level), VI (((b.takeP now n).1).now), VI (((b.takeP now n).1).burst), VI (((b.takeP now n).1).rate)]]⟩]⟩) (by kernel_rfl) (by kernel_rfl) ?_
            refine EL.ret ?_
            refine ⟨.inr rfl, .v (.bool true), by kernel_rfl, Ale.of_eq ?_⟩
            first | rfl | (exfalso; have hn := Bucket.ready_no (now := now) (n := n) (b := b) (by omega); omega) | (exfalso; have hn := Bucket.ready_yes (n := n) (b := b) (by omega); first | (have := hn.2.2.2 now (by omega); omega) | (have := Bucket.ready_more (n := n) (more := more) (b := b) (by omega) (by omega) (by omega); omega) | omega) | (have hn := Bucket.ready_no (now := now) (n := n) (b := b) (by omega); refine congrArg (fun b => AV.v (Value.bool b)) ?_; simp [hn, *]; done) | (have hn := Bucket.ready_yes (n := n) (b := b) (by omega); have := Bucket.ready_more (n := n) (more := more) (b := b) (by omega) (by omega) (by omega); refine congrArg (fun b => AV.v (Value.bool b)) ?_; simp; omega) | trace_state
          · rw [h6]
            have g6 : ¬ (more < n) := of_decide_eq_false h6
            refine OW.last 6 [8] (x' := ⟨[(8, .v (.bool (decide (((b.readyP more).1) ≥ (b.readyP n).1))))], [some ⟨4, [[VI b.level, VI b.now, VI b.burst, VI b.rate]]⟩, some ⟨4, [[VI (((b.takeP ((b.readyP n).1) n).1).level), VI (((b.takeP ((b.readyP n).1) n).1).now), VI (((b.takeP ((b.readyP n).1) n).1).burst), VI (((b.takeP ((b.readyP n).1) n).1).rate)]]⟩, some ⟨4, [[VI (((b.takeP now n).1).level), VI (((b.takeP now n).1).now), VI (((b.takeP now n).1).burst), VI (((b.takeP now n).1).rate)]]⟩]⟩) (by kernel_rfl) (by kernel_rfl) ?_
            refine EL.ret ?_
            refine ⟨.inr rfl, .v (.bool (decide (((b.readyP more).1) ≥ (b.readyP n).1))), by kernel_rfl, Ale.of_eq ?_⟩
            first | rfl | (exfalso; have hn := Bucket.ready_no (now := now) (n := n) (b := b) (by omega); omega) | (exfalso; have hn := Bucket.ready_yes (n := n) (b := b) (by omega); first | (have := hn.2.2.2 now (by omega); omega) | (have := Bucket.ready_more (n := n) (more := more) (b := b) (by omega) (by omega) (by omega); omega) | omega) | (have hn := Bucket.ready_no (now := now) (n := n) (b := b) (by omega); refine congrArg (fun b => AV.v (Value.bool b)) ?_; simp [hn, *]; done) | (have hn := Bucket.ready_yes (n := n) (b := b) (by omega); have := Bucket.ready_more (n := n) (more := more) (b := b) (by omega) (by omega) (by omega); refine congrArg (fun b => AV.v (Value.bool b)) ?_; simp; omega) | trace_state
      · rw [h4]
        have g4 : ¬ (now ≥ (b.readyP n).1) := of_decide_eq_false h4
        refine OW.run 5 (x' := ⟨[(73, .v (.bool (((b.takeP now n).2) != 0))), (72, .v (.bool (((b.takeP now n).2) != 0))), (71, .v (.bool (((b.takeP now n).2) != 0))), (70, .v (.bool (((b.takeP now n).2) != 0))), (69, VI ((b.takeP now n).2)), (68, .v (.bool false)), (67, .v (.bool false)), (66, VI ((b.readyP n).1)), (65, VI now), (64, .v (.bool true)), (63, .v (.bool true)), (62, VI ((b.takeP ((b.readyP n).1) n).2)), (18, VI ((b.readyP more).2)), (17, VI ((b.readyP more).1)), (16, VI ((b.takeP now n).2)), (14, VI ((b.takeP ((b.readyP n).1) n).2)), (9, VI ((b.readyP n).1)), (1, VI n), (2, VI more), (3, VI now)], [some ⟨4, [[VI b.level, VI b.now, VI b.burst, VI b.rate]]⟩, some ⟨4, [[VI (((b.takeP ((b.readyP n).1) n).1).level), VI (((b.takeP ((b.readyP n).1) n).1).now), VI (((b.takeP ((b.readyP n).1) n).1).burst), VI (((b.takeP ((b.readyP n).1) n).1).rate)]]⟩, some ⟨4, [[VI (((b.takeP now n).1).level), VI (((b.takeP now n).1).now), VI (((b.takeP now n).1).burst), VI (((b.takeP now n).1).rate)]]⟩]⟩) (by kernel_rfl) ?_
        rcases Bool.eq_false_or_eq_true ((((b.takeP now n).2) != 0)) with h7 | h7
        · rw [h7]
          have g7 : ¬ (((b.takeP now n).2) = 0) := by simpa using h7
          refine OW.run 3 (x' := ⟨[(76, .v (.bool (((b.readyP more).2) != 0))), (75, .v (.bool (((b.readyP more).2) != 0))), (74, VI ((b.readyP more).2)), (73, .v (.bool true)), (72, .v (.bool true)), (71, .v (.bool true)), (70, .v (.bool true)), (69, VI ((b.takeP now n).2)), (68, .v (.bool false)), (67, .v (.bool false)), (66, VI ((b.readyP n).1)), (65, VI now), (64, .v (.bool true)), (63, .v (.bool true)), (62, VI ((b.takeP ((b.readyP n).1) n).2)), (18, VI ((b.readyP more).2)), (17, VI ((b.readyP more).1)), (16, VI ((b.takeP now n).2)), (14, VI ((b.takeP ((b.readyP n).1) n).2)), (9, VI ((b.readyP n).1)), (1, VI n), (2, VI more), (3, VI now)], [some ⟨4, [[VI b.level, VI b.now, VI b.burst, VI b.rate]]⟩, some ⟨4, [[VI (((b.takeP ((b.readyP n).1) n).1).level), VI (((b.takeP ((b.readyP n).1) n).1).now), VI (((b.takeP ((b.readyP n).1) n).1).burst), VI (((b.takeP ((b.readyP n).1) n).1).rate)]]⟩, some ⟨4, [[VI (((b.takeP now n).1).level), VI (((b.takeP now n).1).now), VI (((b.takeP now n).1).burst), VI (((b.takeP now n).1).rate)]]⟩]⟩) (by kernel_rfl) ?_
          rcases Bool.eq_false_or_eq_true ((((b.readyP more).2) != 0)) with h8 | h8
          · rw [h8]
            have g8 : ¬ (((b.readyP more).2) = 0) := by simpa using h8
            refine OW.last 11 [8] (x' := ⟨[(8, .v (.bool true))], [some ⟨4, [[VI b.level, VI b.now, VI b.burst, VI b.rate]]⟩, some ⟨4, [[VI (((b.takeP ((b.readyP n).1) n).1).level), VI (((b.takeP ((b.readyP n).1) n).1).now), VI (((b.takeP ((b.readyP n).1) n).1).burst), VI (((b.takeP ((b.readyP n).1) n).1).rate)]]⟩, some ⟨4, [[VI (((b.takeP now n).1).level), VI (((b.takeP now n).1).now), VI (((b.takeP now n).1).burst), VI (((b.takeP now n).1).rate)]]⟩]⟩) (by kernel_rfl) (by kernel_rfl) ?_
            refine EL.ret ?_
            refine ⟨.inr rfl, .v (.bool true), by kernel_rfl, Ale.of_eq ?_⟩
            first | rfl | (exfalso; have hn := Bucket.ready_no (now := now) (n := n) (b := b) (by omega); omega) | (exfalso; have hn := Bucket.ready_yes (n := n) (b := b) (by omega); first | (have := hn.2.2.2 now (by omega); omega) | (have := Bucket.ready_more (n := n) (more := more) (b := b) (by omega) (by omega) (by omega); omega) | omega) | (have hn := Bucket.ready_no (now := now) (n := n) (b := b) (by omega); refine congrArg (fun b => AV.v (Value.bool b)) ?_; simp [hn, *]; done) | (have hn := Bucket.ready_yes (n := n) (b := b) (by omega); have := Bucket.ready_more (n := n) (more := more) (b := b) (by omega) (by omega) (by omega); refine congrArg (fun b => AV.v (Value.bool b)) ?_; simp; omega) | trace_state
          · rw [h8]
            have g8 : (((b.readyP more).2) = 0) := by simpa using h8
            refine OW.run 5 (x' := ⟨[(81, .v (.bool (decide (more < n)))), (80, .v (.bool (decide (more < n)))), (79, .v (.bool (decide (more < n)))), (78, VI n), (77, VI more), (76, .v (.bool false)), (75, .v (.bool false)), (74, VI ((b.readyP more).2)), (73, .v (.bool true)), (72, .v (.bool true)), (71, .v (.bool true)), (70, .v (.bool true)), (69, VI ((b.takeP now n).2)), (68, .v (.bool false)), (67, .v (.bool false)), (66, VI ((b.readyP n).1)), (65, VI now), (64, .v (.bool true)), (63, .v (.bool true)), (62, VI ((b.takeP ((b.readyP n).1) n).2)), (18, VI ((b.readyP more).2)), (17, VI ((b.readyP more).1)), (16, VI ((b.takeP now n).2)), (14, VI ((b.takeP ((b.readyP n).1) n).2)), (9, VI ((b.readyP n).1)), (1, VI n), (2, VI more), (3, VI now)], [some ⟨4, [[VI b.level, VI b.now, VI b.burst, VI b.rate]]⟩, some ⟨4, [[VI (((b.takeP ((b.readyP n).1) n).1).level), VI (((b.takeP ((b.readyP n).1) n).1).now), VI (((b.takeP ((b.readyP n).1) n).1).burst), VI (((b.takeP ((b.readyP n).1) n).1).rate)]]⟩, some ⟨4, [[VI (((b.takeP now n).1).level), VI (((b.takeP now n).1).now), VI (((b.takeP now n).1).burst), VI (((b.takeP now n).1).rate)]]⟩]⟩) (by kernel_rfl) ?_
            rcases Bool.eq_false_or_eq_true (decide (more < n)) with h9 | h9
            · rw [h9]
              have g9 : (more < n) := of_decide_eq_true h9
              refine OW.last 6 [8] (x' := ⟨[(8, .v (.bool true))], [some ⟨4, [[VI b.level, VI b.now, VI b.burst, VI b.rate]]⟩, some ⟨4, [[VI (((b.takeP ((b.readyP n).1) n).1).level), VI (((b.takeP ((b.readyP n).1) n).1).now), VI (((b.takeP ((b.readyP n).1) n).1).burst), VI (((b.takeP ((b.readyP n).1) n).1).rate)]]⟩, some ⟨4, [[VI (((b.takeP now n).1).level), VI (((b.takeP now n).1).now), VI (((b.takeP now n).1).burst), VI (((b.takeP now n).1).rate)]]⟩]⟩) (by kernel_rfl) (by kernel_rfl) ?_
              refine EL.ret ?_
              refine ⟨.inr rfl, .v (.bool true), by kernel_rfl, Ale.of_eq ?_⟩
              first | rfl | (exfalso; have hn := Bucket.ready_no (now := now) (n := n) (b := b) (by omega); omega) | (exfalso; have hn := Bucket.ready_yes (n := n) (b := b) (by omega); first | (have := hn.2.2.2 now (by omega); omega) | (have := Bucket.ready_more (n := n) (more := more) (b := b) (by omega) (by omega) (by omega); omega) | omega) | (have hn := Bucket.ready_no (now := now) (n := n) (b := b) (by omega); refine congrArg (fun b => AV.v (Value.bool b)) ?_; simp [hn, *]; done) | (have hn := Bucket.ready_yes (n := n) (b := b) (by omega); have := Bucket.ready_more (n := n) (more := more) (b := b) (by omega) (by omega) (by omega); refine congrArg (fun b => AV.v (Value.bool b)) ?_; simp; omega) | trace_state
            · rw [h9]
              have g9 : ¬ (more < n) := of_decide_eq_false h9
              refine OW.last 6 [8] (x' := ⟨[(8, .v (.bool (decide (((b.readyP more).1) ≥ (b.readyP n).1))))], [some ⟨4, [[VI b.level, VI b.now, VI b.burst, VI b.rate]]⟩, some ⟨4, [[VI (((b.takeP ((b.readyP n).1) n).1).level), VI (((b.takeP ((b.readyP n).1) n).1).now), VI (((b.takeP ((b.readyP n).1) n).1).burst), VI (((b.takeP ((b.readyP n).1) n).1).rate)]]⟩, some ⟨4, [[VI (((b.takeP now n).1).level), VI (((b.takeP now n).1).now), VI (((b.takeP now n).1).burst), VI (((b.takeP now n).1).rate)]]⟩]⟩) (by kernel_rfl) (by kernel_rfl) ?_
              refine EL.ret ?_
              refine ⟨.inr rfl, .v (.bool (decide (((b.readyP more).1) ≥ (b.readyP n).1))), by kernel_rfl, Ale.of_eq ?_⟩
              first | rfl | (exfalso; have hn := Bucket.ready_no (now := now) (n := n) (b := b) (by omega); omega) | (exfalso; have hn := Bucket.ready_yes (n := n) (b := b) (by omega); first | (have := hn.2.2.2 now (by omega); omega) | (have := Bucket.ready_more (n := n) (more := more) (b := b) (by omega) (by omega) (by omega); omega) | omega) | (have hn := Bucket.ready_no (now := now) (n := n) (b := b) (by omega); refine congrArg (fun b => AV.v (Value.bool b)) ?_; simp [hn, *]; done) | (have hn := Bucket.ready_yes (n := n) (b := b) (by omega); have := Bucket.ready_more (n := n) (more := more) (b := b) (by omega) (by omega) (by omega); refine congrArg (fun b => AV.v (Value.bool b)) ?_; simp; omega) | trace_state
        · rw [h7]
          have g7 : (((b.takeP now n).2) = 0) := by simpa using h7
          refine OW.last 14 [8] (x' := ⟨[(8, .v (.bool false))], [some ⟨4, [[VI b.level, VI b.now, VI b.burst, VI b.rate]]⟩, some ⟨4, [[VI (((b.takeP ((b.readyP n).1) n).1).level), VI (((b.takeP ((b.readyP n).1) n).1).now), VI (((b.takeP ((b.readyP n).1) n).1).burst), VI (((b.takeP ((b.readyP n).1) n).1).rate)]]⟩, some ⟨4, [[VI (((b.takeP now n).1).level), VI (((b.takeP now n).1).now), VI (((b.takeP now n).1).burst), VI (((b.takeP now n).1).rate)]]⟩]⟩) (by kernel_rfl) (by kernel_rfl) ?_
          refine EL.ret ?_
          refine ⟨.inr rfl, .v (.bool false), by kernel_rfl, Ale.of_eq ?_⟩
          first | rfl | (exfalso; have hn := Bucket.ready_no (now := now) (n := n) (b := b) (by omega); omega) | (exfalso; have hn := Bucket.ready_yes (n := n) (b := b) (by omega); first | (have := hn.2.2.2 now (by omega); omega) | (have := Bucket.ready_more (n := n) (more := more) (b := b) (by omega) (by omega) (by omega); omega) | omega) | (have hn := Bucket.ready_no (now := now) (n := n) (b := b) (by omega); refine congrArg (fun b => AV.v (Value.bool b)) ?_; simp [hn, *]; done) | (have hn := Bucket.ready_yes (n := n) (b := b) (by omega); have := Bucket.ready_more (n := n) (more := more) (b := b) (by omega) (by omega) (by omega); refine congrArg (fun b => AV.v (Value.bool b)) ?_; simp; omega) | trace_state
    · rw [h3]
      have g3 : ¬ (((b.takeP ((b.readyP n).1) n).2) = 0) := by simpa using h3
      refine OW.last 23 [8] (x' := ⟨[(8, .v (.bool false))], [some ⟨4, [[VI b.level, VI b.now, VI b.burst, VI b.rate]]⟩, some ⟨4, [[VI (((b.takeP ((b.readyP n).1) n).1).level), VI (((b.takeP ((b.readyP n).1) n).1).now), VI (((b.takeP ((b.readyP n).1) n).1).burst), VI (((b.takeP ((b.readyP n).1) n).1).rate)]]⟩, some ⟨4, [[VI (((b.takeP now n).1).level), VI (((b.takeP now n).1).now), VI (((b.takeP now n).1).burst), VI (((b.takeP now n).1).rate)]]⟩]⟩) (by kernel_rfl) (by kernel_rfl) ?_
      refine EL.ret ?_
      refine ⟨.inr rfl, .v (.bool false), by kernel_rfl, Ale.of_eq ?_⟩
      first | rfl | (exfalso; have hn := Bucket.ready_no (now := now) (n := n) (b := b) (by omega); omega) | (exfalso; have hn := Bucket.ready_yes (n := n) (b := b) (by omega); first | (have := hn.2.2.2 now (by omega); omega) | (have := Bucket.ready_more (n := n) (more := more) (b := b) (by omega) (by omega) (by omega); omega) | omega) | (have hn := Bucket.ready_no (now := now) (n := n) (b := b) (by omega); refine congrArg (fun b => AV.v (Value.bool b)) ?_; simp [hn, *]; done) | (have hn := Bucket.ready_yes (n := n) (b := b) (by omega); have := Bucket.ready_more (n := n) (more := more) (b := b) (by omega) (by omega) (by omega); refine congrArg (fun b => AV.v (Value.bool b)) ?_; simp; omega) | trace_state
theorem BucketReady_walk {w : World} (b : Bucket) (_okb : b.ok) (n : Int) (_wn : (Lit.int .i64 n).wf = true) (more : Int) (_wmore : (Lit.int .i64 more).wf = true) (now : Int) (_wnow : (Lit.int .i64 now).wf = true) : Calls Try.prog 7 #[b.v, I n, I more, I now] w fun e w' => e = .returned (.bool true) ∧ Below w.heap.size w w' := by
  exact fn_law (vs := [b.v, I n, I more, I now]) (bucketReady_fn b n more now ) (.cons ((R2.agg (.cons (.v rfl) (.cons (.v rfl) (.cons (.v rfl) (.cons (.v rfl) (.nil))))) : Rep _ b.v _)) (.cons (.v rfl) (.cons (.v rfl) (.cons (.v rfl) (.nil)))))
theorem BucketReady_own : ownKnob Try.prog.godebug = none := by kernel_rfl
theorem BucketReady_laidOut : laidOutB Try.prog = true := by kernel_rfl
set_option maxRecDepth 100000 in
set_option linter.unusedVariables false in
theorem BucketReady_lifted (os : Os) (started : os.Started) (H : Type) (enc : TypeId × Value → H) :
    ReturnsInHanded {} Try.checked os 7 .any (Rows.bucketReadySpec.pre6 enc Try.prog Try.f7 Rows.bucketReadyRow.domain false) (Rows.bucketReadySpec.post enc Try.prog Try.f7 false true false false) := by
  refine returnsInHanded_of_change (C := Try.checked) BucketReady_own started (by kernel_rfl) Try.func7
    (ChangeSpec.witness6 (enc := enc) (C := Try.checked) false ⟨#[], #[.agg #[.int .i64 0, .int .i64 0, .int .i64 0, .int .i64 0], .int .i64 0, .int .i64 0, .int .i64 0], []⟩ 8 (by kernel_rfl) (by kernel_rfl) (by kernel_rfl) (by kernel_rfl)) ?_
  intro W base args ds gs before hval0 hW hcnd _
  have hval : ∀ (j : Nat) t v, Try.f7.params[j]? = some t → args[j]? = some v → Value.okWide Try.prog W .any base t v := hval0
  have hW' := hW
  obtain ⟨p, q, hA0, hV, rfl, hfz, hnd⟩ := hW
  have hA : DataW.TrodAll enc Try.prog W 0 (fun _ => true) true Try.f7.params.toList args.toList ds p := hA0
  rw [Try.params7] at hA hval
  obtain ⟨v0, vs0, d0, ds0, p0, q0, hargs, rfl, rfl, h0, r0⟩ := trodAll_cons hA
  obtain ⟨v1, vs1, d1, ds1, p1, q1, rfl, rfl, rfl, h1, r1⟩ := trodAll_cons r0
  obtain ⟨v2, vs2, d2, ds2, p2, q2, rfl, rfl, rfl, h2, r2⟩ := trodAll_cons r1
  obtain ⟨v3, vs3, d3, ds3, p3, q3, rfl, rfl, rfl, h3, r3⟩ := trodAll_cons r2
  obtain ⟨rfl, rfl, rfl⟩ := trodAll_nil r3
  obtain rfl : args = #[v0, v1, v2, v3] := by cases args; simp_all
  obtain ⟨rfl, rfl⟩ := trodVars_none hV
  have k0 := h0
  have lt0 : ∀ x ∈ p0, x.block < W.heap.size := by obtain ⟨m, hm⟩ := k0; exact DataW.trod_lt m _ _ _ hm
  obtain ⟨x0, cs0, rfl, w0⟩ := open_agg opens_Bucket Try.underlying23 (hval 0 23 v0 rfl rfl) h0
  obtain ⟨rfl, ok0⟩ := Bucket.flat w0
  have k1 := h1
  have lt1 : ∀ x ∈ p1, x.block < W.heap.size := by obtain ⟨m, hm⟩ := k1; exact DataW.trod_lt m _ _ _ hm
  obtain ⟨a1, rfl, e1, e1', w1⟩ := open_int Try.underlying3 (hval 1 3 v1 rfl rfl) h1
  have k2 := h2
  have lt2 : ∀ x ∈ p2, x.block < W.heap.size := by obtain ⟨m, hm⟩ := k2; exact DataW.trod_lt m _ _ _ hm
  obtain ⟨a2, rfl, e2, e2', w2⟩ := open_int Try.underlying3 (hval 2 3 v2 rfl rfl) h2
  have k3 := h3
  have lt3 : ∀ x ∈ p3, x.block < W.heap.size := by obtain ⟨m, hm⟩ := k3; exact DataW.trod_lt m _ _ _ hm
  obtain ⟨a3, rfl, e3, e3', w3⟩ := open_int Try.underlying3 (hval 3 3 v3 rfl rfl) h3
  clear hA0 hval0
  refine (BucketReady_walk (w := W) x0 ok0 a1 w1 a2 w2 a3 w3).mono fun e W' ⟨he, bel⟩ => ?_
  subst he
  exact ⟨_, rfl, _, _, _, [], _, [], hW', trodAll_mk1 (shut_bool Try.underlying4 _), (trodAll_cons_mk (Below.trod BucketReady_laidOut (by kernel_rfl) (of_decide_eq_true (by kernel_rfl)) k0 bel lt0) (trodAll_cons_mk (Below.trod BucketReady_laidOut (by kernel_rfl) (of_decide_eq_true (by kernel_rfl)) k1 bel lt1) (trodAll_cons_mk (Below.trod BucketReady_laidOut (by kernel_rfl) (of_decide_eq_true (by kernel_rfl)) k2 bel lt2) (trodAll_cons_mk (Below.trod BucketReady_laidOut (by kernel_rfl) (of_decide_eq_true (by kernel_rfl)) k3 bel lt3) trodAll_mk0)))), rfl, bel.frame _, fun h => by cases h⟩
theorem BucketReady_closed : joinedFacts Try.prog 7 Try.f7 Rows.bucketReadySpec Rows.bucketReadyRow = true := by
  unfold joinedFacts
  repeat' (with_reducible refine and_tt ?_ ?_)
  all_goals as_aux_lemma => kernel_rfl
theorem BucketReady_over : Rows.bucketReadyRow.holds Try.pinned (OpenSpec.ofChange Rows.bucketReadySpec) :=
  OpenClaim.holds_of_wide 7 Try.f7 rfl rfl rfl rfl rfl rfl rfl ⟨rfl, rfl, rfl, rfl, rfl⟩ rfl rfl rfl rfl rfl (by as_aux_lemma => kernel_rfl) Try.func7 BucketReady_closed
    (of_decide_eq_true (by as_aux_lemma => kernel_rfl)) (by unfold Func.isWrapper; rw [if_neg (of_decide_eq_false (by as_aux_lemma => kernel_rfl))]; exact ⟨rfl, rfl⟩)
    (fun os started H enc _ => BucketReady_lifted os started H enc)
theorem BucketReady_holds : Rows.BucketReadySaid := BucketReady_over
end Go.Proofs.Ytdoaefekbbgcmaa
