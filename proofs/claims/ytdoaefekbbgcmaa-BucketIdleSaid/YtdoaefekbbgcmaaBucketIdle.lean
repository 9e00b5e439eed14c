/- An empty request does not affect later ones: the law BucketIdle returns true. No condition. -/
import Derived.Test.YtdoaefekbbgcmaaBucketA
import Derived.Test.YtdoaefekbbgcmaaBucketB
import Derived.Test.YtdoaefekbbgcmaaBucketN
import Derived.WalkKit
import Derived.Handy
import Derived.ProofKit
import Derived.OpenShut
import Derived.ShutString
import Derived.ChangeOld
import Derived.Below
import Derived.Lib.Hide
import Derived.WalkLawsBesides
import Derived.WalkSpells
import Derived.Deep.QuietTactic
import Derived.BigQuiet
import Derived.Outline
namespace Go.Proofs.Ytdoaefekbbgcmaa
set_option linter.unusedSimpArgs false
set_option linter.unusedVariables false
open Go.ChangeShapes Go.WideShapes Go.ChangeAt Go.RowKit
open Go.ChangeMaps (open_string shut_string)
set_option maxRecDepth 100000
theorem bucketIdle_fn (b : Bucket) (now : Int) (later : Int) (n : Int) : Fn Try.prog 6 [.agg [VI b.level, VI b.now, VI b.burst, VI b.rate], VI now, VI later, VI n] (.v (.bool true)) := by
  refine fn_walkW F6_ok (of_decide_eq_true (by kernel_rfl)) ?_
  refine EL.sreg ?_
  refine OW.last 2 [1, 2, 3, 4] (x' := ⟨[(4, .ref 0 4 0 0), (1, VI now), (2, VI later), (3, VI n)], [some ⟨4, [[VI b.level, VI b.now, VI b.burst, VI b.rate]]⟩]⟩) (by kernel_rfl) (by kernel_rfl) ?_
  refine EL.sreg ?_
  refine OW.run 2 (x' := ⟨[(17, VI now), (16, .agg [VI b.level, VI b.now, VI b.burst, VI b.rate]), (4, .ref 0 4 0 0), (1, VI now), (2, VI later), (3, VI n)], [some ⟨4, [[VI b.level, VI b.now, VI b.burst, VI b.rate]]⟩]⟩) (by kernel_rfl) ?_
  refine OW.fn (ar := [.agg [VI b.level, VI b.now, VI b.burst, VI b.rate], VI now, VI 0]) (x' := ⟨[(18, .tup [.agg [VI (((b.takeP now 0).1).level), VI (((b.takeP now 0).1).now), VI (((b.takeP now 0).1).burst), VI (((b.takeP now 0).1).rate)], VI ((b.takeP now 0).2)]), (17, VI now), (16, .agg [VI b.level, VI b.now, VI b.burst, VI b.rate]), (4, .ref 0 4 0 0), (1, VI now), (2, VI later), (3, VI n)], [some ⟨4, [[VI b.level, VI b.now, VI b.burst, VI b.rate]]⟩]⟩) (by kernel_rfl) (by kernel_rfl) F10_call (take_fn b now 0) (by kernel_rfl) (by kernel_rfl) ?_
  refine OW.last 6 [1, 2, 3, 4, 9, 10] (x' := ⟨[(10, VI ((b.takeP now 0).2)), (9, .ref 1 4 0 0), (4, .ref 0 4 0 0), (1, VI now), (2, VI later), (3, VI n)], [some ⟨4, [[VI b.level, VI b.now, VI b.burst, VI b.rate]]⟩, some ⟨4, [[VI (((b.takeP now 0).1).level), VI (((b.takeP now 0).1).now), VI (((b.takeP now 0).1).burst), VI (((b.takeP now 0).1).rate)]]⟩]⟩) (by kernel_rfl) (by kernel_rfl) ?_
  refine EL.sreg ?_
  refine OW.run 3 (x' := ⟨[(24, VI n), (23, VI later), (22, .agg [VI (((b.takeP now 0).1).level), VI (((b.takeP now 0).1).now), VI (((b.takeP now 0).1).burst), VI (((b.takeP now 0).1).rate)]), (10, VI ((b.takeP now 0).2)), (9, .ref 1 4 0 0), (4, .ref 0 4 0 0), (1, VI now), (2, VI later), (3, VI n)], [some ⟨4, [[VI b.level, VI b.now, VI b.burst, VI b.rate]]⟩, some ⟨4, [[VI (((b.takeP now 0).1).level), VI (((b.takeP now 0).1).now), VI (((b.takeP now 0).1).burst), VI (((b.takeP now 0).1).rate)]]⟩]⟩) (by kernel_rfl) ?_
  refine OW.fn (ar := [.agg [VI (((b.takeP now 0).1).level), VI (((b.takeP now 0).1).now), VI (((b.takeP now 0).1).burst), VI (((b.takeP now 0).1).rate)], VI later, VI n]) (x' := ⟨[(25, .tup [.agg [VI (((((b.takeP now 0).1).takeP later n).1).level), VI (((((b.takeP now 0).1).takeP later n).1).now), VI (((((b.takeP now 0).1).takeP later n).1).burst), VI (((((b.takeP now 0).1).takeP later n).1).rate)], VI ((((b.takeP now 0).1).takeP later n).2)]), (24, VI n), (23, VI later), (22, .agg [VI (((b.takeP now 0).1).level), VI (((b.takeP now 0).1).now), VI (((b.takeP now 0).1).burst), VI (((b.takeP now 0).1).rate)]), (10, VI ((b.takeP now 0).2)), (9, .ref 1 4 0 0), (4, .ref 0 4 0 0), (1, VI now), (2, VI later), (3, VI n)], [some ⟨4, [[VI b.level, VI b.now, VI b.burst, VI b.rate]]⟩, some ⟨4, [[VI (((b.takeP now 0).1).level), VI (((b.takeP now 0).1).now), VI (((b.takeP now 0).1).burst), VI (((b.takeP now 0).1).rate)]]⟩]⟩) (by kernel_rfl) (by kernel_rfl) F10_call (take_fn ((b.takeP now 0).1) later n) (by kernel_rfl) (by kernel_rfl) ?_
  refine OW.last 6 [1, 2, 3, 4, 10, 11, 12] (x' := ⟨[(12, VI ((((b.takeP now 0).1).takeP later n).2)), (11, .ref 2 4 0 0), (10, VI ((b.takeP now 0).2)), (4, .ref 0 4 0 0), (1, VI now), (2, VI later), (3, VI n)], [some ⟨4, [[VI b.level, VI b.now, VI b.burst, VI b.rate]]⟩, some ⟨4, [[VI (((b.takeP now 0).1).level), VI (((b.takeP now 0).1).now), VI (((b.takeP now 0).1).burst), VI (((b.takeP now 0).1).rate)]]⟩, some ⟨4, [[VI (((((b.takeP now 0).1).takeP later n).1).level), VI (((((b.takeP now 0).1).takeP later n).1).now), VI (((((b.takeP now 0).1).takeP later n).1).burst), VI (((((b.takeP now 0).1).takeP later n).1).rate)]]⟩]⟩) (by kernel_rfl) (by kernel_rfl) ?_
  refine EL.sreg ?_
  refine OW.run 3 (x' := ⟨[(31, VI n), (30, VI later), (29, .agg [VI b.level, VI b.now, VI b.burst, VI b.rate]), (12, VI ((((b.takeP now 0).1).takeP later n).2)), (11, .ref 2 4 0 0), (10, VI ((b.takeP now 0).2)), (4, .ref 0 4 0 0), (1, VI now), (2, VI later), (3, VI n)], [some ⟨4, [[VI b.level, VI b.now, VI b.burst, VI b.rate]]⟩, some ⟨4, [[VI (((b.takeP now 0).1).level), VI (((b.takeP now 0).1).now), VI (((b.takeP now 0).1).burst), VI (((b.takeP now 0).1).rate)]]⟩, some ⟨4, [[VI (((((b.takeP now 0).1).takeP later n).1).level), VI (((((b.takeP now 0).1).takeP later n).1).now), VI (((((b.takeP now 0).1).takeP later n).1).burst), VI (((((b.takeP now 0).1).takeP later n).1).rate)]]⟩]⟩) (by kernel_rfl) ?_
  refine OW.fn (ar := [.agg [VI b.level, VI b.now, VI b.burst, VI b.rate], VI later, VI n]) (x' := ⟨[(32, .tup [.agg [VI (((b.takeP later n).1).level), VI (((b.takeP later n).1).now), VI (((b.takeP later n).1).burst), VI (((b.takeP later n).1).rate)], VI ((b.takeP later n).2)]), (31, VI n), (30, VI later), (29, .agg [VI b.level, VI b.now, VI b.burst, VI b.rate]), (12, VI ((((b.takeP now 0).1).takeP later n).2)), (11, .ref 2 4 0 0), (10, VI ((b.takeP now 0).2)), (4, .ref 0 4 0 0), (1, VI now), (2, VI later), (3, VI n)], [some ⟨4, [[VI b.level, VI b.now, VI b.burst, VI b.rate]]⟩, some ⟨4, [[VI (((b.takeP now 0).1).level), VI (((b.takeP now 0).1).now), VI (((b.takeP now 0).1).burst), VI (((b.takeP now 0).1).rate)]]⟩, some ⟨4, [[VI (((((b.takeP now 0).1).takeP later n).1).level), VI (((((b.takeP now 0).1).takeP later n).1).now), VI (((((b.takeP now 0).1).takeP later n).1).burst), VI (((((b.takeP now 0).1).takeP later n).1).rate)]]⟩]⟩) (by kernel_rfl) (by kernel_rfl) F10_call (take_fn b later n) (by kernel_rfl) (by kernel_rfl) ?_
  refine OW.last 6 [1, 2, 10, 11, 12, 13, 14] (x' := ⟨[(14, VI ((b.takeP later n).2)), (13, .ref 3 4 0 0), (12, VI ((((b.takeP now 0).1).takeP later n).2)), (11, .ref 2 4 0 0), (10, VI ((b.takeP now 0).2)), (1, VI now), (2, VI later)], [some ⟨4, [[VI b.level, VI b.now, VI b.burst, VI b.rate]]⟩, some ⟨4, [[VI (((b.takeP now 0).1).level), VI (((b.takeP now 0).1).now), VI (((b.takeP now 0).1).burst), VI (((b.takeP now 0).1).rate)]]⟩, some ⟨4, [[VI (((((b.takeP now 0).1).takeP later n).1).level), VI (((((b.takeP now 0).1).takeP later n).1).now), VI (((((b.takeP now 0).1).takeP later n).1).burst), VI (((((b.takeP now 0).1).takeP later n).1).rate)]]⟩, some ⟨4, [[VI (((b.takeP later n).1).level), VI (((b.takeP later n).1).now), VI (((b.takeP later n).1).burst), VI (((b.takeP later n).1).rate)]]⟩]⟩) (by kernel_rfl) (by kernel_rfl) ?_
  refine EL.seq ?_
  refine EL.sreg ?_
  refine OW.fn (ar := []) (x' := ⟨[(35, .v (.bool true)), (14, VI ((b.takeP later n).2)), (13, .ref 3 4 0 0), (12, VI ((((b.takeP now 0).1).takeP later n).2)), (11, .ref 2 4 0 0), (10, VI ((b.takeP now 0).2)), (1, VI now), (2, VI later)], [some ⟨4, [[VI b.level, VI b.now, VI b.burst, VI b.rate]]⟩, some ⟨4, [[VI (((b.takeP now 0).1).level), VI (((b.takeP now 0).1).now), VI (((b.takeP now 0).1).burst), VI (((b.takeP now 0).1).rate)]]⟩, some ⟨4, [[VI (((((b.takeP now 0).1).takeP later n).1).level), VI (((((b.takeP now 0).1).takeP later n).1).now), VI (((((b.takeP now 0).1).takeP later n).1).burst), VI (((((b.takeP now 0).1).takeP later n).1).rate)]]⟩, some ⟨4, [[VI (((b.takeP later n).1).level), VI (((b.takeP later n).1).now), VI (((b.takeP later n).1).burst), VI (((b.takeP later n).1).rate)]]⟩]⟩) (by kernel_rfl) (by kernel_rfl) F15_call (begun_fn) (by kernel_rfl) (by kernel_rfl) ?_
  refine OW.last 1 [1, 2, 10, 11, 12, 13, 14, 36] (x' := ⟨[(36, .v (.bool false)), (14, VI ((b.takeP later n).2)), (13, .ref 3 4 0 0), (12, VI ((((b.takeP now 0).1).takeP later n).2)), (11, .ref 2 4 0 0), (10, VI ((b.takeP now 0).2)), (1, VI now), (2, VI later)], [some ⟨4, [[VI b.level, VI b.now, VI b.burst, VI b.rate]]⟩, some ⟨4, [[VI (((b.takeP now 0).1).level), VI (((b.takeP now 0).1).now), VI (((b.takeP now 0).1).burst), VI (((b.takeP now 0).1).rate)]]⟩, some ⟨4, [[VI (((((b.takeP now 0).1).takeP later n).1).level), VI (((((b.takeP now 0).1).takeP later n).1).now), VI (((((b.takeP now 0).1).takeP later n).1).burst), VI (((((b.takeP now 0).1).takeP later n).1).rate)]]⟩, some ⟨4, [[VI (((b.takeP later n).1).level), VI (((b.takeP later n).1).now), VI (((b.takeP later n).1).burst), VI (((b.takeP later n).1).rate)]]⟩]⟩) (by kernel_rfl) (by kernel_rfl) ?_
  refine EL.condF (by kernel_rfl) ?_
  refine EL.skip ?_
  refine thenL_norm ?_
  refine EL.seq ?_
  refine EL.sreg ?_
  refine OW.run 3 (x' := ⟨[(39, .v (.bool (((b.takeP now 0).2) != 0))), (38, .v (.bool (((b.takeP now 0).2) != 0))), (37, VI ((b.takeP now 0).2)), (36, .v (.bool false)), (14, VI ((b.takeP later n).2)), (13, .ref 3 4 0 0), (12, VI ((((b.takeP now 0).1).takeP later n).2)), (11, .ref 2 4 0 0), (10, VI ((b.takeP now 0).2)), (1, VI now), (2, VI later)], [some ⟨4, [[VI b.level, VI b.now, VI b.burst, VI b.rate]]⟩, some ⟨4, [[VI (((b.takeP now 0).1).level), VI (((b.takeP now 0).1).now), VI (((b.takeP now 0).1).burst), VI (((b.takeP now 0).1).rate)]]⟩, some ⟨4, [[VI (((((b.takeP now 0).1).takeP later n).1).level), VI (((((b.takeP now 0).1).takeP later n).1).now), VI (((((b.takeP now 0).1).takeP later n).1).burst), VI (((((b.takeP now 0).1).takeP later n).1).rate)]]⟩, some ⟨4, [[VI (((b.takeP later n).1).level), VI (((b.takeP later n).1).now), VI (((b.takeP later n).1).burst), VI (((b.takeP later n).1).rate)]]⟩]⟩) (by kernel_rfl) ?_
  rcases Bool.eq_false_or_eq_true ((((b.takeP now 0).2) != 0)) with h1 | h1
  · rw [h1]
    have g1 : ¬ (((b.takeP now 0).2) = 0) := by simpa using h1
    refine OW.last 4 [11, 12, 13, 14, 43] (x' := ⟨[(43, .v (.bool true)), (14, VI ((b.takeP later n).2)), (13, .ref 3 4 0 0), (12, VI ((((b.takeP now 0).1).takeP later n).2)), (11, .ref 2 4 0 0)], [some ⟨4, [[VI b.level, VI b.now, VI b.burst, VI b.rate]]⟩, some ⟨4, [[VI (((b.takeP now 0).1).level), VI (((b.takeP now 0).1).now), VI (((b.takeP now 0).1).burst), VI (((b.takeP now 0).1).rate)]]⟩, some ⟨4, [[VI (((((b.takeP now 0).1).takeP later n).1).level), VI (((((b.takeP now 0).1).takeP later n).1).now), VI (((((b.takeP now 0).1).takeP later n).1).burst), VI (((((b.takeP now 0).1).takeP later n).1).rate)]]⟩, some ⟨4, [[VI (((b.takeP later n).1).level), VI (((b.takeP later n).1).now), VI (((b.takeP later n).1).burst), VI (((b.takeP later n).1).rate)]]⟩]⟩) (by kernel_rfl) (by kernel_rfl) ?_
    refine EL.condT (by kernel_rfl) ?_
    refine EL.sreg ?_
    refine OW.last 1 [8] (x' := ⟨[(8, .v (.bool true))], [some ⟨4, [[VI b.level, VI b.now, VI b.burst, VI b.rate]]⟩, some ⟨4, [[VI (((b.takeP now 0).1).level), VI (((b.takeP now 0).1).now), VI (((b.takeP now 0).1).burst), VI (((b.takeP now 0).1).rate)]]⟩, some ⟨4, [[VI (((((b.takeP now 0).1).takeP later n).1).level), VI (((((b.takeP now 0).1).takeP later n).1).now), VI (((((b.takeP now 0).1).takeP later n).1).burst), VI (((((b.takeP now 0).1).takeP later n).1).rate)]]⟩, some ⟨4, [[VI (((b.takeP later n).1).level), VI (((b.takeP later n).1).now), VI (((b.takeP later n).1).burst), VI (((b.takeP later n).1).rate)]]⟩]⟩) (by kernel_rfl) (by kernel_rfl) ?_
    refine EL.ret ?_
    refine thenL_ret ?_
    refine ⟨.inr rfl, .v (.bool true), by kernel_rfl, Ale.of_eq ?_⟩
    first | rfl | (have hi := Bucket.idle (b := b) (now := now) (later := later) (n := n) (by omega) (by omega); simp_all; done) | (exfalso; simp_all; done) | trace_state
  · rw [h1]
    have g1 : (((b.takeP now 0).2) = 0) := by simpa using h1
    refine OW.last 4 [11, 12, 13, 14, 43] (x' := ⟨[(43, .v (.bool (decide (later < now)))), (14, VI ((b.takeP later n).2)), (13, .ref 3 4 0 0), (12, VI ((((b.takeP now 0).1).takeP later n).2)), (11, .ref 2 4 0 0)], [some ⟨4, [[VI b.level, VI b.now, VI b.burst, VI b.rate]]⟩, some ⟨4, [[VI (((b.takeP now 0).1).level), VI (((b.takeP now 0).1).now), VI (((b.takeP now 0).1).burst), VI (((b.takeP now 0).1).rate)]]⟩, some ⟨4, [[VI (((((b.takeP now 0).1).takeP later n).1).level), VI (((((b.takeP now 0).1).takeP later n).1).now), VI (((((b.takeP now 0).1).takeP later n).1).burst), VI (((((b.takeP now 0).1).takeP later n).1).rate)]]⟩, some ⟨4, [[VI (((b.takeP later n).1).level), VI (((b.takeP later n).1).now), VI (((b.takeP later n).1).burst), VI (((b.takeP later n).1).rate)]]⟩]⟩) (by kernel_rfl) (by kernel_rfl) ?_
    rcases Bool.eq_false_or_eq_true (decide (later < now)) with h2 | h2
    · rw [h2]
      have g2 : (later < now) := of_decide_eq_true h2
      refine EL.condT (by kernel_rfl) ?_
      refine EL.sreg ?_
      refine OW.last 1 [8] (x' := ⟨[(8, .v (.bool true))], [some ⟨4, [[VI b.level, VI b.now, VI b.burst, VI b.rate]]⟩, some ⟨4, [[VI (((b.takeP now 0).1).level), VI (((b.takeP now 0).1).now), VI (((b.takeP now 0).1).burst), VI (((b.takeP now 0).1).rate)]]⟩, some ⟨4, [[VI (((((b.takeP now 0).1).takeP later n).1).level), VI (((((b.takeP now 0).1).takeP later n).1).now), VI (((((b.takeP now 0).1).takeP later n).1).burst), VI (((((b.takeP now 0).1).takeP later n).1).rate)]]⟩, some ⟨4, [[VI (((b.takeP later n).1).level), VI (((b.takeP later n).1).now), VI (((b.takeP later n).1).burst), VI (((b.takeP later n).1).rate)]]⟩]⟩) (by kernel_rfl) (by kernel_rfl) ?_
      refine EL.ret ?_
      refine thenL_ret ?_
      refine ⟨.inr rfl, .v (.bool true), by kernel_rfl, Ale.of_eq ?_⟩
      first | rfl | (have hi := Bucket.idle (b := b) (now := now) (later := later) (n := n) (by omega) (by omega); simp_all; done) | (exfalso; simp_all; done) | trace_state
    · rw [h2]
      have g2 : ¬ (later < now) := of_decide_eq_false h2
      refine EL.condF (by kernel_rfl) ?_
      refine EL.skip ?_
      refine thenL_norm ?_
      refine EL.sreg ?_
      refine OW.run 4 (x' := ⟨[(47, .v (.bool (((((((b.takeP now 0).1).takeP later n).1).level) == ((b.takeP later n).1).level) && (((((((b.takeP now 0).1).takeP later n).1).now) == ((b.takeP later n).1).now) && (((((((b.takeP now 0).1).takeP later n).1).burst) == ((b.takeP later n).1).burst) && (((((((b.takeP now 0).1).takeP later n).1).rate) == ((b.takeP later n).1).rate) && true)))))), (46, .v (.bool (((((((b.takeP now 0).1).takeP later n).1).level) == ((b.takeP later n).1).level) && (((((((b.takeP now 0).1).takeP later n).1).now) == ((b.takeP later n).1).now) && (((((((b.takeP now 0).1).takeP later n).1).burst) == ((b.takeP later n).1).burst) && (((((((b.takeP now 0).1).takeP later n).1).rate) == ((b.takeP later n).1).rate) && true)))))), (45, .agg [VI (((b.takeP later n).1).level), VI (((b.takeP later n).1).now), VI (((b.takeP later n).1).burst), VI (((b.takeP later n).1).rate)]), (44, .agg [VI (((((b.takeP now 0).1).takeP later n).1).level), VI (((((b.takeP now 0).1).takeP later n).1).now), VI (((((b.takeP now 0).1).takeP later n).1).burst), VI (((((b.takeP now 0).1).takeP later n).1).rate)]), (43, .v (.bool false)), (14, VI ((b.takeP later n).2)), (13, .ref 3 4 0 0), (12, VI ((((b.takeP now 0).1).takeP later n).2)), (11, .ref 2 4 0 0)], [some ⟨4, [[VI b.level, VI b.now, VI b.burst, VI b.rate]]⟩, some ⟨4, [[VI (((b.takeP now 0).1).level), VI (((b.takeP now 0).1).now), VI (((b.takeP now 0).1).burst), VI (((b.takeP now 0).1).rate)]]⟩, some ⟨4, [[VI (((((b.takeP now 0).1).takeP later n).1).level), VI (((((b.takeP now 0).1).takeP later n).1).now), VI (((((b.takeP now 0).1).takeP later n).1).burst), VI (((((b.takeP now 0).1).takeP later n).1).rate)]]⟩, some ⟨4, [[VI (((b.takeP later n).1).level), VI (((b.takeP later n).1).now), VI (((b.takeP later n).1).burst), VI (((b.takeP later n).1).rate)]]⟩]⟩) (by kernel_rfl) ?_
      rcases Bool.eq_false_or_eq_true ((((((((b.takeP now 0).1).takeP later n).1).level) == ((b.takeP later n).1).level) && (((((((b.takeP now 0).1).takeP later n).1).now) == ((b.takeP later n).1).now) && (((((((b.takeP now 0).1).takeP later n).1).burst) == ((b.takeP later n).1).burst) && (((((((b.takeP now 0).1).takeP later n).1).rate) == ((b.takeP later n).1).rate) && true))))) with h3 | h3
      · rw [h3]
        have g3 : (((((b.takeP now 0).1).takeP later n).1).level) = ((b.takeP later n).1).level ∧ (((((b.takeP now 0).1).takeP later n).1).now) = ((b.takeP later n).1).now ∧ (((((b.takeP now 0).1).takeP later n).1).burst) = ((b.takeP later n).1).burst ∧ (((((b.takeP now 0).1).takeP later n).1).rate) = ((b.takeP later n).1).rate := by simpa [strEq_iff] using h3
        refine OW.last 5 [8] (x' := ⟨[(8, .v (.bool (((((b.takeP now 0).1).takeP later n).2) == (b.takeP later n).2)))], [some ⟨4, [[VI b.level, VI b.now, VI b.burst, VI b.rate]]⟩, some ⟨4, [[VI (((b.takeP now 0).1).level), VI (((b.takeP now 0).1).now), VI (((b.takeP now 0).1).burst), VI (((b.takeP now 0).1).rate)]]⟩, some ⟨4, [[VI (((((b.takeP now 0).1).takeP later n).1).level), VI (((((b.takeP now 0).1).takeP later n).1).now), VI (((((b.takeP now 0).1).takeP later n).1).burst), VI (((((b.takeP now 0).1).takeP later n).1).rate)]]⟩, some ⟨4, [[VI (((b.takeP later n).1).level), VI (((b.takeP later n).1).now), VI (((b.takeP later n).1).burst), VI (((b.takeP later n).1).rate)]]⟩]⟩) (by kernel_rfl) (by kernel_rfl) ?_
        refine EL.ret ?_
        refine ⟨.inr rfl, .v (.bool (((((b.takeP now 0).1).takeP later n).2) == (b.takeP later n).2)), by kernel_rfl, Ale.of_eq ?_⟩
        first | rfl | (have hi := Bucket.idle (b := b) (now := now) (later := later) (n := n) (by omega) (by omega); simp_all; done) | (exfalso; simp_all; done) | trace_state
      · rw [h3]
        have g3 : ¬ ((((((b.takeP now 0).1).takeP later n).1).level) = ((b.takeP later n).1).level ∧ (((((b.takeP now 0).1).takeP later n).1).now) = ((b.takeP later n).1).now ∧ (((((b.takeP now 0).1).takeP later n).1).burst) = ((b.takeP later n).1).burst ∧ (((((b.takeP now 0).1).takeP later n).1).rate) = ((b.takeP later n).1).rate) := fun ⟨q0, q1, q2, q3⟩ => Bool.noConfusion ((show ((((((((b.takeP now 0).1).takeP later n).1).level) == ((b.takeP later n).1).level) && (((((((b.takeP now 0).1).takeP later n).1).now) == ((b.takeP later n).1).now) && (((((((b.takeP now 0).1).takeP later n).1).burst) == ((b.takeP later n).1).burst) && (((((((b.takeP now 0).1).takeP later n).1).rate) == ((b.takeP later n).1).rate) && true))))) = true by first | (simp [q0, q1, q2, q3, strEq_iff]; done) | (simp only [q0, q1, q2, q3, beq_self_eq_true, Bool.and_self, Bool.and_true, Bool.true_and]; done)).symm.trans h3)
        refine OW.last 5 [8] (x' := ⟨[(8, .v (.bool false))], [some ⟨4, [[VI b.level, VI b.now, VI b.burst, VI b.rate]]⟩, some ⟨4, [[VI (((b.takeP now 0).1).level), VI (((b.takeP now 0).1).now), VI (((b.takeP now 0).1).burst), VI (((b.takeP now 0).1).rate)]]⟩, some ⟨4, [[VI (((((b.takeP now 0).1).takeP later n).1).level), VI (((((b.takeP now 0).1).takeP later n).1).now), VI (((((b.takeP now 0).1).takeP later n).1).burst), VI (((((b.takeP now 0).1).takeP later n).1).rate)]]⟩, some ⟨4, [[VI (((b.takeP later n).1).level), VI (((b.takeP later n).1).now), VI (((b.takeP later n).1).burst), VI (((b.takeP later n).1).rate)]]⟩]⟩) (by kernel_rfl) (by kernel_rfl) ?_
        refine EL.ret ?_
        refine ⟨.inr rfl, .v (.bool false), by kernel_rfl, Ale.of_eq ?_⟩
        first | rfl | (have hi := Bucket.idle (b := b) (now := now) (later := later) (n := n) (by omega) (by omega); simp_all; done) | (exfalso; simp_all; done) | trace_state
theorem BucketIdle_walk {w : World} (b : Bucket) (_okb : b.ok) (now : Int) (_wnow : (Lit.int .i64 now).wf = true) (later : Int) (_wlater : (Lit.int .i64 later).wf = true) (n : Int) (_wn : (Lit.int .i64 n).wf = true) : Calls Try.prog 6 #[b.v, I now, I later, I n] w fun e w' => e = .returned (.bool true) ∧ Below w.heap.size w w' := by
  exact fn_law (vs := [b.v, I now, I later, I n]) (bucketIdle_fn b now later n ) (.cons ((R2.agg (.cons (.v rfl) (.cons (.v rfl) (.cons (.v rfl) (.cons (.v rfl) (.nil))))) : Rep _ b.v _)) (.cons (.v rfl) (.cons (.v rfl) (.cons (.v rfl) (.nil)))))
theorem BucketIdle_own : ownKnob Try.prog.godebug = none := by kernel_rfl
theorem BucketIdle_laidOut : laidOutB Try.prog = true := by kernel_rfl
set_option maxRecDepth 100000 in
set_option linter.unusedVariables false in
theorem BucketIdle_lifted (os : Os) (started : os.Started) (H : Type) (enc : TypeId × Value → H) :
    ReturnsInHanded {} Try.checked os 6 .any (Rows.bucketIdleSpec.pre6 enc Try.prog Try.f6 Rows.bucketIdleRow.domain false) (Rows.bucketIdleSpec.post enc Try.prog Try.f6 false true false false) := by
  refine returnsInHanded_of_change (C := Try.checked) BucketIdle_own started (by kernel_rfl) Try.func6
    (ChangeSpec.witness6 (enc := enc) (C := Try.checked) false ⟨#[], #[.agg #[.int .i64 0, .int .i64 0, .int .i64 0, .int .i64 0], .int .i64 0, .int .i64 0, .int .i64 0], []⟩ 8 (by kernel_rfl) (by kernel_rfl) (by kernel_rfl) (by kernel_rfl)) ?_
  intro W base args ds gs before hval0 hW hcnd _
  have hval : ∀ (j : Nat) t v, Try.f6.params[j]? = some t → args[j]? = some v → Value.okWide Try.prog W .any base t v := hval0
  have hW' := hW
  obtain ⟨p, q, hA0, hV, rfl, hfz, hnd⟩ := hW
  have hA : DataW.TrodAll enc Try.prog W 0 (fun _ => true) true Try.f6.params.toList args.toList ds p := hA0
  rw [Try.params6] at hA hval
  obtain ⟨v0, vs0, d0, ds0, p0, q0, hargs, rfl, rfl, h0, r0⟩ := trodAll_cons hA
  obtain ⟨v1, vs1, d1, ds1, p1, q1, rfl, rfl, rfl, h1, r1⟩ := trodAll_cons r0
  obtain ⟨v2, vs2, d2, ds2, p2, q2, rfl, rfl, rfl, h2, r2⟩ := trodAll_cons r1
  obtain ⟨v3, vs3, d3, ds3, p3, q3, rfl, rfl, rfl, h3, r3⟩ := trodAll_cons r2
  obtain ⟨rfl, rfl, rfl⟩ := trodAll_nil r3
  obtain rfl : args = #[v0, v1, v2, v3] := by cases args; simp_all
  obtain ⟨rfl, rfl⟩ := trodVars_none hV
  have k0 := h0
  have lt0 : ∀ x ∈ p0, x.block < W.heap.size := by obtain ⟨m, hm⟩ := k0; exact DataW.trod_lt m _ _ _ hm
  obtain ⟨x0, cs0, rfl, w0⟩ := open_agg opens_Bucket Try.underlying23 (hval 0 23 v0 rfl rfl) h0
  obtain ⟨rfl, ok0⟩ := Bucket.flat w0
  have k1 := h1
  have lt1 : ∀ x ∈ p1, x.block < W.heap.size := by obtain ⟨m, hm⟩ := k1; exact DataW.trod_lt m _ _ _ hm
  obtain ⟨a1, rfl, e1, e1', w1⟩ := open_int Try.underlying3 (hval 1 3 v1 rfl rfl) h1
  have k2 := h2
  have lt2 : ∀ x ∈ p2, x.block < W.heap.size := by obtain ⟨m, hm⟩ := k2; exact DataW.trod_lt m _ _ _ hm
  obtain ⟨a2, rfl, e2, e2', w2⟩ := open_int Try.underlying3 (hval 2 3 v2 rfl rfl) h2
  have k3 := h3
  have lt3 : ∀ x ∈ p3, x.block < W.heap.size := by obtain ⟨m, hm⟩ := k3; exact DataW.trod_lt m _ _ _ hm
  obtain ⟨a3, rfl, e3, e3', w3⟩ := open_int Try.underlying3 (hval 3 3 v3 rfl rfl) h3
  clear hA0 hval0
  refine (BucketIdle_walk (w := W) x0 ok0 a1 w1 a2 w2 a3 w3).mono fun e W' ⟨he, bel⟩ => ?_
  subst he
  exact ⟨_, rfl, _, _, _, [], _, [], hW', trodAll_mk1 (shut_bool Try.underlying4 _), (trodAll_cons_mk (Below.trod BucketIdle_laidOut (by kernel_rfl) (of_decide_eq_true (by kernel_rfl)) k0 bel lt0) (trodAll_cons_mk (Below.trod BucketIdle_laidOut (by kernel_rfl) (of_decide_eq_true (by kernel_rfl)) k1 bel lt1) (trodAll_cons_mk (Below.trod BucketIdle_laidOut (by kernel_rfl) (of_decide_eq_true (by kernel_rfl)) k2 bel lt2) (trodAll_cons_mk (Below.trod BucketIdle_laidOut (by kernel_rfl) (of_decide_eq_true (by kernel_rfl)) k3 bel lt3) trodAll_mk0)))), rfl, bel.frame _, fun h => by cases h⟩
theorem BucketIdle_closed : joinedFacts Try.prog 6 Try.f6 Rows.bucketIdleSpec Rows.bucketIdleRow = true := by
  unfold joinedFacts
  repeat' (with_reducible refine and_tt ?_ ?_)
  all_goals as_aux_lemma => kernel_rfl
theorem BucketIdle_over : Rows.bucketIdleRow.holds Try.pinned (OpenSpec.ofChange Rows.bucketIdleSpec) :=
  OpenClaim.holds_of_wide 6 Try.f6 rfl rfl rfl rfl rfl rfl rfl ⟨rfl, rfl, rfl, rfl, rfl⟩ rfl rfl rfl rfl rfl (by as_aux_lemma => kernel_rfl) Try.func6 BucketIdle_closed
    (of_decide_eq_true (by as_aux_lemma => kernel_rfl)) (by unfold Func.isWrapper; rw [if_neg (of_decide_eq_false (by as_aux_lemma => kernel_rfl))]; exact ⟨rfl, rfl⟩)
    (fun os started H enc _ => BucketIdle_lifted os started H enc)
theorem BucketIdle_holds : Rows.BucketIdleSaid := BucketIdle_over
end Go.Proofs.Ytdoaefekbbgcmaa
