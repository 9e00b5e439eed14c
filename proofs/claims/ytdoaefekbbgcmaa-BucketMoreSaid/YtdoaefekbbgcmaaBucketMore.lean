/- More tokens or a greater rate yield at least as many tokens; taking less leaves more: the law BucketMore returns true. No condition. -/
import Derived.Test.YtdoaefekbbgcmaaBucketA
import Derived.Test.YtdoaefekbbgcmaaBucketB
import Derived.Test.YtdoaefekbbgcmaaBucketN
import Derived.WalkKit
import Derived.Handy
import Derived.ProofKit
import Derived.OpenShut
import Derived.ShutString
import Derived.ChangeOld
import Derived.Below
import Derived.Lib.Hide
import Derived.WalkLawsBesides
import Derived.WalkSpells
import Derived.Deep.QuietTactic
import Derived.BigQuiet
import Derived.Outline
namespace Go.Proofs.Ytdoaefekbbgcmaa
set_option linter.unusedSimpArgs false
set_option linter.unusedVariables false
open Go.ChangeShapes Go.WideShapes Go.ChangeAt Go.RowKit
open Go.ChangeMaps (open_string shut_string)
set_option maxRecDepth 100000
theorem bucketMore_fn (b : Bucket) (level : Int) (rate : Int) (now : Int) (n : Int) (m : Int) : Fn Try.prog 8 [.agg [VI b.level, VI b.now, VI b.burst, VI b.rate], VI level, VI rate, VI now, VI n, VI m] (.v (.bool true)) := by
  refine fn_walkW F8_ok (of_decide_eq_true (by kernel_rfl)) ?_
  refine EL.sreg ?_
  refine OW.last 2 [1, 2, 3, 4, 5, 6] (x' := ⟨[(6, .ref 0 4 0 0), (1, VI level), (2, VI rate), (3, VI now), (4, VI n), (5, VI m)], [some ⟨4, [[VI b.level, VI b.now, VI b.burst, VI b.rate]]⟩]⟩) (by kernel_rfl) (by kernel_rfl) ?_
  refine EL.sreg ?_
  refine OW.last 3 [1, 2, 3, 4, 5, 6, 13] (x' := ⟨[(13, .ref 1 4 0 0), (6, .ref 0 4 0 0), (1, VI level), (2, VI rate), (3, VI now), (4, VI n), (5, VI m)], [some ⟨4, [[VI b.level, VI b.now, VI b.burst, VI b.rate]]⟩, some ⟨4, [[VI b.level, VI b.now, VI b.burst, VI b.rate]]⟩]⟩) (by kernel_rfl) (by kernel_rfl) ?_
  refine EL.sreg ?_
  refine OW.last 6 [1, 2, 3, 4, 5, 6, 13] (x' := ⟨[(13, .ref 1 4 0 0), (6, .ref 0 4 0 0), (1, VI level), (2, VI rate), (3, VI now), (4, VI n), (5, VI m)], [some ⟨4, [[VI b.level, VI b.now, VI b.burst, VI b.rate]]⟩, some ⟨4, [[VI level, VI b.now, VI b.burst, VI rate]]⟩]⟩) (by kernel_rfl) (by kernel_rfl) ?_
  refine EL.sreg ?_
  refine OW.run 2 (x' := ⟨[(29, VI now), (28, .agg [VI b.level, VI b.now, VI b.burst, VI b.rate]), (13, .ref 1 4 0 0), (6, .ref 0 4 0 0), (1, VI level), (2, VI rate), (3, VI now), (4, VI n), (5, VI m)], [some ⟨4, [[VI b.level, VI b.now, VI b.burst, VI b.rate]]⟩, some ⟨4, [[VI level, VI b.now, VI b.burst, VI rate]]⟩]⟩) (by kernel_rfl) ?_
  refine OW.fn (ar := [.agg [VI b.level, VI b.now, VI b.burst, VI b.rate], VI now]) (x' := ⟨[(30, .tup [VI ((b.levelP now).1), VI ((b.levelP now).2)]), (29, VI now), (28, .agg [VI b.level, VI b.now, VI b.burst, VI b.rate]), (13, .ref 1 4 0 0), (6, .ref 0 4 0 0), (1, VI level), (2, VI rate), (3, VI now), (4, VI n), (5, VI m)], [some ⟨4, [[VI b.level, VI b.now, VI b.burst, VI b.rate]]⟩, some ⟨4, [[VI level, VI b.now, VI b.burst, VI rate]]⟩]⟩) (by kernel_rfl) (by kernel_rfl) F9_call (level_fn b now) (by kernel_rfl) (by kernel_rfl) ?_
  refine OW.last 5 [1, 2, 3, 4, 5, 6, 13, 14, 15] (x' := ⟨[(15, VI ((b.levelP now).2)), (14, VI ((b.levelP now).1)), (13, .ref 1 4 0 0), (6, .ref 0 4 0 0), (1, VI level), (2, VI rate), (3, VI now), (4, VI n), (5, VI m)], [some ⟨4, [[VI b.level, VI b.now, VI b.burst, VI b.rate]]⟩, some ⟨4, [[VI level, VI b.now, VI b.burst, VI rate]]⟩]⟩) (by kernel_rfl) (by kernel_rfl) ?_
  refine EL.sreg ?_
  refine OW.run 2 (x' := ⟨[(35, VI now), (34, .agg [VI level, VI b.now, VI b.burst, VI rate]), (15, VI ((b.levelP now).2)), (14, VI ((b.levelP now).1)), (13, .ref 1 4 0 0), (6, .ref 0 4 0 0), (1, VI level), (2, VI rate), (3, VI now), (4, VI n), (5, VI m)], [some ⟨4, [[VI b.level, VI b.now, VI b.burst, VI b.rate]]⟩, some ⟨4, [[VI level, VI b.now, VI b.burst, VI rate]]⟩]⟩) (by kernel_rfl) ?_
  refine OW.fn (ar := [.agg [VI level, VI b.now, VI b.burst, VI rate], VI now]) (x' := ⟨[(36, .tup [VI (((⟨level, b.now, b.burst, rate⟩ : Bucket).levelP now).1), VI (((⟨level, b.now, b.burst, rate⟩ : Bucket).levelP now).2)]), (35, VI now), (34, .agg [VI level, VI b.now, VI b.burst, VI rate]), (15, VI ((b.levelP now).2)), (14, VI ((b.levelP now).1)), (13, .ref 1 4 0 0), (6, .ref 0 4 0 0), (1, VI level), (2, VI rate), (3, VI now), (4, VI n), (5, VI m)], [some ⟨4, [[VI b.level, VI b.now, VI b.burst, VI b.rate]]⟩, some ⟨4, [[VI level, VI b.now, VI b.burst, VI rate]]⟩]⟩) (by kernel_rfl) (by kernel_rfl) F9_call (level_fn (⟨level, b.now, b.burst, rate⟩ : Bucket) now) (by kernel_rfl) (by kernel_rfl) ?_
  refine OW.last 5 [1, 2, 3, 4, 5, 6, 14, 15, 16, 17] (x' := ⟨[(17, VI (((⟨level, b.now, b.burst, rate⟩ : Bucket).levelP now).2)), (16, VI (((⟨level, b.now, b.burst, rate⟩ : Bucket).levelP now).1)), (15, VI ((b.levelP now).2)), (14, VI ((b.levelP now).1)), (6, .ref 0 4 0 0), (1, VI level), (2, VI rate), (3, VI now), (4, VI n), (5, VI m)], [some ⟨4, [[VI b.level, VI b.now, VI b.burst, VI b.rate]]⟩, some ⟨4, [[VI level, VI b.now, VI b.burst, VI rate]]⟩]⟩) (by kernel_rfl) (by kernel_rfl) ?_
  refine EL.seq ?_
  refine EL.sreg ?_
  refine OW.fn (ar := []) (x' := ⟨[(39, .v (.bool true)), (17, VI (((⟨level, b.now, b.burst, rate⟩ : Bucket).levelP now).2)), (16, VI (((⟨level, b.now, b.burst, rate⟩ : Bucket).levelP now).1)), (15, VI ((b.levelP now).2)), (14, VI ((b.levelP now).1)), (6, .ref 0 4 0 0), (1, VI level), (2, VI rate), (3, VI now), (4, VI n), (5, VI m)], [some ⟨4, [[VI b.level, VI b.now, VI b.burst, VI b.rate]]⟩, some ⟨4, [[VI level, VI b.now, VI b.burst, VI rate]]⟩]⟩) (by kernel_rfl) (by kernel_rfl) F15_call (begun_fn) (by kernel_rfl) (by kernel_rfl) ?_
  refine OW.last 1 [1, 2, 3, 4, 5, 6, 14, 15, 16, 17, 40] (x' := ⟨[(40, .v (.bool false)), (17, VI (((⟨level, b.now, b.burst, rate⟩ : Bucket).levelP now).2)), (16, VI (((⟨level, b.now, b.burst, rate⟩ : Bucket).levelP now).1)), (15, VI ((b.levelP now).2)), (14, VI ((b.levelP now).1)), (6, .ref 0 4 0 0), (1, VI level), (2, VI rate), (3, VI now), (4, VI n), (5, VI m)], [some ⟨4, [[VI b.level, VI b.now, VI b.burst, VI b.rate]]⟩, some ⟨4, [[VI level, VI b.now, VI b.burst, VI rate]]⟩]⟩) (by kernel_rfl) (by kernel_rfl) ?_
  refine EL.condF (by kernel_rfl) ?_
  refine EL.skip ?_
  refine thenL_norm ?_
  refine EL.seq ?_
  refine EL.sreg ?_
  refine OW.run 3 (x' := ⟨[(43, .v (.bool (((b.levelP now).2) == 0))), (42, .v (.bool (((b.levelP now).2) == 0))), (41, VI ((b.levelP now).2)), (40, .v (.bool false)), (17, VI (((⟨level, b.now, b.burst, rate⟩ : Bucket).levelP now).2)), (16, VI (((⟨level, b.now, b.burst, rate⟩ : Bucket).levelP now).1)), (15, VI ((b.levelP now).2)), (14, VI ((b.levelP now).1)), (6, .ref 0 4 0 0), (1, VI level), (2, VI rate), (3, VI now), (4, VI n), (5, VI m)], [some ⟨4, [[VI b.level, VI b.now, VI b.burst, VI b.rate]]⟩, some ⟨4, [[VI level, VI b.now, VI b.burst, VI rate]]⟩]⟩) (by kernel_rfl) ?_
  rcases Bool.eq_false_or_eq_true ((((b.levelP now).2) == 0)) with h1 | h1
  · rw [h1]
    have g1 : (((b.levelP now).2) = 0) := by simpa using h1
    refine OW.run 4 (x' := ⟨[(47, .v (.bool ((((⟨level, b.now, b.burst, rate⟩ : Bucket).levelP now).2) == 0))), (46, .v (.bool ((((⟨level, b.now, b.burst, rate⟩ : Bucket).levelP now).2) == 0))), (45, .v (.bool ((((⟨level, b.now, b.burst, rate⟩ : Bucket).levelP now).2) == 0))), (44, VI (((⟨level, b.now, b.burst, rate⟩ : Bucket).levelP now).2)), (43, .v (.bool true)), (42, .v (.bool true)), (41, VI ((b.levelP now).2)), (40, .v (.bool false)), (17, VI (((⟨level, b.now, b.burst, rate⟩ : Bucket).levelP now).2)), (16, VI (((⟨level, b.now, b.burst, rate⟩ : Bucket).levelP now).1)), (15, VI ((b.levelP now).2)), (14, VI ((b.levelP now).1)), (6, .ref 0 4 0 0), (1, VI level), (2, VI rate), (3, VI now), (4, VI n), (5, VI m)], [some ⟨4, [[VI b.level, VI b.now, VI b.burst, VI b.rate]]⟩, some ⟨4, [[VI level, VI b.now, VI b.burst, VI rate]]⟩]⟩) (by kernel_rfl) ?_
    rcases Bool.eq_false_or_eq_true (((((⟨level, b.now, b.burst, rate⟩ : Bucket).levelP now).2) == 0)) with h2 | h2
    · rw [h2]
      have g2 : ((((⟨level, b.now, b.burst, rate⟩ : Bucket).levelP now).2) = 0) := by simpa using h2
      refine OW.run 6 (x' := ⟨[(53, .v (.bool (decide (level ≥ b.level)))), (52, .v (.bool (decide (level ≥ b.level)))), (51, .v (.bool (decide (level ≥ b.level)))), (50, VI b.level), (49, .ref 0 4 0 0), (48, VI level), (47, .v (.bool true)), (46, .v (.bool true)), (45, .v (.bool true)), (44, VI (((⟨level, b.now, b.burst, rate⟩ : Bucket).levelP now).2)), (43, .v (.bool true)), (42, .v (.bool true)), (41, VI ((b.levelP now).2)), (40, .v (.bool false)), (17, VI (((⟨level, b.now, b.burst, rate⟩ : Bucket).levelP now).2)), (16, VI (((⟨level, b.now, b.burst, rate⟩ : Bucket).levelP now).1)), (15, VI ((b.levelP now).2)), (14, VI ((b.levelP now).1)), (6, .ref 0 4 0 0), (1, VI level), (2, VI rate), (3, VI now), (4, VI n), (5, VI m)], [some ⟨4, [[VI b.level, VI b.now, VI b.burst, VI b.rate]]⟩, some ⟨4, [[VI level, VI b.now, VI b.burst, VI rate]]⟩]⟩) (by kernel_rfl) ?_
      rcases Bool.eq_false_or_eq_true (decide (level ≥ b.level)) with h3 | h3
      · rw [h3]
        have g3 : (level ≥ b.level) := of_decide_eq_true h3
        refine OW.run 6 (x' := ⟨[(59, .v (.bool (decide (rate ≥ b.rate)))), (58, .v (.bool (decide (rate ≥ b.rate)))), (57, .v (.bool (decide (rate ≥ b.rate)))), (56, VI b.rate), (55, .ref 0 4 0 3), (54, VI rate), (53, .v (.bool true)), (52, .v (.bool true)), (51, .v (.bool true)), (50, VI b.level), (49, .ref 0 4 0 0), (48, VI level), (47, .v (.bool true)), (46, .v (.bool true)), (45, .v (.bool true)), (44, VI (((⟨level, b.now, b.burst, rate⟩ : Bucket).levelP now).2)), (43, .v (.bool true)), (42, .v (.bool true)), (41, VI ((b.levelP now).2)), (40, .v (.bool false)), (17, VI (((⟨level, b.now, b.burst, rate⟩ : Bucket).levelP now).2)), (16, VI (((⟨level, b.now, b.burst, rate⟩ : Bucket).levelP now).1)), (15, VI ((b.levelP now).2)), (14, VI ((b.levelP now).1)), (6, .ref 0 4 0 0), (1, VI level), (2, VI rate), (3, VI now), (4, VI n), (5, VI m)], [some ⟨4, [[VI b.level, VI b.now, VI b.burst, VI b.rate]]⟩, some ⟨4, [[VI level, VI b.now, VI b.burst, VI rate]]⟩]⟩) (by kernel_rfl) ?_
        rcases Bool.eq_false_or_eq_true (decide (rate ≥ b.rate)) with h4 | h4
        · rw [h4]
          have g4 : (rate ≥ b.rate) := of_decide_eq_true h4
          refine OW.last 4 [3, 4, 5, 6, 63] (x' := ⟨[(63, .v (.bool (decide ((((⟨level, b.now, b.burst, rate⟩ : Bucket).levelP now).1) < (b.levelP now).1)))), (6, .ref 0 4 0 0), (3, VI now), (4, VI n), (5, VI m)], [some ⟨4, [[VI b.level, VI b.now, VI b.burst, VI b.rate]]⟩, some ⟨4, [[VI level, VI b.now, VI b.burst, VI rate]]⟩]⟩) (by kernel_rfl) (by kernel_rfl) ?_
          rcases Bool.eq_false_or_eq_true (decide ((((⟨level, b.now, b.burst, rate⟩ : Bucket).levelP now).1) < (b.levelP now).1)) with h5 | h5
          · rw [h5]
            have g5 : ((((⟨level, b.now, b.burst, rate⟩ : Bucket).levelP now).1) < (b.levelP now).1) := of_decide_eq_true h5
            refine EL.condT (by kernel_rfl) ?_
            refine EL.sreg ?_
            refine OW.last 1 [12] (x' := ⟨[(12, .v (.bool false))], [some ⟨4, [[VI b.level, VI b.now, VI b.burst, VI b.rate]]⟩, some ⟨4, [[VI level, VI b.now, VI b.burst, VI rate]]⟩]⟩) (by kernel_rfl) (by kernel_rfl) ?_
            refine EL.ret ?_
            refine thenL_ret ?_
            refine ⟨.inr rfl, .v (.bool false), by kernel_rfl, Ale.of_eq ?_⟩
            first | rfl | (exfalso; have hm := Bucket.more (b := b) (c := ⟨level, b.now, b.burst, rate⟩) (now := now) ⟨rfl, rfl⟩ (by omega) (by omega) (by simp only; omega) (by simp only; omega); omega) | (have ht := Bucket.take_less (b := b) (t := now) (n := n) (m := m) (by omega) (by omega) (by omega); refine congrArg (fun b => AV.v (Value.bool b)) ?_; simp [ht]; done) | (exfalso; have ht := Bucket.take_less (b := b) (t := now) (n := n) (m := m) (by omega) (by omega) (by omega); omega) | trace_state
          · rw [h5]
            have g5 : ¬ ((((⟨level, b.now, b.burst, rate⟩ : Bucket).levelP now).1) < (b.levelP now).1) := of_decide_eq_false h5
            refine EL.condF (by kernel_rfl) ?_
            refine EL.skip ?_
            refine thenL_norm ?_
            refine EL.sreg ?_
            refine OW.run 3 (x' := ⟨[(67, VI n), (66, VI now), (65, .agg [VI b.level, VI b.now, VI b.burst, VI b.rate]), (63, .v (.bool false)), (6, .ref 0 4 0 0), (3, VI now), (4, VI n), (5, VI m)], [some ⟨4, [[VI b.level, VI b.now, VI b.burst, VI b.rate]]⟩, some ⟨4, [[VI level, VI b.now, VI b.burst, VI rate]]⟩]⟩) (by kernel_rfl) ?_
            refine OW.fn (ar := [.agg [VI b.level, VI b.now, VI b.burst, VI b.rate], VI now, VI n]) (x' := ⟨[(68, .tup [.agg [VI (((b.takeP now n).1).level), VI (((b.takeP now n).1).now), VI (((b.takeP now n).1).burst), VI (((b.takeP now n).1).rate)], VI ((b.takeP now n).2)]), (67, VI n), (66, VI now), (65, .agg [VI b.level, VI b.now, VI b.burst, VI b.rate]), (63, .v (.bool false)), (6, .ref 0 4 0 0), (3, VI now), (4, VI n), (5, VI m)], [some ⟨4, [[VI b.level, VI b.now, VI b.burst, VI b.rate]]⟩, some ⟨4, [[VI level, VI b.now, VI b.burst, VI rate]]⟩]⟩) (by kernel_rfl) (by kernel_rfl) F10_call (take_fn b now n) (by kernel_rfl) (by kernel_rfl) ?_
            refine OW.last 6 [3, 4, 5, 6, 18, 19] (x' := ⟨[(19, VI ((b.takeP now n).2)), (18, .ref 2 4 0 0), (6, .ref 0 4 0 0), (3, VI now), (4, VI n), (5, VI m)], [some ⟨4, [[VI b.level, VI b.now, VI b.burst, VI b.rate]]⟩, some ⟨4, [[VI level, VI b.now, VI b.burst, VI rate]]⟩, some ⟨4, [[VI (((b.takeP now n).1).level), VI (((b.takeP now n).1).now), VI (((b.takeP now n).1).burst), VI (((b.takeP now n).1).rate)]]⟩]⟩) (by kernel_rfl) (by kernel_rfl) ?_
            refine EL.sreg ?_
            refine OW.run 3 (x' := ⟨[(74, VI m), (73, VI now), (72, .agg [VI b.level, VI b.now, VI b.burst, VI b.rate]), (19, VI ((b.takeP now n).2)), (18, .ref 2 4 0 0), (6, .ref 0 4 0 0), (3, VI now), (4, VI n), (5, VI m)], [some ⟨4, [[VI b.level, VI b.now, VI b.burst, VI b.rate]]⟩, some ⟨4, [[VI level, VI b.now, VI b.burst, VI rate]]⟩, some ⟨4, [[VI (((b.takeP now n).1).level), VI (((b.takeP now n).1).now), VI (((b.takeP now n).1).burst), VI (((b.takeP now n).1).rate)]]⟩]⟩) (by kernel_rfl) ?_
            refine OW.fn (ar := [.agg [VI b.level, VI b.now, VI b.burst, VI b.rate], VI now, VI m]) (x' := ⟨[(75, .tup [.agg [VI (((b.takeP now m).1).level), VI (((b.takeP now m).1).now), VI (((b.takeP now m).1).burst), VI (((b.takeP now m).1).rate)], VI ((b.takeP now m).2)]), (74, VI m), (73, VI now), (72, .agg [VI b.level, VI b.now, VI b.burst, VI b.rate]), (19, VI ((b.takeP now n).2)), (18, .ref 2 4 0 0), (6, .ref 0 4 0 0), (3, VI now), (4, VI n), (5, VI m)], [some ⟨4, [[VI b.level, VI b.now, VI b.burst, VI b.rate]]⟩, some ⟨4, [[VI level, VI b.now, VI b.burst, VI rate]]⟩, some ⟨4, [[VI (((b.takeP now n).1).level), VI (((b.takeP now n).1).now), VI (((b.takeP now n).1).burst), VI (((b.takeP now n).1).rate)]]⟩]⟩) (by kernel_rfl) (by kernel_rfl) F10_call (take_fn b now m) (by kernel_rfl) (by kernel_rfl) ?_
            refine OW.last 6 [4, 5, 18, 19, 20, 21] (x' := ⟨[(21, VI ((b.takeP now m).2)), (20, .ref 3 4 0 0), (19, VI ((b.takeP now n).2)), (18, .ref 2 4 0 0), (4, VI n), (5, VI m)], [some ⟨4, [[VI b.level, VI b.now, VI b.burst, VI b.rate]]⟩, some ⟨4, [[VI level, VI b.now, VI b.burst, VI rate]]⟩, some ⟨4, [[VI (((b.takeP now n).1).level), VI (((b.takeP now n).1).now), VI (((b.takeP now n).1).burst), VI (((b.takeP now n).1).rate)]]⟩, some ⟨4, [[VI (((b.takeP now m).1).level), VI (((b.takeP now m).1).now), VI (((b.takeP now m).1).burst), VI (((b.takeP now m).1).rate)]]⟩]⟩) (by kernel_rfl) (by kernel_rfl) ?_
            refine EL.seq ?_
            refine EL.sreg ?_
            refine OW.run 3 (x' := ⟨[(80, .v (.bool (((b.takeP now n).2) != 0))), (79, .v (.bool (((b.takeP now n).2) != 0))), (78, VI ((b.takeP now n).2)), (21, VI ((b.takeP now m).2)), (20, .ref 3 4 0 0), (19, VI ((b.takeP now n).2)), (18, .ref 2 4 0 0), (4, VI n), (5, VI m)], [some ⟨4, [[VI b.level, VI b.now, VI b.burst, VI b.rate]]⟩, some ⟨4, [[VI level, VI b.now, VI b.burst, VI rate]]⟩, some ⟨4, [[VI (((b.takeP now n).1).level), VI (((b.takeP now n).1).now), VI (((b.takeP now n).1).burst), VI (((b.takeP now n).1).rate)]]⟩, some ⟨4, [[VI (((b.takeP now m).1).level), VI (((b.takeP now m).1).now), VI (((b.takeP now m).1).burst), VI (((b.takeP now m).1).rate)]]⟩]⟩) (by kernel_rfl) ?_
            rcases Bool.eq_false_or_eq_true ((((b.takeP now n).2) != 0)) with h6 | h6
            · rw [h6]
              have g6 : ¬ (((b.takeP now n).2) = 0) := by simpa using h6
              refine OW.last 8 [4, 5, 18, 20, 21, 88] (x' := ⟨[(88, .v (.bool true)), (21, VI ((b.takeP now m).2)), (20, .ref 3 4 0 0), (18, .ref 2 4 0 0), (4, VI n), (5, VI m)], [some ⟨4, [[VI b.level, VI b.now, VI b.burst, VI b.rate]]⟩, some ⟨4, [[VI level, VI b.now, VI b.burst, VI rate]]⟩, some ⟨4, [[VI (((b.takeP now n).1).level), VI (((b.takeP now n).1).now), VI (((b.takeP now n).1).burst), VI (((b.takeP now n).1).rate)]]⟩, some ⟨4, [[VI (((b.takeP now m).1).level), VI (((b.takeP now m).1).now), VI (((b.takeP now m).1).burst), VI (((b.takeP now m).1).rate)]]⟩]⟩) (by kernel_rfl) (by kernel_rfl) ?_
              refine EL.condT (by kernel_rfl) ?_
              refine EL.sreg ?_
              refine OW.last 1 [12] (x' := ⟨[(12, .v (.bool true))], [some ⟨4, [[VI b.level, VI b.now, VI b.burst, VI b.rate]]⟩, some ⟨4, [[VI level, VI b.now, VI b.burst, VI rate]]⟩, some ⟨4, [[VI (((b.takeP now n).1).level), VI (((b.takeP now n).1).now), VI (((b.takeP now n).1).burst), VI (((b.takeP now n).1).rate)]]⟩, some ⟨4, [[VI (((b.takeP now m).1).level), VI (((b.takeP now m).1).now), VI (((b.takeP now m).1).burst), VI (((b.takeP now m).1).rate)]]⟩]⟩) (by kernel_rfl) (by kernel_rfl) ?_
              refine EL.ret ?_
              refine thenL_ret ?_
              refine ⟨.inr rfl, .v (.bool true), by kernel_rfl, Ale.of_eq ?_⟩
              first | rfl | (exfalso; have hm := Bucket.more (b := b) (c := ⟨level, b.now, b.burst, rate⟩) (now := now) ⟨rfl, rfl⟩ (by omega) (by omega) (by simp only; omega) (by simp only; omega); omega) | (have ht := Bucket.take_less (b := b) (t := now) (n := n) (m := m) (by omega) (by omega) (by omega); refine congrArg (fun b => AV.v (Value.bool b)) ?_; simp [ht]; done) | (exfalso; have ht := Bucket.take_less (b := b) (t := now) (n := n) (m := m) (by omega) (by omega) (by omega); omega) | trace_state
            · rw [h6]
              have g6 : (((b.takeP now n).2) = 0) := by simpa using h6
              refine OW.run 4 (x' := ⟨[(84, .v (.bool (decide (m < 0)))), (83, .v (.bool (decide (m < 0)))), (82, .v (.bool (decide (m < 0)))), (81, VI m), (80, .v (.bool false)), (79, .v (.bool false)), (78, VI ((b.takeP now n).2)), (21, VI ((b.takeP now m).2)), (20, .ref 3 4 0 0), (19, VI ((b.takeP now n).2)), (18, .ref 2 4 0 0), (4, VI n), (5, VI m)], [some ⟨4, [[VI b.level, VI b.now, VI b.burst, VI b.rate]]⟩, some ⟨4, [[VI level, VI b.now, VI b.burst, VI rate]]⟩, some ⟨4, [[VI (((b.takeP now n).1).level), VI (((b.takeP now n).1).now), VI (((b.takeP now n).1).burst), VI (((b.takeP now n).1).rate)]]⟩, some ⟨4, [[VI (((b.takeP now m).1).level), VI (((b.takeP now m).1).now), VI (((b.takeP now m).1).burst), VI (((b.takeP now m).1).rate)]]⟩]⟩) (by kernel_rfl) ?_
              rcases Bool.eq_false_or_eq_true (decide (m < 0)) with h7 | h7
              · rw [h7]
                have g7 : (m < 0) := of_decide_eq_true h7
                refine OW.last 4 [4, 5, 18, 20, 21, 88] (x' := ⟨[(88, .v (.bool true)), (21, VI ((b.takeP now m).2)), (20, .ref 3 4 0 0), (18, .ref 2 4 0 0), (4, VI n), (5, VI m)], [some ⟨4, [[VI b.level, VI b.now, VI b.burst, VI b.rate]]⟩, some ⟨4, [[VI level, VI b.now, VI b.burst, VI rate]]⟩, some ⟨4, [[VI (((b.takeP now n).1).level), VI (((b.takeP now n).1).now), VI (((b.takeP now n).1).burst), VI (((b.takeP now n).1).rate)]]⟩, some ⟨4, [[VI (((b.takeP now m).1).level), VI (((b.takeP now m).1).now), VI (((b.takeP now m).1).burst), VI (((b.takeP now m).1).rate)]]⟩]⟩) (by kernel_rfl) (by kernel_rfl) ?_
                refine EL.condT (by kernel_rfl) ?_
                refine EL.sreg ?_
                refine OW.last 1 [12] (x' := ⟨[(12, .v (.bool true))], [some ⟨4, [[VI b.level, VI b.now, VI b.burst, VI b.rate]]⟩, some ⟨4, [[VI level, VI b.now, VI b.burst, VI rate]]⟩, some ⟨4, [[VI (((b.takeP now n).1).level), VI (((b.takeP now n).1).now), VI (((b.takeP now n).1).burst), VI (((b.takeP now n).1).rate)]]⟩, some ⟨4, [[VI (((b.takeP now m).1).level), VI (((b.takeP now m).1).now), VI (((b.takeP now m).1).burst), VI (((b.takeP now m).1).rate)]]⟩]⟩) (by kernel_rfl) (by kernel_rfl) ?_
                refine EL.ret ?_
                refine thenL_ret ?_
                refine ⟨.inr rfl, .v (.bool true), by kernel_rfl, Ale.of_eq ?_⟩
                first | rfl | (exfalso; have hm := Bucket.more (b := b) (c := ⟨level, b.now, b.burst, rate⟩) (now := now) ⟨rfl, rfl⟩ (by omega) (by omega) (by simp only; omega) (by simp only; omega); omega) | (have ht := Bucket.take_less (b := b) (t := now) (n := n) (m := m) (by omega) (by omega) (by omega); refine congrArg (fun b => AV.v (Value.bool b)) ?_; simp [ht]; done) | (exfalso; have ht := Bucket.take_less (b := b) (t := now) (n := n) (m := m) (by omega) (by omega) (by omega); omega) | trace_state
              · rw [h7]
                have g7 : ¬ (m < 0) := of_decide_eq_false h7
                refine OW.last 4 [4, 5, 18, 20, 21, 88] (x' := ⟨[(88, .v (.bool (decide (m > n)))), (21, VI ((b.takeP now m).2)), (20, .ref 3 4 0 0), (18, .ref 2 4 0 0), (4, VI n), (5, VI m)], [some ⟨4, [[VI b.level, VI b.now, VI b.burst, VI b.rate]]⟩, some ⟨4, [[VI level, VI b.now, VI b.burst, VI rate]]⟩, some ⟨4, [[VI (((b.takeP now n).1).level), VI (((b.takeP now n).1).now), VI (((b.takeP now n).1).burst), VI (((b.takeP now n).1).rate)]]⟩, some ⟨4, [[VI (((b.takeP now m).1).level), VI (((b.takeP now m).1).now), VI (((b.takeP now m).1).burst), VI (((b.takeP now m).1).rate)]]⟩]⟩) (by kernel_rfl) (by kernel_rfl) ?_
                rcases Bool.eq_false_or_eq_true (decide (m > n)) with h8 | h8
                · rw [h8]
                  have g8 : (m > n) := of_decide_eq_true h8
                  refine EL.condT (by kernel_rfl) ?_
                  refine EL.sreg ?_
                  refine OW.last 1 [12] (x' := ⟨[(12, .v (.bool true))], [some ⟨4, [[VI b.level, VI b.now, VI b.burst, VI b.rate]]⟩, some ⟨4, [[VI level, VI b.now, VI b.burst, VI rate]]⟩, some ⟨4, [[VI (((b.takeP now n).1).level), VI (((b.takeP now n).1).now), VI (((b.takeP now n).1).burst), VI (((b.takeP now n).1).rate)]]⟩, some ⟨4, [[VI (((b.takeP now m).1).level), VI (((b.takeP now m).1).now), VI (((b.takeP now m).1).burst), VI (((b.takeP now m).1).rate)]]⟩]⟩) (by kernel_rfl) (by kernel_rfl) ?_
                  refine EL.ret ?_
                  refine thenL_ret ?_
                  refine ⟨.inr rfl, .v (.bool true), by kernel_rfl, Ale.of_eq ?_⟩
                  first | rfl | (exfalso; have hm := Bucket.more (b := b) (c := ⟨level, b.now, b.burst, rate⟩) (now := now) ⟨rfl, rfl⟩ (by omega) (by omega) (by simp only; omega) (by simp only; omega); omega) | (have ht := Bucket.take_less (b := b) (t := now) (n := n) (m := m) (by omega) (by omega) (by omega); refine congrArg (fun b => AV.v (Value.bool b)) ?_; simp [ht]; done) | (exfalso; have ht := Bucket.take_less (b := b) (t := now) (n := n) (m := m) (by omega) (by omega) (by omega); omega) | trace_state
                · rw [h8]
                  have g8 : ¬ (m > n) := of_decide_eq_false h8
                  refine EL.condF (by kernel_rfl) ?_
                  refine EL.skip ?_
                  refine thenL_norm ?_
                  refine EL.sreg ?_
                  refine OW.run 3 (x' := ⟨[(91, .v (.bool (((b.takeP now m).2) == 0))), (90, .v (.bool (((b.takeP now m).2) == 0))), (89, VI ((b.takeP now m).2)), (88, .v (.bool false)), (21, VI ((b.takeP now m).2)), (20, .ref 3 4 0 0), (18, .ref 2 4 0 0), (4, VI n), (5, VI m)], [some ⟨4, [[VI b.level, VI b.now, VI b.burst, VI b.rate]]⟩, some ⟨4, [[VI level, VI b.now, VI b.burst, VI rate]]⟩, some ⟨4, [[VI (((b.takeP now n).1).level), VI (((b.takeP now n).1).now), VI (((b.takeP now n).1).burst), VI (((b.takeP now n).1).rate)]]⟩, some ⟨4, [[VI (((b.takeP now m).1).level), VI (((b.takeP now m).1).now), VI (((b.takeP now m).1).burst), VI (((b.takeP now m).1).rate)]]⟩]⟩) (by kernel_rfl) ?_
                  rcases Bool.eq_false_or_eq_true ((((b.takeP now m).2) == 0)) with h9 | h9
                  · rw [h9]
                    have g9 : (((b.takeP now m).2) = 0) := by simpa using h9
                    refine OW.run 11 (x' := ⟨[(12, .v (.bool ((((b.takeP now m).1).level) == IntKind.i64.wrap ((IntKind.i64.wrap ((((b.takeP now n).1).level) + n)) - m)))), (101, .v (.bool ((((b.takeP now m).1).level) == IntKind.i64.wrap ((IntKind.i64.wrap ((((b.takeP now n).1).level) + n)) - m)))), (100, .v (.bool ((((b.takeP now m).1).level) == IntKind.i64.wrap ((IntKind.i64.wrap ((((b.takeP now n).1).level) + n)) - m)))), (99, VI (IntKind.i64.wrap ((IntKind.i64.wrap ((((b.takeP now n).1).level) + n)) - m))), (98, VI m), (97, VI (IntKind.i64.wrap ((((b.takeP now n).1).level) + n))), (96, VI n), (95, VI (((b.takeP now n).1).level)), (94, .ref 2 4 0 0), (93, VI (((b.takeP now m).1).level)), (92, .ref 3 4 0 0), (91, .v (.bool true)), (90, .v (.bool true)), (89, VI ((b.takeP now m).2)), (88, .v (.bool false)), (21, VI ((b.takeP now m).2)), (20, .ref 3 4 0 0), (18, .ref 2 4 0 0), (4, VI n), (5, VI m)], [some ⟨4, [[VI b.level, VI b.now, VI b.burst, VI b.rate]]⟩, some ⟨4, [[VI level, VI b.now, VI b.burst, VI rate]]⟩, some ⟨4, [[VI (((b.takeP now n).1).level), VI (((b.takeP now n).1).now), VI (((b.takeP now n).1).burst), VI (((b.takeP now n).1).rate)]]⟩, some ⟨4, [[VI (((b.takeP now m).1).level), VI (((b.takeP now m).1).now), VI (((b.takeP now m).1).burst), VI (((b.takeP now m).1).rate)]]⟩]⟩) (by kernel_rfl) ?_
                    have e10 : IntKind.i64.wrap ((((b.takeP now n).1).level) + n) = (((b.takeP now n).1).level) + n := wr64 (by have ht := Bucket.take_bd (b := b) (now := now) (n := n) (by omega); omega)
                    rw [e10]
                    have e11 : IntKind.i64.wrap (((((b.takeP now n).1).level) + n) - m) = ((((b.takeP now n).1).level) + n) - m := wr64 (by have ht := Bucket.take_bd (b := b) (now := now) (n := n) (by omega); omega)
                    rw [e11]
                    refine OW.last 0 [12] (x' := ⟨[(12, .v (.bool ((((b.takeP now m).1).level) == (((((b.takeP now n).1).level) + n) - m))))], [some ⟨4, [[VI b.level, VI b.now, VI b.burst, VI b.rate]]⟩, some ⟨4, [[VI level, VI b.now, VI b.burst, VI rate]]⟩, some ⟨4, [[VI (((b.takeP now n).1).level), VI (((b.takeP now n).1).now), VI (((b.takeP now n).1).burst), VI (((b.takeP now n).1).rate)]]⟩, some ⟨4, [[VI (((b.takeP now m).1).level), VI (((b.takeP now m).1).now), VI (((b.takeP now m).1).burst), VI (((b.takeP now m).1).rate)]]⟩]⟩) (by kernel_rfl) (by kernel_rfl) ?_
                    refine EL.ret ?_
                    refine ⟨.inr rfl, .v (.bool ((((b.takeP now m).1).level) == (((((b.takeP now n).1).level) + n) - m))), by kernel_rfl, Ale.of_eq ?_⟩
                    first | rfl | (exfalso; have hm := Bucket.more (b := b) (c := ⟨level, b.now, b.burst, rate⟩) (now := now) ⟨rfl, rfl⟩ (by omega) (by omega) (by simp only; omega) (by simp only; omega); omega) | (have ht := Bucket.take_less (b := b) (t := now) (n := n) (m := m) (by omega) (by omega) (by omega); refine congrArg (fun b => AV.v (Value.bool b)) ?_; simp [ht]; done) | (exfalso; have ht := Bucket.take_less (b := b) (t := now) (n := n) (m := m) (by omega) (by omega) (by omega); omega) | trace_state
                  · rw [h9]
                    have g9 : ¬ (((b.takeP now m).2) = 0) := by simpa using h9
                    refine OW.last 11 [12] (x' := ⟨[(12, .v (.bool false))], [some ⟨4, [[VI b.level, VI b.now, VI b.burst, VI b.rate]]⟩, some ⟨4, [[VI level, VI b.now, VI b.burst, VI rate]]⟩, some ⟨4, [[VI (((b.takeP now n).1).level), VI (((b.takeP now n).1).now), VI (((b.takeP now n).1).burst), VI (((b.takeP now n).1).rate)]]⟩, some ⟨4, [[VI (((b.takeP now m).1).level), VI (((b.takeP now m).1).now), VI (((b.takeP now m).1).burst), VI (((b.takeP now m).1).rate)]]⟩]⟩) (by kernel_rfl) (by kernel_rfl) ?_
                    refine EL.ret ?_
                    refine ⟨.inr rfl, .v (.bool false), by kernel_rfl, Ale.of_eq ?_⟩
                    first | rfl | (exfalso; have hm := Bucket.more (b := b) (c := ⟨level, b.now, b.burst, rate⟩) (now := now) ⟨rfl, rfl⟩ (by omega) (by omega) (by simp only; omega) (by simp only; omega); omega) | (have ht := Bucket.take_less (b := b) (t := now) (n := n) (m := m) (by omega) (by omega) (by omega); refine congrArg (fun b => AV.v (Value.bool b)) ?_; simp [ht]; done) | (exfalso; have ht := Bucket.take_less (b := b) (t := now) (n := n) (m := m) (by omega) (by omega) (by omega); omega) | trace_state
        · rw [h4]
          have g4 : ¬ (rate ≥ b.rate) := of_decide_eq_false h4
          refine OW.last 4 [3, 4, 5, 6, 63] (x' := ⟨[(63, .v (.bool false)), (6, .ref 0 4 0 0), (3, VI now), (4, VI n), (5, VI m)], [some ⟨4, [[VI b.level, VI b.now, VI b.burst, VI b.rate]]⟩, some ⟨4, [[VI level, VI b.now, VI b.burst, VI rate]]⟩]⟩) (by kernel_rfl) (by kernel_rfl) ?_
          refine EL.condF (by kernel_rfl) ?_
          refine EL.skip ?_
          refine thenL_norm ?_
          refine EL.sreg ?_
          refine OW.run 3 (x' := ⟨[(67, VI n), (66, VI now), (65, .agg [VI b.level, VI b.now, VI b.burst, VI b.rate]), (63, .v (.bool false)), (6, .ref 0 4 0 0), (3, VI now), (4, VI n), (5, VI m)], [some ⟨4, [[VI b.level, VI b.now, VI b.burst, VI b.rate]]⟩, some ⟨4, [[VI level, VI b.now, VI b.burst, VI rate]]⟩]⟩) (by kernel_rfl) ?_
          refine OW.fn (ar := [.agg [VI b.level, VI b.now, VI b.burst, VI b.rate], VI now, VI n]) (x' := ⟨[(68, .tup [.agg [VI (((b.takeP now n).1).level), VI (((b.takeP now n).1).now), VI (((b.takeP now n).1).burst), VI (((b.takeP now n).1).rate)], VI ((b.takeP now n).2)]), (67, VI n), (66, VI now), (65, .agg [VI b.level, VI b.now, VI b.burst, VI b.rate]), (63, .v (.bool false)), (6, .ref 0 4 0 0), (3, VI now), (4, VI n), (5, VI m)], [some ⟨4, [[VI b.level, VI b.now, VI b.burst, VI b.rate]]⟩, some ⟨4, [[VI level, VI b.now, VI b.burst, VI rate]]⟩]⟩) (by kernel_rfl) (by kernel_rfl) F10_call (take_fn b now n) (by kernel_rfl) (by kernel_rfl) ?_
          refine OW.last 6 [3, 4, 5, 6, 18, 19] (x' := ⟨[(19, VI ((b.takeP now n).2)), (18, .ref 2 4 0 0), (6, .ref 0 4 0 0), (3, VI now), (4, VI n), (5, VI m)], [some ⟨4, [[VI b.level, VI b.now, VI b.burst, VI b.rate]]⟩, some ⟨4, [[VI level, VI b.now, VI b.burst, VI rate]]⟩, some ⟨4, [[VI (((b.takeP now n).1).level), VI (((b.takeP now n).1).now), VI (((b.takeP now n).1).burst), VI (((b.takeP now n).1).rate)]]⟩]⟩) (by kernel_rfl) (by kernel_rfl) ?_
          refine EL.sreg ?_
          refine OW.run 3 (x' := ⟨[(74, VI m), (73, VI now), (72, .agg [VI b.level, VI b.now, VI b.burst, VI b.rate]), (19, VI ((b.takeP now n).2)), (18, .ref 2 4 0 0), (6, .ref 0 4 0 0), (3, VI now), (4, VI n), (5, VI m)], [some ⟨4, [[VI b.level, VI b.now, VI b.burst, VI b.rate]]⟩, some ⟨4, [[VI level, VI b.now, VI b.burst, VI rate]]⟩, some ⟨4, [[VI (((b.takeP now n).1).level), VI (((b.takeP now n).1).now), VI (((b.takeP now n).1).burst), VI (((b.takeP now n).1).rate)]]⟩]⟩) (by kernel_rfl) ?_
          refine OW.fn (ar := [.agg [VI b.level, VI b.now, VI b.burst, VI b.rate], VI now, VI m]) (x' := ⟨[(75, .tup [.agg [VI (((b.takeP now m).1).level), VI (((b.takeP now m).1).now), VI (((b.takeP now m).1).burst), VI (((b.takeP now m).1).rate)], VI ((b.takeP now m).2)]), (74, VI m), (73, VI now), (72, .agg [VI b.level, VI b.now, VI b.burst, VI b.rate]), (19, VI ((b.takeP now n).2)), (18, .ref 2 4 0 0), (6, .ref 0 4 0 0), (3, VI now), (4, VI n), (5, VI m)], [some ⟨4, [[VI b.level, VI b.now, VI b.burst, VI b.rate]]⟩, some ⟨4, [[VI level, VI b.now, VI b.burst, VI rate]]⟩, some ⟨4, [[VI (((b.takeP now n).1).level), VI (((b.takeP now n).1).now), VI (((b.takeP now n).1).burst), VI (((b.takeP now n).1).rate)]]⟩]⟩) (by kernel_rfl) (by kernel_rfl) F10_call (take_fn b now m) (by kernel_rfl) (by kernel_rfl) ?_
          refine OW.last 6 [4, 5, 18, 19, 20, 21] (x' := ⟨[(21, VI ((b.takeP now m).2)), (20, .ref 3 4 0 0), (19, VI ((b.takeP now n).2)), (18, .ref 2 4 0 0), (4, VI n), (5, VI m)], [some ⟨4, [[VI b.level, VI b.now, VI b.burst, VI b.rate]]⟩, some ⟨4, [[VI level, VI b.now, VI b.burst, VI rate]]⟩, some ⟨4, [[VI (((b.takeP now n).1).level), VI (((b.takeP now n).1).now), VI (((b.takeP now n).1).burst), VI (((b.takeP now n).1).rate)]]⟩, some ⟨4, [[VI (((b.takeP now m).1).level), VI (((b.takeP now m).1).now), VI (((b.takeP now m).1).burst), VI (((b.takeP now m).1).rate)]]⟩]⟩) (by kernel_rfl) (by kernel_rfl) ?_
          refine EL.seq ?_
          refine EL.sreg ?_
          refine OW.run 3 (x' := ⟨[(80, .v (.bool (((b.takeP now n).2) != 0))), (79, .v (.bool (((b.takeP now n).2) != 0))), (78, VI ((b.takeP now n).2)), (21, VI ((b.takeP now m).2)), (20, .ref 3 4 0 0), (19, VI ((b.takeP now n).2)), (18, .ref 2 4 0 0), (4, VI n), (5, VI m)], [some ⟨4, [[VI b.level, VI b.now, VI b.burst, VI b.rate]]⟩, some ⟨4, [[VI level, VI b.now, VI b.burst, VI rate]]⟩, some ⟨4, [[VI (((b.takeP now n).1).level), VI (((b.takeP now n).1).now), VI (((b.takeP now n).1).burst), VI (((b.takeP now n).1).rate)]]⟩, some ⟨4, [[VI (((b.takeP now m).1).level), VI (((b.takeP now m).1).now), VI (((b.takeP now m).1).burst), VI (((b.takeP now m).1).rate)]]⟩]⟩) (by kernel_rfl) ?_
          rcases Bool.eq_false_or_eq_true ((((b.takeP now n).2) != 0)) with h12 | h12
          · rw [h12]
            have g12 : ¬ (((b.takeP now n).2) = 0) := by simpa using h12
            refine OW.last 8 [4, 5, 18, 20, 21, 88] (x' := ⟨[(88, .v (.bool true)), (21, VI ((b.takeP now m).2)), (20, .ref 3 4 0 0), (18, .ref 2 4 0 0), (4, VI n), (5, VI m)], [some ⟨4, [[VI b.level, VI b.now, VI b.burst, VI b.rate]]⟩, some ⟨4, [[VI level, VI b.now, VI b.burst, VI rate]]⟩, some ⟨4, [[VI (((b.takeP now n).1).level), VI (((b.takeP now n).1).now), VI (((b.takeP now n).1).burst), VI (((b.takeP now n).1).rate)]]⟩, some ⟨4, [[VI (((b.takeP now m).1).level), VI (((b.takeP now m).1).now), VI (((b.takeP now m).1).burst), VI (((b.takeP now m).1).rate)]]⟩]⟩) (by kernel_rfl) (by kernel_rfl) ?_
            refine EL.condT (by kernel_rfl) ?_
            refine EL.sreg ?_
            refine OW.last 1 [12] (x' := ⟨[(12, .v (.bool true))], [some ⟨4, [[VI b.level, VI b.now, VI b.burst, VI b.rate]]⟩, some ⟨4, [[VI level, VI b.now, VI b.burst, VI rate]]⟩, some ⟨4, [[VI (((b.takeP now n).1).level), VI (((b.takeP now n).1).now), VI (((b.takeP now n).1).burst), VI (((b.takeP now n).1).rate)]]⟩, some ⟨4, [[VI (((b.takeP now m).1).level), VI (((b.takeP now m).1).now), VI (((b.takeP now m).1).burst), VI (((b.takeP now m).1).rate)]]⟩]⟩) (by kernel_rfl) (by kernel_rfl) ?_
            refine EL.ret ?_
            refine thenL_ret ?_
            refine ⟨.inr rfl, .v (.bool true), by kernel_rfl, Ale.of_eq ?_⟩
            first | rfl | (exfalso; have hm := Bucket.more (b := b) (c := ⟨level, b.now, b.burst, rate⟩) (now := now) ⟨rfl, rfl⟩ (by omega) (by omega) (by simp only; omega) (by simp only; omega); omega) | (have ht := Bucket.take_less (b := b) (t := now) (n := n) (m := m) (by omega) (by omega) (by omega); refine congrArg (fun b => AV.v (Value.bool b)) ?_; simp [ht]; done) | (exfalso; have ht := Bucket.take_less (b := b) (t := now) (n := n) (m := m) (by omega) (by omega) (by omega); omega) | trace_state
          · rw [h12]
            have g12 : (((b.takeP now n).2) = 0) := by simpa using h12
            refine OW.run 4 (x' := ⟨[(84, .v (.bool (decide (m < 0)))), (83, .v (.bool (decide (m < 0)))), (82, .v (.bool (decide (m < 0)))), (81, VI m), (80, .v (.bool false)), (79, .v (.bool false)), (78, VI ((b.takeP now n).2)), (21, VI ((b.takeP now m).2)), (20, .ref 3 4 0 0), (19, VI ((b.takeP now n).2)), (18, .ref 2 4 0 0), (4, VI n), (5, VI m)], [some ⟨4, [[VI b.level, VI b.now, VI b.burst, VI b.rate]]⟩, some ⟨4, [[VI level, VI b.now, VI b.burst, VI rate]]⟩, some ⟨4, [[VI (((b.takeP now n).1).level), VI (((b.takeP now n).1).now), VI (((b.takeP now n).1).burst), VI (((b.takeP now n).1).rate)]]⟩, some ⟨4, [[VI (((b.takeP now m).1).level), VI (((b.takeP now m).1).now), VI (((b.takeP now m).1).burst), VI (((b.takeP now m).1).rate)]]⟩]⟩) (by kernel_rfl) ?_
            rcases Bool.eq_false_or_eq_true (decide (m < 0)) with h13 | h13
            · rw [h13]
              have g13 : (m < 0) := of_decide_eq_true h13
              refine OW.last 4 [4, 5, 18, 20, 21, 88] (x' := ⟨[(88, .v (.bool true)), (21, VI ((b.takeP now m).2)), (20, .ref 3 4 0 0), (18, .ref 2 4 0 0), (4, VI n), (5, VI m)], [some ⟨4, [[VI b.level, VI b.now, VI b.burst, VI b.rate]]⟩, some ⟨4, [[VI level, VI b.now, VI b.burst, VI rate]]⟩, some ⟨4, [[VI (((b.takeP now n).1).level), VI (((b.takeP now n).1).now), VI (((b.takeP now n).1).burst), VI (((b.takeP now n).1).rate)]]⟩, some ⟨4, [[VI (((b.takeP now m).1).level), VI (((b.takeP now m).1).now), VI (((b.takeP now m).1).burst), VI (((b.takeP now m).1).rate)]]⟩]⟩) (by kernel_rfl) (by kernel_rfl) ?_
              refine EL.condT (by kernel_rfl) ?_
              refine EL.sreg ?_
              refine OW.last 1 [12] (x' := ⟨[(12, .v (.bool true))], [some ⟨4, [[VI b.level, VI b.now, VI b.burst, VI b.rate]]⟩, some ⟨4, [[VI level, VI b.now, VI b.burst, VI rate]]⟩, some ⟨4, [[VI (((b.takeP now n).1).level), VI (((b.takeP now n).1).now), VI (((b.takeP now n).1).burst), VI (((b.takeP now n).1).rate)]]⟩, some ⟨4, [[VI (((b.takeP now m).1).level), VI (((b.takeP now m).1).now), VI (((b.takeP now m).1).burst), VI (((b.takeP now m).1).rate)]]⟩]⟩) (by kernel_rfl) (by kernel_rfl) ?_
              refine EL.ret ?_
              refine thenL_ret ?_
              refine ⟨.inr rfl, .v (.bool true), by kernel_rfl, Ale.of_eq ?_⟩
              first | rfl | (exfalso; have hm := Bucket.more (b := b) (c := ⟨level, b.now, b.burst, rate⟩) (now := now) ⟨rfl, rfl⟩ (by omega) (by omega) (by simp only; omega) (by simp only; omega); omega) | (have ht := Bucket.take_less (b := b) (t := now) (n := n) (m := m) (by omega) (by omega) (by omega); refine congrArg (fun b => AV.v (Value.bool b)) ?_; simp [ht]; done) | (exfalso; have ht := Bucket.take_less (b := b) (t := now) (n := n) (m := m) (by omega) (by omega) (by omega); omega) | trace_state
            · rw [h13]
              have g13 : ¬ (m < 0) := of_decide_eq_false h13
              refine OW.last 4 [4, 5, 18, 20, 21, 88] (x' := ⟨[(88, .v (.bool (decide (m > n)))), (21, VI ((b.takeP now m).2)), (20, .ref 3 4 0 0), (18, .ref 2 4 0 0), (4, VI n), (5, VI m)], [some ⟨4, [[VI b.level, VI b.now, VI b.burst, VI b.rate]]⟩, some ⟨4, [[VI level, VI b.now, VI b.burst, VI rate]]⟩, some ⟨4, [[VI (((b.takeP now n).1).level), VI (((b.takeP now n).1).now), VI (((b.takeP now n).1).burst), VI (((b.takeP now n).1).rate)]]⟩, some ⟨4, [[VI (((b.takeP now m).1).level), VI (((b.takeP now m).1).now), VI (((b.takeP now m).1).burst), VI (((b.takeP now m).1).rate)]]⟩]⟩) (by kernel_rfl) (by kernel_rfl) ?_
              rcases Bool.eq_false_or_eq_true (decide (m > n)) with h14 | h14
              · rw [h14]
                have g14 : (m > n) := of_decide_eq_true h14
                refine EL.condT (by kernel_rfl) ?_
                refine EL.sreg ?_
                refine OW.last 1 [12] (x' := ⟨[(12, .v (.bool true))], [some ⟨4, [[VI b.level, VI b.now, VI b.burst, VI b.rate]]⟩, some ⟨4, [[VI level, VI b.now, VI b.burst, VI rate]]⟩, some ⟨4, [[VI (((b.takeP now n).1).level), VI (((b.takeP now n).1).now), VI (((b.takeP now n).1).burst), VI (((b.takeP now n).1).rate)]]⟩, some ⟨4, [[VI (((b.takeP now m).1).level), VI (((b.takeP now m).1).now), VI (((b.takeP now m).1).burst), VI (((b.takeP now m).1).rate)]]⟩]⟩) (by kernel_rfl) (by kernel_rfl) ?_
                refine EL.ret ?_
                refine thenL_ret ?_
                refine ⟨.inr rfl, .v (.bool true), by kernel_rfl, Ale.of_eq ?_⟩
                first | rfl | (exfalso; have hm := Bucket.more (b := b) (c := ⟨level, b.now, b.burst, rate⟩) (now := now) ⟨rfl, rfl⟩ (by omega) (by omega) (by simp only; omega) (by simp only; omega); omega) | (have ht := Bucket.take_less (b := b) (t := now) (n := n) (m := m) (by omega) (by omega) (by omega); refine congrArg (fun b => AV.v (Value.bool b)) ?_; simp [ht]; done) | (exfalso; have ht := Bucket.take_less (b := b) (t := now) (n := n) (m := m) (by omega) (by omega) (by omega); omega) | trace_state
              · rw [h14]
                have g14 : ¬ (m > n) := of_decide_eq_false h14
                refine EL.condF (by kernel_rfl) ?_
                refine EL.skip ?_
                refine thenL_norm ?_
                refine EL.sreg ?_
                refine OW.run 3 (x' := ⟨[(91, .v (.bool (((b.takeP now m).2) == 0))), (90, .v (.bool (((b.takeP now m).2) == 0))), (89, VI ((b.takeP now m).2)), (88, .v (.bool false)), (21, VI ((b.takeP now m).2)), (20, .ref 3 4 0 0), (18, .ref 2 4 0 0), (4, VI n), (5, VI m)], [some ⟨4, [[VI b.level, VI b.now, VI b.burst, VI b.rate]]⟩, some ⟨4, [[VI level, VI b.now, VI b.burst, VI rate]]⟩, some ⟨4, [[VI (((b.takeP now n).1).level), VI (((b.takeP now n).1).now), VI (((b.takeP now n).1).burst), VI (((b.takeP now n).1).rate)]]⟩, some ⟨4, [[VI (((b.takeP now m).1).level), VI (((b.takeP now m).1).now), VI (((b.takeP now m).1).burst), VI (((b.takeP now m).1).rate)]]⟩]⟩) (by kernel_rfl) ?_
                rcases Bool.eq_false_or_eq_true ((((b.takeP now m).2) == 0)) with h15 | h15
                · rw [h15]
                  have g15 : (((b.takeP now m).2) = 0) := by simpa using h15
                  refine OW.run 11 (x' := ⟨[(12, .v (.bool ((((b.takeP now m).1).level) == IntKind.i64.wrap ((IntKind.i64.wrap ((((b.takeP now n).1).level) + n)) - m)))), (101, .v (.bool ((((b.takeP now m).1).level) == IntKind.i64.wrap ((IntKind.i64.wrap ((((b.takeP now n).1).level) + n)) - m)))), (100, .v (.bool ((((b.takeP now m).1).level) == IntKind.i64.wrap ((IntKind.i64.wrap ((((b.takeP now n).1).level) + n)) - m)))), (99, VI (IntKind.i64.wrap ((IntKind.i64.wrap ((((b.takeP now n).1).level) + n)) - m))), (98, VI m), (97, VI (IntKind.i64.wrap ((((b.takeP now n).1).level) + n))), (96, VI n), (95, VI (((b.takeP now n).1).level)), (94, .ref 2 4 0 0), (93, VI (((b.takeP now m).1).level)), (92, .ref 3 4 0 0), (91, .v (.bool true)), (90, .v (.bool true)), (89, VI ((b.takeP now m).2)), (88, .v (.bool false)), (21, VI ((b.takeP now m).2)), (20, .ref 3 4 0 0), (18, .ref 2 4 0 0), (4, VI n), (5, VI m)], [some ⟨4, [[VI b.level, VI b.now, VI b.burst, VI b.rate]]⟩, some ⟨4, [[VI level, VI b.now, VI b.burst, VI rate]]⟩, some ⟨4, [[VI (((b.takeP now n).1).level), VI (((b.takeP now n).1).now), VI (((b.takeP now n).1).burst), VI (((b.takeP now n).1).rate)]]⟩, some ⟨4, [[VI (((b.takeP now m).1).level), VI (((b.takeP now m).1).now), VI (((b.takeP now m).1).burst), VI (((b.takeP now m).1).rate)]]⟩]⟩) (by kernel_rfl) ?_
                  have e16 : IntKind.i64.wrap ((((b.takeP now n).1).level) + n) = (((b.takeP now n).1).level) + n := wr64 (by have ht := Bucket.take_bd (b := b) (now := now) (n := n) (by omega); omega)
                  rw [e16]
                  have e17 : IntKind.i64.wrap (((((b.takeP now n).1).level) + n) - m) = ((((b.takeP now n).1).level) + n) - m := wr64 (by have ht := Bucket.take_bd (b := b) (now := now) (n := n) (by omega); omega)
                  rw [e17]
                  refine OW.last 0 [12] (x' := ⟨[(12, .v (.bool ((((b.takeP now m).1).level) == (((((b.takeP now n).1).level) + n) - m))))], [some ⟨4, [[VI b.level, VI b.now, VI b.burst, VI b.rate]]⟩, some ⟨4, [[VI level, VI b.now, VI b.burst, VI rate]]⟩, some ⟨4, [[VI (((b.takeP now n).1).level), VI (((b.takeP now n).1).now), VI (((b.takeP now n).1).burst), VI (((b.takeP now n).1).rate)]]⟩, some ⟨4, [[VI (((b.takeP now m).1).level), VI (((b.takeP now m).1).now), VI (((b.takeP now m).1).burst), VI (((b.takeP now m).1).rate)]]⟩]⟩) (by kernel_rfl) (by kernel_rfl) ?_
                  refine EL.ret ?_
                  refine ⟨.inr rfl, .v (.bool ((((b.takeP now m).1).level) == (((((b.takeP now n).1).level) + n) - m))), by kernel_rfl, Ale.of_eq ?_⟩
                  first | rfl | (exfalso; have hm := Bucket.more (b := b) (c := ⟨level, b.now, b.burst, rate⟩) (now := now) ⟨rfl, rfl⟩ (by omega) (by omega) (by simp only; omega) (by simp only; omega); omega) | (have ht := Bucket.take_less (b := b) (t := now) (n := n) (m := m) (by omega) (by omega) (by omega); refine congrArg (fun b => AV.v (Value.bool b)) ?_; simp [ht]; done) | (exfalso; have ht := Bucket.take_less (b := b) (t := now) (n := n) (m := m) (by omega) (by omega) (by omega); omega) | trace_state
                · rw [h15]
                  have g15 : ¬ (((b.takeP now m).2) = 0) := by simpa using h15
                  refine OW.last 11 [12] (x' := ⟨[(12, .v (.bool false))], [some ⟨4, [[VI b.level, VI b.now, VI b.burst, VI b.rate]]⟩, some ⟨4, [[VI level, VI b.now, VI b.burst, VI rate]]⟩, some ⟨4, [[VI (((b.takeP now n).1).level), VI (((b.takeP now n).1).now), VI (((b.takeP now n).1).burst), VI (((b.takeP now n).1).rate)]]⟩, some ⟨4, [[VI (((b.takeP now m).1).level), VI (((b.takeP now m).1).now), VI (((b.takeP now m).1).burst), VI (((b.takeP now m).1).rate)]]⟩]⟩) (by kernel_rfl) (by kernel_rfl) ?_
                  refine EL.ret ?_
                  refine ⟨.inr rfl, .v (.bool false), by kernel_rfl, Ale.of_eq ?_⟩
                  first | rfl | (exfalso; have hm := Bucket.more (b := b) (c := ⟨level, b.now, b.burst, rate⟩) (now := now) ⟨rfl, rfl⟩ (by omega) (by omega) (by simp only; omega) (by simp only; omega); omega) | (have ht := Bucket.take_less (b := b) (t := now) (n := n) (m := m) (by omega) (by omega) (by omega); refine congrArg (fun b => AV.v (Value.bool b)) ?_; simp [ht]; done) | (exfalso; have ht := Bucket.take_less (b := b) (t := now) (n := n) (m := m) (by omega) (by omega) (by omega); omega) | trace_state
      · rw [h3]
        have g3 : ¬ (level ≥ b.level) := of_decide_eq_false h3
        refine OW.last 10 [3, 4, 5, 6, 63] (x' := ⟨[(63, .v (.bool false)), (6, .ref 0 4 0 0), (3, VI now), (4, VI n), (5, VI m)], [some ⟨4, [[VI b.level, VI b.now, VI b.burst, VI b.rate]]⟩, some ⟨4, [[VI level, VI b.now, VI b.burst, VI rate]]⟩]⟩) (by kernel_rfl) (by kernel_rfl) ?_
        refine EL.condF (by kernel_rfl) ?_
        refine EL.skip ?_
        refine thenL_norm ?_
        refine EL.sreg ?_
        refine OW.run 3 (x' := ⟨[(67, VI n), (66, VI now), (65, .agg [VI b.level, VI b.now, VI b.burst, VI b.rate]), (63, .v (.bool false)), (6, .ref 0 4 0 0), (3, VI now), (4, VI n), (5, VI m)], [some ⟨4, [[VI b.level, VI b.now, VI b.burst, VI b.rate]]⟩, some ⟨4, [[VI level, VI b.now, VI b.burst, VI rate]]⟩]⟩) (by kernel_rfl) ?_
        refine OW.fn (ar := [.agg [VI b.level, VI b.now, VI b.burst, VI b.rate], VI now, VI n]) (x' := ⟨[(68, .tup [.agg [VI (((b.takeP now n).1).level), VI (((b.takeP now n).1).now), VI (((b.takeP now n).1).burst), VI (((b.takeP now n).1).rate)], VI ((b.takeP now n).2)]), (67, VI n), (66, VI now), (65, .agg [VI b.level, VI b.now, VI b.burst, VI b.rate]), (63, .v (.bool false)), (6, .ref 0 4 0 0), (3, VI now), (4, VI n), (5, VI m)], [some ⟨4, [[VI b.level, VI b.now, VI b.burst, VI b.rate]]⟩, some ⟨4, [[VI level, VI b.now, VI b.burst, VI rate]]⟩]⟩) (by kernel_rfl) (by kernel_rfl) F10_call (take_fn b now n) (by kernel_rfl) (by kernel_rfl) ?_
        refine OW.last 6 [3, 4, 5, 6, 18, 19] (x' := ⟨[(19, VI ((b.takeP now n).2)), (18, .ref 2 4 0 0), (6, .ref 0 4 0 0), (3, VI now), (4, VI n), (5, VI m)], [some ⟨4, [[VI b.level, VI b.now, VI b.burst, VI b.rate]]⟩, some ⟨4, [[VI level, VI b.now, VI b.burst, VI rate]]⟩, some ⟨4, [[VI (((b.takeP now n).1).level), VI (((b.takeP now n).1).now), VI (((b.takeP now n).1).burst), VI (((b.takeP now n).1).rate)]]⟩]⟩) (by kernel_rfl) (by kernel_rfl) ?_
        refine EL.sreg ?_
        refine OW.run 3 (x' := ⟨[(74, VI m), (73, VI now), (72, .agg [VI b.level, VI b.now, VI b.burst, VI b.rate]), (19, VI ((b.takeP now n).2)), (18, .ref 2 4 0 0), (6, .ref 0 4 0 0), (3, VI now), (4, VI n), (5, VI m)], [some ⟨4, [[VI b.level, VI b.now, VI b.burst, VI b.rate]]⟩, some ⟨4, [[VI level, VI b.now, VI b.burst, VI rate]]⟩, some ⟨4, [[VI (((b.takeP now n).1).level), VI (((b.takeP now n).1).now), VI (((b.takeP now n).1).burst), VI (((b.takeP now n).1).rate)]]⟩]⟩) (by kernel_rfl) ?_
        refine OW.fn (ar := [.agg [VI b.level, VI b.now, VI b.burst, VI b.rate], VI now, VI m]) (x' := ⟨[(75, .tup [.agg [VI (((b.takeP now m).1).level), VI (((b.takeP now m).1).now), VI (((b.takeP now m).1).burst), VI (((b.takeP now m).1).rate)], VI ((b.takeP now m).2)]), (74, VI m), (73, VI now), (72, .agg [VI b.level, VI b.now, VI b.burst, VI b.rate]), (19, VI ((b.takeP now n).2)), (18, .ref 2 4 0 0), (6, .ref 0 4 0 0), (3, VI now), (4, VI n), (5, VI m)], [some ⟨4, [[VI b.level, VI b.now, VI b.burst, VI b.rate]]⟩, some ⟨4, [[VI level, VI b.now, VI b.burst, VI rate]]⟩, some ⟨4, [[VI (((b.takeP now n).1).level), VI (((b.takeP now n).1).now), VI (((b.takeP now n).1).burst), VI (((b.takeP now n).1).rate)]]⟩]⟩) (by kernel_rfl) (by kernel_rfl) F10_call (take_fn b now m) (by kernel_rfl) (by kernel_rfl) ?_
        refine OW.last 6 [4, 5, 18, 19, 20, 21] (x' := ⟨[(21, VI ((b.takeP now m).2)), (20, .ref 3 4 0 0), (19, VI ((b.takeP now n).2)), (18, .ref 2 4 0 0), (4, VI n), (5, VI m)], [some ⟨4, [[VI b.level, VI b.now, VI b.burst, VI b.rate]]⟩, some ⟨4, [[VI level, VI b.now, VI b.burst, VI rate]]⟩, some ⟨4, [[VI (((b.takeP now n).1).level), VI (((b.takeP now n).1).now), VI (((b.takeP now n).1).burst), VI (((b.takeP now n).1).rate)]]⟩, some ⟨4, [[VI (((b.takeP now m).1).level), VI (((b.takeP now m).1).now), VI (((b.takeP now m).1).burst), VI (((b.takeP now m).1).rate)]]⟩]⟩) (by kernel_rfl) (by kernel_rfl) ?_
        refine EL.seq ?_
        refine EL.sreg ?_
        refine OW.run 3 (x' := ⟨[(80, .v (.bool (((b.takeP now n).2) != 0))), (79, .v (.bool (((b.takeP now n).2) != 0))), (78, VI ((b.takeP now n).2)), (21, VI ((b.takeP now m).2)), (20, .ref 3 4 0 0), (19, VI ((b.takeP now n).2)), (18, .ref 2 4 0 0), (4, VI n), (5, VI m)], [some ⟨4, [[VI b.level, VI b.now, VI b.burst, VI b.rate]]⟩, some ⟨4, [[VI level, VI b.now, VI b.burst, VI rate]]⟩, some ⟨4, [[VI (((b.takeP now n).1).level), VI (((b.takeP now n).1).now), VI (((b.takeP now n).1).burst), VI (((b.takeP now n).1).rate)]]⟩, some ⟨4, [[VI (((b.takeP now m).1).level), VI (((b.takeP now m).1).now), VI (((b.takeP now m).1).burst), VI (((b.takeP now m).1).rate)]]⟩]⟩) (by kernel_rfl) ?_
        rcases Bool.eq_false_or_eq_true ((((b.takeP now n).2) != 0)) with h18 | h18
        · rw [h18]
          have g18 : ¬ (((b.takeP now n).2) = 0) := by simpa using h18
          refine OW.last 8 [4, 5, 18, 20, 21, 88] (x' := ⟨[(88, .v (.bool true)), (21, VI ((b.takeP now m).2)), (20, .ref 3 4 0 0), (18, .ref 2 4 0 0), (4, VI n), (5, VI m)], [some ⟨4, [[VI b.level, VI b.now, VI b.burst, VI b.rate]]⟩, some ⟨4, [[VI level, VI b.now, VI b.burst, VI rate]]⟩, some ⟨4, [[VI (((b.takeP now n).1).level), VI (((b.takeP now n).1).now), VI (((b.takeP now n).1).burst), VI (((b.takeP now n).1).rate)]]⟩, some ⟨4, [[VI (((b.takeP now m).1).level), VI (((b.takeP now m).1).now), VI (((b.takeP now m).1).burst), VI (((b.takeP now m).1).rate)]]⟩]⟩) (by kernel_rfl) (by kernel_rfl) ?_
          refine EL.condT (by kernel_rfl) ?_
          refine EL.sreg ?_
          refine OW.last 1 [12] (x' := ⟨[(12, .v (.bool true))], [some ⟨4, [[VI b.level, VI b.now, VI b.burst, VI b.rate]]⟩, some ⟨4, [[VI level, VI b.now, VI b.burst, VI rate]]⟩, some ⟨4, [[VI (((b.takeP now n).1).level), VI (((b.takeP now n).1).now), VI (((b.takeP now n).1).burst), VI (((b.takeP now n).1).rate)]]⟩, some ⟨4, [[VI (((b.takeP now m).1).level), VI (((b.takeP now m).1).now), VI (((b.takeP now m).1).burst), VI (((b.takeP now m).1).rate)]]⟩]⟩) (by kernel_rfl) (by kernel_rfl) ?_
          refine EL.ret ?_
          refine thenL_ret ?_
          refine ⟨.inr rfl, .v (.bool true), by kernel_rfl, Ale.of_eq ?_⟩
          first | rfl | (exfalso; have hm := Bucket.more (b := b) (c := ⟨level, b.now, b.burst, rate⟩) (now := now) ⟨rfl, rfl⟩ (by omega) (by omega) (by simp only; omega) (by simp only; omega); omega) | (have ht := Bucket.take_less (b := b) (t := now) (n := n) (m := m) (by omega) (by omega) (by omega); refine congrArg (fun b => AV.v (Value.bool b)) ?_; simp [ht]; done) | (exfalso; have ht := Bucket.take_less (b := b) (t := now) (n := n) (m := m) (by omega) (by omega) (by omega); omega) | trace_state
        · rw [h18]
          have g18 : (((b.takeP now n).2) = 0) := by simpa using h18
          refine OW.run 4 (x' := ⟨[(84, .v (.bool (decide (m < 0)))), (83, .v (.bool (decide (m < 0)))), (82, .v (.bool (decide (m < 0)))), (81, VI m), (80, .v (.bool false)), (79, .v (.bool false)), (78, VI ((b.takeP now n).2)), (21, VI ((b.takeP now m).2)), (20, .ref 3 4 0 0), (19, VI ((b.takeP now n).2)), (18, .ref 2 4 0 0), (4, VI n), (5, VI m)], [some ⟨4, [[VI b.level, VI b.now, VI b.burst, VI b.rate]]⟩, some ⟨4, [[VI level, VI b.now, VI b.burst, VI rate]]⟩, some ⟨4, [[VI (((b.takeP now n).1).level), VI (((b.takeP now n).1).now), VI (((b.takeP now n).1).burst), VI (((b.takeP now n).1).rate)]]⟩, some ⟨4, [[VI (((b.takeP now m).1).level), VI (((b.takeP now m).1).now), VI (((b.takeP now m).1).burst), VI (((b.takeP now m).1).rate)]]⟩]⟩) (by kernel_rfl) ?_
          rcases Bool.eq_false_or_eq_true (decide (m < 0)) with h19 | h19
          · rw [h19]
            have g19 : (m < 0) := of_decide_eq_true h19
            refine OW.last 4 [4, 5, 18, 20, 21, 88] (x' := ⟨[(88, .v (.bool true)), (21, VI ((b.takeP now m).2)), (20, .ref 3 4 0 0), (18, .ref 2 4 0 0), (4, VI n), (5, VI m)], [some ⟨4, [[VI b.level, VI b.now, VI b.burst, VI b.rate]]⟩, some ⟨4, [[VI level, VI b.now, VI b.burst, VI rate]]⟩, some ⟨4, [[VI (((b.takeP now n).1).level), VI (((b.takeP now n).1).now), VI (((b.takeP now n).1).burst), VI (((b.takeP now n).1).rate)]]⟩, some ⟨4, [[VI (((b.takeP now m).1).level), VI (((b.takeP now m).1).now), VI (((b.takeP now m).1).burst), VI (((b.takeP now m).1).rate)]]⟩]⟩) (by kernel_rfl) (by kernel_rfl) ?_
            refine EL.condT (by kernel_rfl) ?_
            refine EL.sreg ?_
            refine OW.last 1 [12] (x' := ⟨[(12, .v (.bool true))], [some ⟨4, [[VI b.level, VI b.now, VI b.burst, VI b.rate]]⟩, some ⟨4, [[VI level, VI b.now, VI b.burst, VI rate]]⟩, some ⟨4, [[VI (((b.takeP now n).1).level), VI (((b.takeP now n).1).now), VI (((b.takeP now n).1).burst), VI (((b.takeP now n).1).rate)]]⟩, some ⟨4, [[VI (((b.takeP now m).1).level), VI (((b.takeP now m).1).now), VI (((b.takeP now m).1).burst), VI (((b.takeP now m).1).rate)]]⟩]⟩) (by kernel_rfl) (by kernel_rfl) ?_
            refine EL.ret ?_
            refine thenL_ret ?_
            refine ⟨.inr rfl, .v (.bool true), by kernel_rfl, Ale.of_eq ?_⟩
            first | rfl | (exfalso; have hm := Bucket.more (b := b) (c := ⟨level, b.now, b.burst, rate⟩) (now := now) ⟨rfl, rfl⟩ (by omega) (by omega) (by simp only; omega) (by simp only; omega); omega) | (have ht := Bucket.take_less (b := b) (t := now) (n := n) (m := m) (by omega) (by omega) (by omega); refine congrArg (fun b => AV.v (Value.bool b)) ?_; simp [ht]; done) | (exfalso; have ht := Bucket.take_less (b := b) (t := now) (n := n) (m := m) (by omega) (by omega) (by omega); omega) | trace_state
          · rw [h19]
            have g19 : ¬ (m < 0) := of_decide_eq_false h19
            refine OW.last 4 [4, 5, 18, 20, 21, 88] (x' := ⟨[(88, .v (.bool (decide (m > n)))), (21, VI ((b.takeP now m).2)), (20, .ref 3 4 0 0), (18, .ref 2 4 0 0), (4, VI n), (5, VI m)], [some ⟨4, [[VI b.level, VI b.now, VI b.burst, VI b.rate]]⟩, some ⟨4, [[VI level, VI b.now, VI b.burst, VI rate]]⟩, some ⟨4, [[VI (((b.takeP now n).1).level), VI (((b.takeP now n).1).now), VI (((b.takeP now n).1).burst), VI (((b.takeP now n).1).rate)]]⟩, some ⟨4, [[VI (((b.takeP now m).1).level), VI (((b.takeP now m).1).now), VI (((b.takeP now m).1).burst), VI (((b.takeP now m).1).rate)]]⟩]⟩) (by kernel_rfl) (by kernel_rfl) ?_
            rcases Bool.eq_false_or_eq_true (decide (m > n)) with h20 | h20
            · rw [h20]
              have g20 : (m > n) := of_decide_eq_true h20
              refine EL.condT (by kernel_rfl) ?_
              refine EL.sreg ?_
              refine OW.last 1 [12] (x' := ⟨[(12, .v (.bool true))], [some ⟨4, [[VI b.level, VI b.now, VI b.burst, VI b.rate]]⟩, some ⟨4, [[VI level, VI b.now, VI b.burst, VI rate]]⟩, some ⟨4, [[VI (((b.takeP now n).1).level), VI (((b.takeP now n).1).now), VI (((b.takeP now n).1).burst), VI (((b.takeP now n).1).rate)]]⟩, some ⟨4, [[VI (((b.takeP now m).1).level), VI (((b.takeP now m).1).now), VI (((b.takeP now m).1).burst), VI (((b.takeP now m).1).rate)]]⟩]⟩) (by kernel_rfl) (by kernel_rfl) ?_
              refine EL.ret ?_
              refine thenL_ret ?_
              refine ⟨.inr rfl, .v (.bool true), by kernel_rfl, Ale.of_eq ?_⟩
              first | rfl | (exfalso; have hm := Bucket.more (b := b) (c := ⟨level, b.now, b.burst, rate⟩) (now := now) ⟨rfl, rfl⟩ (by omega) (by omega) (by simp only; omega) (by simp only; omega); omega) | (have ht := Bucket.take_less (b := b) (t := now) (n := n) (m := m) (by omega) (by omega) (by omega); refine congrArg (fun b => AV.v (Value.bool b)) ?_; simp [ht]; done) | (exfalso; have ht := Bucket.take_less (b := b) (t := now) (n := n) (m := m) (by omega) (by omega) (by omega); omega) | trace_state
            · rw [h20]
              have g20 : ¬ (m > n) := of_decide_eq_false h20
              refine EL.condF (by kernel_rfl) ?_
              refine EL.skip ?_
              refine thenL_norm ?_
              refine EL.sreg ?_
              refine OW.run 3 (x' := ⟨[(91, .v (.bool (((b.takeP now m).2) == 0))), (90, .v (.bool (((b.takeP now m).2) == 0))), (89, VI ((b.takeP now m).2)), (88, .v (.bool false)), (21, VI ((b.takeP now m).2)), (20, .ref 3 4 0 0), (18, .ref 2 4 0 0), (4, VI n), (5, VI m)], [some ⟨4, [[VI b.level, VI b.now, VI b.burst, VI b.rate]]⟩, some ⟨4, [[VI level, VI b.now, VI b.burst, VI rate]]⟩, some ⟨4, [[VI (((b.takeP now n).1).level), VI (((b.takeP now n).1).now), VI (((b.takeP now n).1).burst), VI (((b.takeP now n).1).rate)]]⟩, some ⟨4, [[VI (((b.takeP now m).1).level), VI (((b.takeP now m).1).now), VI (((b.takeP now m).1).burst), VI (((b.takeP now m).1).rate)]]⟩]⟩) (by kernel_rfl) ?_
              rcases Bool.eq_false_or_eq_true ((((b.takeP now m).2) == 0)) with h21 | h21
              · rw [h21]
                have g21 : (((b.takeP now m).2) = 0) := by simpa using h21
                refine OW.run 11 (x' := ⟨[(12, .v (.bool ((((b.takeP now m).1).level) == IntKind.i64.wrap ((IntKind.i64.wrap ((((b.takeP now n).1).level) + n)) - m)))), (101, .v (.bool ((((b.takeP now m).1).level) == IntKind.i64.wrap ((IntKind.i64.wrap ((((b.takeP now n).1).level) + n)) - m)))), (100, .v (.bool ((((b.takeP now m).1).level) == IntKind.i64.wrap ((IntKind.i64.wrap ((((b.takeP now n).1).level) + n)) - m)))), (99, VI (IntKind.i64.wrap ((IntKind.i64.wrap ((((b.takeP now n).1).level) + n)) - m))), (98, VI m), (97, VI (IntKind.i64.wrap ((((b.takeP now n).1).level) + n))), (96, VI n), (95, VI (((b.takeP now n).1).level)), (94, .ref 2 4 0 0), (93, VI (((b.takeP now m).1).level)), (92, .ref 3 4 0 0), (91, .v (.bool true)), (90, .v (.bool true)), (89, VI ((b.takeP now m).2)), (88, .v (.bool false)), (21, VI ((b.takeP now m).2)), (20, .ref 3 4 0 0), (18, .ref 2 4 0 0), (4, VI n), (5, VI m)], [some ⟨4, [[VI b.level, VI b.now, VI b.burst, VI b.rate]]⟩, some ⟨4, [[VI level, VI b.now, VI b.burst, VI rate]]⟩, some ⟨4, [[VI (((b.takeP now n).1).level), VI (((b.takeP now n).1).now), VI (((b.takeP now n).1).burst), VI (((b.takeP now n).1).rate)]]⟩, some ⟨4, [[VI (((b.takeP now m).1).level), VI (((b.takeP now m).1).now), VI (((b.takeP now m).1).burst), VI (((b.takeP now m).1).rate)]]⟩]⟩) (by kernel_rfl) ?_
                have e22 : IntKind.i64.wrap ((((b.takeP now n).1).level) + n) = (((b.takeP now n).1).level) + n := wr64 (by have ht := Bucket.take_bd (b := b) (now := now) (n := n) (by omega); omega)
                rw [e22]
                have e23 : IntKind.i64.wrap (((((b.takeP now n).1).level) + n) - m) = ((((b.takeP now n).1).level) + n) - m := wr64 (by have ht := Bucket.take_bd (b := b) (now := now) (n := n) (by omega); omega)
                rw [e23]
                refine OW.last 0 [12] (x' := ⟨[(12, .v (.bool ((((b.takeP now m).1).level) == (((((b.takeP now n).1).level) + n) - m))))], [some ⟨4, [[VI b.level, VI b.now, VI b.burst, VI b.rate]]⟩, some ⟨4, [[VI level, VI b.now, VI b.burst, VI rate]]⟩, some ⟨4, [[VI (((b.takeP now n).1).level), VI (((b.takeP now n).1).now), VI (((b.takeP now n).1).burst), VI (((b.takeP now n).1).rate)]]⟩, some ⟨4, [[VI (((b.takeP now m).1).level), VI (((b.takeP now m).1).now), VI (((b.takeP now m).1).burst), VI (((b.takeP now m).1).rate)]]⟩]⟩) (by kernel_rfl) (by kernel_rfl) ?_
                refine EL.ret ?_
                refine ⟨.inr rfl, .v (.bool ((((b.takeP now m).1).level) == (((((b.takeP now n).1).level) + n) - m))), by kernel_rfl, Ale.of_eq ?_⟩
                first | rfl | (exfalso; have hm := Bucket.more (b := b) (c := ⟨level, b.now, b.burst, rate⟩) (now := now) ⟨rfl, rfl⟩ (by omega) (by omega) (by simp only; omega) (by simp only; omega); omega) | (have ht := Bucket.take_less (b := b) (t := now) (n := n) (m := m) (by omega) (by omega) (by omega); refine congrArg (fun b => AV.v (Value.bool b)) ?_; simp [ht]; done) | (exfalso; have ht := Bucket.take_less (b := b) (t := now) (n := n) (m := m) (by omega) (by omega) (by omega); omega) | trace_state
              · rw [h21]
                have g21 : ¬ (((b.takeP now m).2) = 0) := by simpa using h21
                refine OW.last 11 [12] (x' := ⟨[(12, .v (.bool false))], [some ⟨4, [[VI b.level, VI b.now, VI b.burst, VI b.rate]]⟩, some ⟨4, [[VI level, VI b.now, VI b.burst, VI rate]]⟩, some ⟨4, [[VI (((b.takeP now n).1).level), VI (((b.takeP now n).1).now), VI (((b.takeP now n).1).burst), VI (((b.takeP now n).1).rate)]]⟩, some ⟨4, [[VI (((b.takeP now m).1).level), VI (((b.takeP now m).1).now), VI (((b.takeP now m).1).burst), VI (((b.takeP now m).1).rate)]]⟩]⟩) (by kernel_rfl) (by kernel_rfl) ?_
                refine EL.ret ?_
                refine ⟨.inr rfl, .v (.bool false), by kernel_rfl, Ale.of_eq ?_⟩
                first | rfl | (exfalso; have hm := Bucket.more (b := b) (c := ⟨level, b.now, b.burst, rate⟩) (now := now) ⟨rfl, rfl⟩ (by omega) (by omega) (by simp only; omega) (by simp only; omega); omega) | (have ht := Bucket.take_less (b := b) (t := now) (n := n) (m := m) (by omega) (by omega) (by omega); refine congrArg (fun b => AV.v (Value.bool b)) ?_; simp [ht]; done) | (exfalso; have ht := Bucket.take_less (b := b) (t := now) (n := n) (m := m) (by omega) (by omega) (by omega); omega) | trace_state
    · rw [h2]
      have g2 : ¬ ((((⟨level, b.now, b.burst, rate⟩ : Bucket).levelP now).2) = 0) := by simpa using h2
      refine OW.last 16 [3, 4, 5, 6, 63] (x' := ⟨[(63, .v (.bool false)), (6, .ref 0 4 0 0), (3, VI now), (4, VI n), (5, VI m)], [some ⟨4, [[VI b.level, VI b.now, VI b.burst, VI b.rate]]⟩, some ⟨4, [[VI level, VI b.now, VI b.burst, VI rate]]⟩]⟩) (by kernel_rfl) (by kernel_rfl) ?_
      refine EL.condF (by kernel_rfl) ?_
      refine EL.skip ?_
      refine thenL_norm ?_
      refine EL.sreg ?_
      refine OW.run 3 (x' := ⟨[(67, VI n), (66, VI now), (65, .agg [VI b.level, VI b.now, VI b.burst, VI b.rate]), (63, .v (.bool false)), (6, .ref 0 4 0 0), (3, VI now), (4, VI n), (5, VI m)], [some ⟨4, [[VI b.level, VI b.now, VI b.burst, VI b.rate]]⟩, some ⟨4, [[VI level, VI b.now, VI b.burst, VI rate]]⟩]⟩) (by kernel_rfl) ?_
      refine OW.fn (ar := [.agg [VI b.level, VI b.now, VI b.burst, VI b.rate], VI now, VI n]) (x' := ⟨[(68, .tup [.agg [VI (((b.takeP now n).1).level), VI (((b.takeP now n).1).now), VI (((b.takeP now n).1).burst), VI (((b.takeP now n).1).rate)], VI ((b.takeP now n).2)]), (67, VI n), (66, VI now), (65, .agg [VI b.level, VI b.now, VI b.burst, VI b.rate]), (63, .v (.bool false)), (6, .ref 0 4 0 0), (3, VI now), (4, VI n), (5, VI m)], [some ⟨4, [[VI b.level, VI b.now, VI b.burst, VI b.rate]]⟩, some ⟨4, [[VI level, VI b.now, VI b.burst, VI rate]]⟩]⟩) (by kernel_rfl) (by kernel_rfl) F10_call (take_fn b now n) (by kernel_rfl) (by kernel_rfl) ?_
      refine OW.last 6 [3, 4, 5, 6, 18, 19] (x' := ⟨[(19, VI ((b.takeP now n).2)), (18, .ref 2 4 0 0), (6, .ref 0 4 0 0), (3, VI now), (4, VI n), (5, VI m)], [some ⟨4, [[VI b.level, VI b.now, VI b.burst, VI b.rate]]⟩, some ⟨4, [[VI level, VI b.now, VI b.burst, VI rate]]⟩, some ⟨4, [[VI (((b.takeP now n).1).level), VI (((b.takeP now n).1).now), VI (((b.takeP now n).1).burst), VI (((b.takeP now n).1).rate)]]⟩]⟩) (by kernel_rfl) (by kernel_rfl) ?_
      refine EL.sreg ?_
      refine OW.run 3 (x' := ⟨[(74, VI m), (73, VI now), (72, .agg [VI b.level, VI b.now, VI b.burst, VI b.rate]), (19, VI ((b.takeP now n).2)), (18, .ref 2 4 0 0), (6, .ref 0 4 0 0), (3, VI now), (4, VI n), (5, VI m)], [some ⟨4, [[VI b.level, VI b.now, VI b.burst, VI b.rate]]⟩, some ⟨4, [[VI level, VI b.now, VI b.burst, VI rate]]⟩, some ⟨4, [[VI (((b.takeP now n).1).level), VI (((b.takeP now n).1).now), VI (((b.takeP now n).1).burst), VI (((b.takeP now n).1).rate)]]⟩]⟩) (by kernel_rfl) ?_
      refine OW.fn (ar := [.agg [VI b.level, VI b.now, VI b.burst, VI b.rate], VI now, VI m]) (x' := ⟨[(75, .tup [.agg [VI (((b.takeP now m).1).level), VI (((b.takeP now m).1).now), VI (((b.takeP now m).1).burst), VI (((b.takeP now m).1).rate)], VI ((b.takeP now m).2)]), (74, VI m), (73, VI now), (72, .agg [VI b.level, VI b.now, VI b.burst, VI b.rate]), (19, VI ((b.takeP now n).2)), (18, .ref 2 4 0 0), (6, .ref 0 4 0 0), (3, VI now), (4, VI n), (5, VI m)], [some ⟨4, [[VI b.level, VI b.now, VI b.burst, VI b.rate]]⟩, some ⟨4, [[VI level, VI b.now, VI b.burst, VI rate]]⟩, some ⟨4, [[VI (((b.takeP now n).1).level), VI (((b.takeP now n).1).now), VI (((b.takeP now n).1).burst), VI (((b.takeP now n).1).rate)]]⟩]⟩) (by kernel_rfl) (by kernel_rfl) F10_call (take_fn b now m) (by kernel_rfl) (by kernel_rfl) ?_
      refine OW.last 6 [4, 5, 18, 19, 20, 21] (x' := ⟨[(21, VI ((b.takeP now m).2)), (20, .ref 3 4 0 0), (19, VI ((b.takeP now n).2)), (18, .ref 2 4 0 0), (4, VI n), (5, VI m)], [some ⟨4, [[VI b.level, VI b.now, VI b.burst, VI b.rate]]⟩, some ⟨4, [[VI level, VI b.now, VI b.burst, VI rate]]⟩, some ⟨4, [[VI (((b.takeP now n).1).level), VI (((b.takeP now n).1).now), VI (((b.takeP now n).1).burst), VI (((b.takeP now n).1).rate)]]⟩, some ⟨4, [[VI (((b.takeP now m).1).level), VI (((b.takeP now m).1).now), VI (((b.takeP now m).1).burst), VI (((b.takeP now m).1).rate)]]⟩]⟩) (by kernel_rfl) (by kernel_rfl) ?_
      refine EL.seq ?_
      refine EL.sreg ?_
      refine OW.run 3 (x' := ⟨[(80, .v (.bool (((b.takeP now n).2) != 0))), (79, .v (.bool (((b.takeP now n).2) != 0))), (78, VI ((b.takeP now n).2)), (21, VI ((b.takeP now m).2)), (20, .ref 3 4 0 0), (19, VI ((b.takeP now n).2)), (18, .ref 2 4 0 0), (4, VI n), (5, VI m)], [some ⟨4, [[VI b.level, VI b.now, VI b.burst, VI b.rate]]⟩, some ⟨4, [[VI level, VI b.now, VI b.burst, VI rate]]⟩, some ⟨4, [[VI (((b.takeP now n).1).level), VI (((b.takeP now n).1).now), VI (((b.takeP now n).1).burst), VI (((b.takeP now n).1).rate)]]⟩, some ⟨4, [[VI (((b.takeP now m).1).level), VI (((b.takeP now m).1).now), VI (((b.takeP now m).1).burst), VI (((b.takeP now m).1).rate)]]⟩]⟩) (by kernel_rfl) ?_
      rcases Bool.eq_false_or_eq_true ((((b.takeP now n).2) != 0)) with h24 | h24
      · rw [h24]
        have g24 : ¬ (((b.takeP now n).2) = 0) := by simpa using h24
        refine OW.last 8 [4, 5, 18, 20, 21, 88] (x' := ⟨[(88, .v (.bool true)), (21, VI ((b.takeP now m).2)), (20, .ref 3 4 0 0), (18, .ref 2 4 0 0), (4, VI n), (5, VI m)], [some ⟨4, [[VI b.level, VI b.now, VI b.burst, VI b.rate]]⟩, some ⟨4, [[VI level, VI b.now, VI b.burst, VI rate]]⟩, some ⟨4, [[VI (((b.takeP now n).1).level), VI (((b.takeP now n).1).now), VI (((b.takeP now n).1).burst), VI (((b.takeP now n).1).rate)]]⟩, some ⟨4, [[VI (((b.takeP now m).1).level), VI (((b.takeP now m).1).now), VI (((b.takeP now m).1).burst), VI (((b.takeP now m).1).rate)]]⟩]⟩) (by kernel_rfl) (by kernel_rfl) ?_
        refine EL.condT (by kernel_rfl) ?_
        refine EL.sreg ?_
        refine OW.last 1 [12] (x' := ⟨[(12, .v (.bool true))], [some ⟨4, [[VI b.level, VI b.now, VI b.burst, VI b.rate]]⟩, some ⟨4, [[VI level, VI b.now, VI b.burst, VI rate]]⟩, some ⟨4, [[VI (((b.takeP now n).1).level), VI (((b.takeP now n).1).now), VI (((b.takeP now n).1).burst), VI (((b.takeP now n).1).rate)]]⟩, some ⟨4, [[VI (((b.takeP now m).1).level), VI (((b.takeP now m).1).now), VI (((b.takeP now m).1).burst), VI (((b.takeP now m).1).rate)]]⟩]⟩) (by kernel_rfl) (by kernel_rfl) ?_
        refine EL.ret ?_
        refine thenL_ret ?_
        refine ⟨.inr rfl, .v (.bool true), by kernel_rfl, Ale.of_eq ?_⟩
        first | rfl | (exfalso; have hm := Bucket.more (b := b) (c := ⟨level, b.now, b.burst, rate⟩) (now := now) ⟨rfl, rfl⟩ (by omega) (by omega) (by simp only; omega) (by simp only; omega); omega) | (have ht := Bucket.take_less (b := b) (t := now) (n := n) (m := m) (by omega) (by omega) (by omega); refine congrArg (fun b => AV.v (Value.bool b)) ?_; simp [ht]; done) | (exfalso; have ht := Bucket.take_less (b := b) (t := now) (n := n) (m := m) (by omega) (by omega) (by omega); omega) | trace_state
      · rw [h24]
        have g24 : (((b.takeP now n).2) = 0) := by simpa using h24
        refine OW.run 4 (x' := ⟨[(84, .v (.bool (decide (m < 0)))), (83, .v (.bool (decide (m < 0)))), (82, .v (.bool (decide (m < 0)))), (81, VI m), (80, .v (.bool false)), (79, .v (.bool false)), (78, VI ((b.takeP now n).2)), (21, VI ((b.takeP now m).2)), (20, .ref 3 4 0 0), (19, VI ((b.takeP now n).2)), (18, .ref 2 4 0 0), (4, VI n), (5, VI m)], [some ⟨4, [[VI b.level, VI b.now, VI b.burst, VI b.rate]]⟩, some ⟨4, [[VI level, VI b.now, VI b.burst, VI rate]]⟩, some ⟨4, [[VI (((b.takeP now n).1).level), VI (((b.takeP now n).1).now), VI (((b.takeP now n).1).burst), VI (((b.takeP now n).1).rate)]]⟩, some ⟨4, [[VI (((b.takeP now m).1).level), VI (((b.takeP now m).1).now), VI (((b.takeP now m).1).burst), VI (((b.takeP now m).1).rate)]]⟩]⟩) (by kernel_rfl) ?_
        rcases Bool.eq_false_or_eq_true (decide (m < 0)) with h25 | h25
        · rw [h25]
          have g25 : (m < 0) := of_decide_eq_true h25
          refine OW.last 4 [4, 5, 18, 20, 21, 88] (x' := ⟨[(88, .v (.bool true)), (21, VI ((b.takeP now m).2)), (20, .ref 3 4 0 0), (18, .ref 2 4 0 0), (4, VI n), (5, VI m)], [some ⟨4, [[VI b.level, VI b.now, VI b.burst, VI b.rate]]⟩, some ⟨4, [[VI level, VI b.now, VI b.burst, VI rate]]⟩, some ⟨4, [[VI (((b.takeP now n).1).level), VI (((b.takeP now n).1).now), VI (((b.takeP now n).1).burst), VI (((b.takeP now n).1).rate)]]⟩, some ⟨4, [[VI (((b.takeP now m).1).level), VI (((b.takeP now m).1).now), VI (((b.takeP now m).1).burst), VI (((b.takeP now m).1).rate)]]⟩]⟩) (by kernel_rfl) (by kernel_rfl) ?_
          refine EL.condT (by kernel_rfl) ?_
          refine EL.sreg ?_
          refine OW.last 1 [12] (x' := ⟨[(12, .v (.bool true))], [some ⟨4, [[VI b.level, VI b.now, VI b.burst, VI b.rate]]⟩, some ⟨4, [[VI level, VI b.now, VI b.burst, VI rate]]⟩, some ⟨4, [[VI (((b.takeP now n).1).level), VI (((b.takeP now n).1).now), VI (((b.takeP now n).1).burst), VI (((b.takeP now n).1).rate)]]⟩, some ⟨4, [[VI (((b.takeP now m).1).level), VI (((b.takeP now m).1).now), VI (((b.takeP now m).1).burst), VI (((b.takeP now m).1).rate)]]⟩]⟩) (by kernel_rfl) (by kernel_rfl) ?_
          refine EL.ret ?_
          refine thenL_ret ?_
          refine ⟨.inr rfl, .v (.bool true), by kernel_rfl, Ale.of_eq ?_⟩
          first | rfl | (exfalso; have hm := Bucket.more (b := b) (c := ⟨level, b.now, b.burst, rate⟩) (now := now) ⟨rfl, rfl⟩ (by omega) (by omega) (by simp only; omega) (by simp only; omega); omega) | (have ht := Bucket.take_less (b := b) (t := now) (n := n) (m := m) (by omega) (by omega) (by omega); refine congrArg (fun b => AV.v (Value.bool b)) ?_; simp [ht]; done) | (exfalso; have ht := Bucket.take_less (b := b) (t := now) (n := n) (m := m) (by omega) (by omega) (by omega); omega) | trace_state
        · rw [h25]
          have g25 : ¬ (m < 0) := of_decide_eq_false h25
          refine OW.last 4 [4, 5, 18, 20, 21, 88] (x' := ⟨[(88, .v (.bool (decide (m > n)))), (21, VI ((b.takeP now m).2)), (20, .ref 3 4 0 0), (18, .ref 2 4 0 0), (4, VI n), (5, VI m)], [some ⟨4, [[VI b.level, VI b.now, VI b.burst, VI b.rate]]⟩, some ⟨4, [[VI level, VI b.now, VI b.burst, VI rate]]⟩, some ⟨4, [[VI (((b.takeP now n).1).level), VI (((b.takeP now n).1).now), VI (((b.takeP now n).1).burst), VI (((b.takeP now n).1).rate)]]⟩, some ⟨4, [[VI (((b.takeP now m).1).level), VI (((b.takeP now m).1).now), VI (((b.takeP now m).1).burst), VI (((b.takeP now m).1).rate)]]⟩]⟩) (by kernel_rfl) (by kernel_rfl) ?_
          rcases Bool.eq_false_or_eq_true (decide (m > n)) with h26 | h26
          · rw [h26]
            have g26 : (m > n) := of_decide_eq_true h26
            refine EL.condT (by kernel_rfl) ?_
            refine EL.sreg ?_
            refine OW.last 1 [12] (x' := ⟨[(12, .v (.bool true))], [some ⟨4, [[VI b.level, VI b.now, VI b.burst, VI b.rate]]⟩, some ⟨4, [[VI level, VI b.now, VI b.burst, VI rate]]⟩, some ⟨4, [[VI (((b.takeP now n).1).level), VI (((b.takeP now n).1).now), VI (((b.takeP now n).1).burst), VI (((b.takeP now n).1).rate)]]⟩, some ⟨4, [[VI (((b.takeP now m).1).level), VI (((b.takeP now m).1).now), VI (((b.takeP now m).1).burst), VI (((b.takeP now m).1).rate)]]⟩]⟩) (by kernel_rfl) (by kernel_rfl) ?_
            refine EL.ret ?_
            refine thenL_ret ?_
            refine ⟨.inr rfl, .v (.bool true), by kernel_rfl, Ale.of_eq ?_⟩
            first | rfl | (exfalso; have hm := Bucket.more (b := b) (c := ⟨level, b.now, b.burst, rate⟩) (now := now) ⟨rfl, rfl⟩ (by omega) (by omega) (by simp only; omega) (by simp only; omega); omega) | (have ht := Bucket.take_less (b := b) (t := now) (n := n) (m := m) (by omega) (by omega) (by omega); refine congrArg (fun b => AV.v (Value.bool b)) ?_; simp [ht]; done) | (exfalso; have ht := Bucket.take_less (b := b) (t := now) (n := n) (m := m) (by omega) (by omega) (by omega); omega) | trace_state
          · rw [h26]
            have g26 : ¬ (m > n) := of_decide_eq_false h26
            refine EL.condF (by kernel_rfl) ?_
            refine EL.skip ?_
            refine thenL_norm ?_
            refine EL.sreg ?_
            refine OW.run 3 (x' := ⟨[(91, .v (.bool (((b.takeP now m).2) == 0))), (90, .v (.bool (((b.takeP now m).2) == 0))), (89, VI ((b.takeP now m).2)), (88, .v (.bool false)), (21, VI ((b.takeP now m).2)), (20, .ref 3 4 0 0), (18, .ref 2 4 0 0), (4, VI n), (5, VI m)], [some ⟨4, [[VI b.level, VI b.now, VI b.burst, VI b.rate]]⟩, some ⟨4, [[VI level, VI b.now, VI b.burst, VI rate]]⟩, some ⟨4, [[VI (((b.takeP now n).1).level), VI (((b.takeP now n).1).now), VI (((b.takeP now n).1).burst), VI (((b.takeP now n).1).rate)]]⟩, some ⟨4, [[VI (((b.takeP now m).1).level), VI (((b.takeP now m).1).now), VI (((b.takeP now m).1).burst), VI (((b.takeP now m).1).rate)]]⟩]⟩) (by kernel_rfl) ?_
            rcases Bool.eq_false_or_eq_true ((((b.takeP now m).2) == 0)) with h27 | h27
            · rw [h27]
              have g27 : (((b.takeP now m).2) = 0) := by simpa using h27
              refine OW.run 11 (x' := ⟨[(12, .v (.bool ((((b.takeP now m).1).level) == IntKind.i64.wrap ((IntKind.i64.wrap ((((b.takeP now n).1).level) + n)) - m)))), (101, .v (.bool ((((b.takeP now m).1).level) == IntKind.i64.wrap ((IntKind.i64.wrap ((((b.takeP now n).1).level) + n)) - m)))), (100, .v (.bool ((((b.takeP now m).1).level) == IntKind.i64.wrap ((IntKind.i64.wrap ((((b.takeP now n).1).level) + n)) - m)))), (99, VI (IntKind.i64.wrap ((IntKind.i64.wrap ((((b.takeP now n).1).level) + n)) - m))), (98, VI m), (97, VI (IntKind.i64.wrap ((((b.takeP now n).1).level) + n))), (96, VI n), (95, VI (((b.takeP now n).1).level)), (94, .ref 2 4 0 0), (93, VI (((b.takeP now m).1).level)), (92, .ref 3 4 0 0), (91, .v (.bool true)), (90, .v (.bool true)), (89, VI ((b.takeP now m).2)), (88, .v (.bool false)), (21, VI ((b.takeP now m).2)), (20, .ref 3 4 0 0), (18, .ref 2 4 0 0), (4, VI n), (5, VI m)], [some ⟨4, [[VI b.level, VI b.now, VI b.burst, VI b.rate]]⟩, some ⟨4, [[VI level, VI b.now, VI b.burst, VI rate]]⟩, some ⟨4, [[VI (((b.takeP now n).1).level), VI (((b.takeP now n).1).now), VI (((b.takeP now n).1).burst), VI (((b.takeP now n).1).rate)]]⟩, some ⟨4, [[VI (((b.takeP now m).1).level), VI (((b.takeP now m).1).now), VI (((b.takeP now m).1).burst), VI (((b.takeP now m).1).rate)]]⟩]⟩) (by kernel_rfl) ?_
              have e28 : IntKind.i64.wrap ((((b.takeP now n).1).level) + n) = (((b.takeP now n).1).level) + n := wr64 (by have ht := Bucket.take_bd (b := b) (now := now) (n := n) (by omega); omega)
              rw [e28]
              have e29 : IntKind.i64.wrap (((((b.takeP now n).1).level) + n) - m) = ((((b.takeP now n).1).level) + n) - m := wr64 (by have ht := Bucket.take_bd (b := b) (now := now) (n := n) (by omega); omega)
              rw [e29]
              refine OW.last 0 [12] (x' := ⟨[(12, .v (.bool ((((b.takeP now m).1).level) == (((((b.takeP now n).1).level) + n) - m))))], [some ⟨4, [[VI b.level, VI b.now, VI b.burst, VI b.rate]]⟩, some ⟨4, [[VI level, VI b.now, VI b.burst, VI rate]]⟩, some ⟨4, [[VI (((b.takeP now n).1).level), VI (((b.takeP now n).1).now), VI (((b.takeP now n).1).burst), VI (((b.takeP now n).1).rate)]]⟩, some ⟨4, [[VI (((b.takeP now m).1).level), VI (((b.takeP now m).1).now), VI (((b.takeP now m).1).burst), VI (((b.takeP now m).1).rate)]]⟩]⟩) (by kernel_rfl) (by kernel_rfl) ?_
              refine EL.ret ?_
              refine ⟨.inr rfl, .v (.bool ((((b.takeP now m).1).level) == (((((b.takeP now n).1).level) + n) - m))), by kernel_rfl, Ale.of_eq ?_⟩
              first | rfl | (exfalso; have hm := Bucket.more (b := b) (c := ⟨level, b.now, b.burst, rate⟩) (now := now) ⟨rfl, rfl⟩ (by omega) (by omega) (by simp only; omega) (by simp only; omega); omega) | (have ht := Bucket.take_less (b := b) (t := now) (n := n) (m := m) (by omega) (by omega) (by omega); refine congrArg (fun b => AV.v (Value.bool b)) ?_; simp [ht]; done) | (exfalso; have ht := Bucket.take_less (b := b) (t := now) (n := n) (m := m) (by omega) (by omega) (by omega); omega) | trace_state
            · rw [h27]
              have g27 : ¬ (((b.takeP now m).2) = 0) := by simpa using h27
              refine OW.last 11 [12] (x' := ⟨[(12, .v (.bool false))], [some ⟨4, [[VI b.level, VI b.now, VI b.burst, VI b.rate]]⟩, some ⟨4, [[VI level, VI b.now, VI b.burst, VI rate]]⟩, some ⟨4, [[VI (((b.takeP now n).1).level), VI (((b.takeP now n).1).now), VI (((b.takeP now n).1).burst), VI (((b.takeP now n).1).rate)]]⟩, some ⟨4, [[VI (((b.takeP now m).1).level), VI (((b.takeP now m).1).now), VI (((b.takeP now m).1).burst), VI (((b.takeP now m).1).rate)]]⟩]⟩) (by kernel_rfl) (by kernel_rfl) ?_
              refine EL.ret ?_
              refine ⟨.inr rfl, .v (.bool false), by kernel_rfl, Ale.of_eq ?_⟩
              first | rfl | (exfalso; have hm := Bucket.more (b := b) (c := ⟨level, b.now, b.burst, rate⟩) (now := now) ⟨rfl, rfl⟩ (by omega) (by omega) (by simp only; omega) (by simp only; omega); omega) | (have ht := Bucket.take_less (b := b) (t := now) (n := n) (m := m) (by omega) (by omega) (by omega); refine congrArg (fun b => AV.v (Value.bool b)) ?_; simp [ht]; done) | (exfalso; have ht := Bucket.take_less (b := b) (t := now) (n := n) (m := m) (by omega) (by omega) (by omega); omega) | trace_state
  · rw [h1]
    have g1 : ¬ (((b.levelP now).2) = 0) := by simpa using h1
    refine OW.last 20 [3, 4, 5, 6, 63] (x' := ⟨[(63, .v (.bool false)), (6, .ref 0 4 0 0), (3, VI now), (4, VI n), (5, VI m)], [some ⟨4, [[VI b.level, VI b.now, VI b.burst, VI b.rate]]⟩, some ⟨4, [[VI level, VI b.now, VI b.burst, VI rate]]⟩]⟩) (by kernel_rfl) (by kernel_rfl) ?_
    refine EL.condF (by kernel_rfl) ?_
    refine EL.skip ?_
    refine thenL_norm ?_
    refine EL.sreg ?_
    refine OW.run 3 (x' := ⟨[(67, VI n), (66, VI now), (65, .agg [VI b.level, VI b.now, VI b.burst, VI b.rate]), (63, .v (.bool false)), (6, .ref 0 4 0 0), (3, VI now), (4, VI n), (5, VI m)], [some ⟨4, [[VI b.level, VI b.now, VI b.burst, VI b.rate]]⟩, some ⟨4, [[VI level, VI b.now, VI b.burst, VI rate]]⟩]⟩) (by kernel_rfl) ?_
    refine OW.fn (ar := [.agg [VI b.level, VI b.now, VI b.burst, VI b.rate], VI now, VI n]) (x' := ⟨[(68, .tup [.agg [VI (((b.takeP now n).1).level), VI (((b.takeP now n).1).now), VI (((b.takeP now n).1).burst), VI (((b.takeP now n).1).rate)], VI ((b.takeP now n).2)]), (67, VI n), (66, VI now), (65, .agg [VI b.level, VI b.now, VI b.burst, VI b.rate]), (63, .v (.bool false)), (6, .ref 0 4 0 0), (3, VI now), (4, VI n), (5, VI m)], [some ⟨4, [[VI b.level, VI b.now, VI b.burst, VI b.rate]]⟩, some ⟨4, [[VI level, VI b.now, VI b.burst, VI rate]]⟩]⟩) (by kernel_rfl) (by kernel_rfl) F10_call (take_fn b now n) (by kernel_rfl) (by kernel_rfl) ?_
    refine OW.last 6 [3, 4, 5, 6, 18, 19] (x' := ⟨[(19, VI ((b.takeP now n).2)), (18, .ref 2 4 0 0), (6, .ref 0 4 0 0), (3, VI now), (4, VI n), (5, VI m)], [some ⟨4, [[VI b.level, VI b.now, VI b.burst, VI b.rate]]⟩, some ⟨4, [[VI level, VI b.now, VI b.burst, VI rate]]⟩, some ⟨4, [[VI (((b.takeP now n).1).level), VI (((b.takeP now n).1).now), VI (((b.takeP now n).1).burst), VI (((b.takeP now n).1).rate)]]⟩]⟩) (by kernel_rfl) (by kernel_rfl) ?_
    refine EL.sreg ?_
    refine OW.run 3 (x' := ⟨[(74, VI m), (73, VI now), (72, .agg [VI b.level, VI b.now, VI b.burst, VI b.rate]), (19, VI ((b.takeP now n).2)), (18, .ref 2 4 0 0), (6, .ref 0 4 0 0), (3, VI now), (4, VI n), (5, VI m)], [some ⟨4, [[VI b.level, VI b.now, VI b.burst, VI b.rate]]⟩, some ⟨4, [[VI level, VI b.now, VI b.burst, VI rate]]⟩, some ⟨4, [[VI (((b.takeP now n).1).level), VI (((b.takeP now n).1).now), VI (((b.takeP now n).1).burst), VI (((b.takeP now n).1).rate)]]⟩]⟩) (by kernel_rfl) ?_
    refine OW.fn (ar := [.agg [VI b.level, VI b.now, VI b.burst, VI b.rate], VI now, VI m]) (x' := ⟨[(75, .tup [.agg [VI (((b.takeP now m).1).level), VI (((b.takeP now m).1).now), VI (((b.takeP now m).1).burst), VI (((b.takeP now m).1).rate)], VI ((b.takeP now m).2)]), (74, VI m), (73, VI now), (72, .agg [VI b.level, VI b.now, VI b.burst, VI b.rate]), (19, VI ((b.takeP now n).2)), (18, .ref 2 4 0 0), (6, .ref 0 4 0 0), (3, VI now), (4, VI n), (5, VI m)], [some ⟨4, [[VI b.level, VI b.now, VI b.burst, VI b.rate]]⟩, some ⟨4, [[VI level, VI b.now, VI b.burst, VI rate]]⟩, some ⟨4, [[VI (((b.takeP now n).1).level), VI (((b.takeP now n).1).now), VI (((b.takeP now n).1).burst), VI (((b.takeP now n).1).rate)]]⟩]⟩) (by kernel_rfl) (by kernel_rfl) F10_call (take_fn b now m) (by kernel_rfl) (by kernel_rfl) ?_
    refine OW.last 6 [4, 5, 18, 19, 20, 21] (x' := ⟨[(21, VI ((b.takeP now m).2)), (20, .ref 3 4 0 0), (19, VI ((b.takeP now n).2)), (18, .ref 2 4 0 0), (4, VI n), (5, VI m)], [some ⟨4, [[VI b.level, VI b.now, VI b.burst, VI b.rate]]⟩, some ⟨4, [[VI level, VI b.now, VI b.burst, VI rate]]⟩, some ⟨4, [[VI (((b.takeP now n).1).level), VI (((b.takeP now n).1).now), VI (((b.takeP now n).1).burst), VI (((b.takeP now n).1).rate)]]⟩, some ⟨4, [[VI (((b.takeP now m).1).level), VI (((b.takeP now m).1).now), VI (((b.takeP now m).1).burst), VI (((b.takeP now m).1).rate)]]⟩]⟩) (by kernel_rfl) (by kernel_rfl) ?_
    refine EL.seq ?_
    refine EL.sreg ?_
    refine OW.run 3 (x' := ⟨[(80, .v (.bool (((b.takeP now n).2) != 0))), (79, .v (.bool (((b.takeP now n).2) != 0))), (78, VI ((b.takeP now n).2)), (21, VI ((b.takeP now m).2)), (20, .ref 3 4 0 0), (19, VI ((b.takeP now n).2)), (18, .ref 2 4 0 0), (4, VI n), (5, VI m)], [some ⟨4, [[VI b.level, VI b.now, VI b.burst, VI b.rate]]⟩, some ⟨4, [[VI level, VI b.now, VI b.burst, VI rate]]⟩, some ⟨4, [[VI (((b.takeP now n).1).level), VI (((b.takeP now n).1).now), VI (((b.takeP now n).1).burst), VI (((b.takeP now n).1).rate)]]⟩, some ⟨4, [[VI (((b.takeP now m).1).level), VI (((b.takeP now m).1).now), VI (((b.takeP now m).1).burst), VI (((b.takeP now m).1).rate)]]⟩]⟩) (by kernel_rfl) ?_
    rcases Bool.eq_false_or_eq_true ((((b.takeP now n).2) != 0)) with h30 | h30
    · rw [h30]
      have g30 : ¬ (((b.takeP now n).2) = 0) := by simpa using h30
      refine OW.last 8 [4, 5, 18, 20, 21, 88] (x' := ⟨[(88, .v (.bool true)), (21, VI ((b.takeP now m).2)), (20, .ref 3 4 0 0), (18, .ref 2 4 0 0), (4, VI n), (5, VI m)], [some ⟨4, [[VI b.level, VI b.now, VI b.burst, VI b.rate]]⟩, some ⟨4, [[VI level, VI b.now, VI b.burst, VI rate]]⟩, some ⟨4, [[VI (((b.takeP now n).1).level), VI (((b.takeP now n).1).now), VI (((b.takeP now n).1).burst), VI (((b.takeP now n).1).rate)]]⟩, some ⟨4, [[VI (((b.takeP now m).1).level), VI (((b.takeP now m).1).now), VI (((b.takeP now m).1).burst), VI (((b.takeP now m).1).rate)]]⟩]⟩) (by kernel_rfl) (by kernel_rfl) ?_
      refine EL.condT (by kernel_rfl) ?_
      refine EL.sreg ?_
      refine OW.last 1 [12] (x' := ⟨[(12, .v (.bool true))], [some ⟨4, [[VI b.level, VI b.now, VI b.burst, VI b.rate]]⟩, some ⟨4, [[VI level, VI b.now, VI b.burst, VI rate]]⟩, some ⟨4, [[VI (((b.takeP now n).1).level), VI (((b.takeP now n).1).now), VI (((b.takeP now n).1).burst), VI (((b.takeP now n).1).rate)]]⟩, some ⟨4, [[VI (((b.takeP now m).1).level), VI (((b.takeP now m).1).now), VI (((b.takeP now m).1).burst), VI (((b.takeP now m).1).rate)]]⟩]⟩) (by kernel_rfl) (by kernel_rfl) ?_
      refine EL.ret ?_
      refine thenL_ret ?_
      refine ⟨.inr rfl, .v (.bool true), by kernel_rfl, Ale.of_eq ?_⟩
      first | rfl | (exfalso; have hm := Bucket.more (b := b) (c := ⟨level, b.now, b.burst, rate⟩) (now := now) ⟨rfl, rfl⟩ (by omega) (by omega) (by simp only; omega) (by simp only; omega); omega) | (have ht := Bucket.take_less (b := b) (t := now) (n := n) (m := m) (by omega) (by omega) (by omega); refine congrArg (fun b => AV.v (Value.bool b)) ?_; simp [ht]; done) | (exfalso; have ht := Bucket.take_less (b := b) (t := now) (n := n) (m := m) (by omega) (by omega) (by omega); omega) | trace_state
    · rw [h30]
      have g30 : (((b.takeP now n).2) = 0) := by simpa using h30
      refine OW.run 4 (x' := ⟨[(84, .v (.bool (decide (m < 0)))), (83, .v (.bool (decide (m < 0)))), (82, .v (.bool (decide (m < 0)))), (81, VI m), (80, .v (.bool false)), (79, .v (.bool false)), (78, VI ((b.takeP now n).2)), (21, VI ((b.takeP now m).2)), (20, .ref 3 4 0 0), (19, VI ((b.takeP now n).2)), (18, .ref 2 4 0 0), (4, VI n), (5, VI m)], [some ⟨4, [[VI b.level, VI b.now, VI b.burst, VI b.rate]]⟩, some ⟨4, [[VI level, VI b.now, VI b.burst, VI rate]]⟩, some ⟨4, [[VI (((b.takeP now n).1).level), VI (((b.takeP now n).1).now), VI (((b.takeP now n).1).burst), VI (((b.takeP now n).1).rate)]]⟩, some ⟨4, [[VI (((b.takeP now m).1).level), VI (((b.takeP now m).1).now), VI (((b.takeP now m).1).burst), VI (((b.takeP now m).1).rate)]]⟩]⟩) (by kernel_rfl) ?_
      rcases Bool.eq_false_or_eq_true (decide (m < 0)) with h31 | h31
      · rw [h31]
        have g31 : (m < 0) := of_decide_eq_true h31
        refine OW.last 4 [4, 5, 18, 20, 21, 88] (x' := ⟨[(88, .v (.bool true)), (21, VI ((b.takeP now m).2)), (20, .ref 3 4 0 0), (18, .ref 2 4 0 0), (4, VI n), (5, VI m)], [some ⟨4, [[VI b.level, VI b.now, VI b.burst, VI b.rate]]⟩, some ⟨4, [[VI level, VI b.now, VI b.burst, VI rate]]⟩, some ⟨4, [[VI (((b.takeP now n).1).level), VI (((b.takeP now n).1).now), VI (((b.takeP now n).1).burst), VI (((b.takeP now n).1).rate)]]⟩, some ⟨4, [[VI (((b.takeP now m).1).level), VI (((b.takeP now m).1).now), VI (((b.takeP now m).1).burst), VI (((b.takeP now m).1).rate)]]⟩]⟩) (by kernel_rfl) (by kernel_rfl) ?_
        refine EL.condT (by kernel_rfl) ?_
        refine EL.sreg ?_
        refine OW.last 1 [12] (x' := ⟨[(12, .v (.bool true))], [some ⟨4, [[VI b.level, VI b.now, VI b.burst, VI b.rate]]⟩, some ⟨4, [[VI level, VI b.now, VI b.burst, VI rate]]⟩, some ⟨4, [[VI (((b.takeP now n).1).level), VI (((b.takeP now n).1).now), VI (((b.takeP now n).1).burst), VI (((b.takeP now n).1).rate)]]⟩, some ⟨4, [[VI (((b.takeP now m).1).level), VI (((b.takeP now m).1).now), VI (((b.takeP now m).1).burst), VI (((b.takeP now m).1).rate)]]⟩]⟩) (by kernel_rfl) (by kernel_rfl) ?_
        refine EL.ret ?_
        refine thenL_ret ?_
        refine ⟨.inr rfl, .v (.bool true), by kernel_rfl, Ale.of_eq ?_⟩
        first | rfl | (exfalso; have hm := Bucket.more (b := b) (c := ⟨level, b.now, b.burst, rate⟩) (now := now) ⟨rfl, rfl⟩ (by omega) (by omega) (by simp only; omega) (by simp only; omega); omega) | (have ht := Bucket.take_less (b := b) (t := now) (n := n) (m := m) (by omega) (by omega) (by omega); refine congrArg (fun b => AV.v (Value.bool b)) ?_; simp [ht]; done) | (exfalso; have ht := Bucket.take_less (b := b) (t := now) (n := n) (m := m) (by omega) (by omega) (by omega); omega) | trace_state
      · rw [h31]
        have g31 : ¬ (m < 0) := of_decide_eq_false h31
        refine OW.last 4 [4, 5, 18, 20, 21, 88] (x' := ⟨[(88, .v (.bool (decide (m > n)))), (21, VI ((b.takeP now m).2)), (20, .ref 3 4 0 0), (18, .ref 2 4 0 0), (4, VI n), (5, VI m)], [some ⟨4, [[VI b.level, VI b.now, VI b.burst, VI b.rate]]⟩, some ⟨4, [[VI level, VI b.now, VI b.burst, VI rate]]⟩, some ⟨4, [[VI (((b.takeP now n).1).level), VI (((b.takeP now n).1).now), VI (((b.takeP now n).1).burst), VI (((b.takeP now n).1).rate)]]⟩, some ⟨4, [[VI (((b.takeP now m).1).level), VI (((b.takeP now m).1).now), VI (((b.takeP now m).1).burst), VI (((b.takeP now m).1).rate)]]⟩]⟩) (by kernel_rfl) (by kernel_rfl) ?_
        rcases Bool.eq_false_or_eq_true (decide (m > n)) with h32 | h32
        · rw [h32]
          have g32 : (m > n) := of_decide_eq_true h32
          refine EL.condT (by kernel_rfl) ?_
          refine EL.sreg ?_
          refine OW.last 1 [12] (x' := ⟨[(12, .v (.bool true))], [some ⟨4, [[VI b.level, VI b.now, VI b.burst, VI b.rate]]⟩, some ⟨4, [[VI level, VI b.now, VI b.burst, VI rate]]⟩, some ⟨4, [[VI (((b.takeP now n).1).level), VI (((b.takeP now n).1).now), VI (((b.takeP now n).1).burst), VI (((b.takeP now n).1).rate)]]⟩, some ⟨4, [[VI (((b.takeP now m).1).level), VI (((b.takeP now m).1).now), VI (((b.takeP now m).1).burst), VI (((b.takeP now m).1).rate)]]⟩]⟩) (by kernel_rfl) (by kernel_rfl) ?_
          refine EL.ret ?_
          refine thenL_ret ?_
          refine ⟨.inr rfl, .v (.bool true), by kernel_rfl, Ale.of_eq ?_⟩
          first | rfl | (exfalso; have hm := Bucket.more (b := b) (c := ⟨level, b.now, b.burst, rate⟩) (now := now) ⟨rfl, rfl⟩ (by omega) (by omega) (by simp only; omega) (by simp only; omega); omega) | (have ht := Bucket.take_less (b := b) (t := now) (n := n) (m := m) (by omega) (by omega) (by omega); refine congrArg (fun b => AV.v (Value.bool b)) ?_; simp [ht]; done) | (exfalso; have ht := Bucket.take_less (b := b) (t := now) (n := n) (m := m) (by omega) (by omega) (by omega); omega) | trace_state
        · rw [h32]
          have g32 : ¬ (m > n) := of_decide_eq_false h32
          refine EL.condF (by kernel_rfl) ?_
          refine EL.skip ?_
          refine thenL_norm ?_
          refine EL.sreg ?_
          refine OW.run 3 (x' := ⟨[(91, .v (.bool (((b.takeP now m).2) == 0))), (90, .v (.bool (((b.takeP now m).2) == 0))), (89, VI ((b.takeP now m).2)), (88, .v (.bool false)), (21, VI ((b.takeP now m).2)), (20, .ref 3 4 0 0), (18, .ref 2 4 0 0), (4, VI n), (5, VI m)], [some ⟨4, [[VI b.level, VI b.now, VI b.burst, VI b.rate]]⟩, some ⟨4, [[VI level, VI b.now, VI b.burst, VI rate]]⟩, some ⟨4, [[VI (((b.takeP now n).1).level), VI (((b.takeP now n).1).now), VI (((b.takeP now n).1).burst), VI (((b.takeP now n).1).rate)]]⟩, some ⟨4, [[VI (((b.takeP now m).1).level), VI (((b.takeP now m).1).now), VI (((b.takeP now m).1).burst), VI (((b.takeP now m).1).rate)]]⟩]⟩) (by kernel_rfl) ?_
          rcases Bool.eq_false_or_eq_true ((((b.takeP now m).2) == 0)) with h33 | h33
          · rw [h33]
            have g33 : (((b.takeP now m).2) = 0) := by simpa using h33
            refine OW.run 11 (x' := ⟨[(12, .v (.bool ((((b.takeP now m).1).level) == IntKind.i64.wrap ((IntKind.i64.wrap ((((b.takeP now n).1).level) + n)) - m)))), (101, .v (.bool ((((b.takeP now m).1).level) == IntKind.i64.wrap ((IntKind.i64.wrap ((((b.takeP now n).1).level) + n)) - m)))), (100, .v (.bool ((((b.takeP now m).1).level) == IntKind.i64.wrap ((IntKind.i64.wrap ((((b.takeP now n).1).level) + n)) - m)))), (99, VI (IntKind.i64.wrap ((IntKind.i64.wrap ((((b.takeP now n).1).level) + n)) - m))), (98, VI m), (97, VI (IntKind.i64.wrap ((((b.takeP now n).1).level) + n))), (96, VI n), (95, VI (((b.takeP now n).1).level)), (94, .ref 2 4 0 0), (93, VI (((b.takeP now m).1).level)), (92, .ref 3 4 0 0), (91, .v (.bool true)), (90, .v (.bool true)), (89, VI ((b.takeP now m).2)), (88, .v (.bool false)), (21, VI ((b.takeP now m).2)), (20, .ref 3 4 0 0), (18, .ref 2 4 0 0), (4, VI n), (5, VI m)], [some ⟨4, [[VI b.level, VI b.now, VI b.burst, VI b.rate]]⟩, some ⟨4, [[VI level, VI b.now, VI b.burst, VI rate]]⟩, some ⟨4, [[VI (((b.takeP now n).1).level), VI (((b.takeP now n).1).now), VI (((b.takeP now n).1).burst), VI (((b.takeP now n).1).rate)]]⟩, some ⟨4, [[VI (((b.takeP now m).1).level), VI (((b.takeP now m).1).now), VI (((b.takeP now m).1).burst), VI (((b.takeP now m).1).rate)]]⟩]⟩) (by kernel_rfl) ?_
            have e34 : IntKind.i64.wrap ((((b.takeP now n).1).level) + n) = (((b.takeP now n).1).level) + n := wr64 (by have ht := Bucket.take_bd (b := b) (now := now) (n := n) (by omega); omega)
            rw [e34]
            have e35 : IntKind.i64.wrap (((((b.takeP now n).1).level) + n) - m) = ((((b.takeP now n).1).level) + n) - m := wr64 (by have ht := Bucket.take_bd (b := b) (now := now) (n := n) (by omega); omega)
            rw [e35]
            refine OW.last 0 [12] (x' := ⟨[(12, .v (.bool ((((b.takeP now m).1).level) == (((((b.takeP now n).1).level) + n) - m))))], [some ⟨4, [[VI b.level, VI b.now, VI b.burst, VI b.rate]]⟩, some ⟨4, [[VI level, VI b.now, VI b.burst, VI rate]]⟩, some ⟨4, [[VI (((b.takeP now n).1).level), VI (((b.takeP now n).1).now), VI (((b.takeP now n).1).burst), VI (((b.takeP now n).1).rate)]]⟩, some ⟨4, [[VI (((b.takeP now m).1).level), VI (((b.takeP now m).1).now), VI (((b.takeP now m).1).burst), VI (((b.takeP now m).1).rate)]]⟩]⟩) (by kernel_rfl) (by kernel_rfl) ?_
            refine EL.ret ?_
            refine ⟨.inr rfl, .v (.bool ((((b.takeP now m).1).level) == (((((b.takeP now n).1).level) + n) - m))), by kernel_rfl, Ale.of_eq ?_⟩
            first | rfl | (exfalso; have hm := Bucket.more (b := b) (c := ⟨level, b.now, b.burst, rate⟩) (now := now) ⟨rfl, rfl⟩ (by omega) (by omega) (by simp only; omega) (by simp only; omega); omega) | (have ht := Bucket.take_less (b := b) (t := now) (n := n) (m := m) (by omega) (by omega) (by omega); refine congrArg (fun b => AV.v (Value.bool b)) ?_; simp [ht]; done) | (exfalso; have ht := Bucket.take_less (b := b) (t := now) (n := n) (m := m) (by omega) (by omega) (by omega); omega) | trace_state
          · rw [h33]
            have g33 : ¬ (((b.takeP now m).2) = 0) := by simpa using h33
            refine OW.last 11 [12] (x' := ⟨[(12, .v (.bool false))], [some ⟨4, [[VI b.level, VI b.now, VI b.burst, VI b.rate]]⟩, some ⟨4, [[VI level, VI b.now, VI b.burst, VI rate]]⟩, some ⟨4, [[VI (((b.takeP now n).1).level), VI (((b.takeP now n).1).now), VI (((b.takeP now n).1).burst), VI (((b.takeP now n).1).rate)]]⟩, some ⟨4, [[VI (((b.takeP now m).1).level), VI (((b.takeP now m).1).now), VI (((b.takeP now m).1).burst), VI (((b.takeP now m).1).rate)]]⟩]⟩) (by kernel_rfl) (by kernel_rfl) ?_
            refine EL.ret ?_
            refine ⟨.inr rfl, .v (.bool false), by kernel_rfl, Ale.of_eq ?_⟩
            first | rfl | (exfalso; have hm := Bucket.more (b := b) (c := ⟨level, b.now, b.burst, rate⟩) (now := now) ⟨rfl, rfl⟩ (by omega) (by omega) (by simp only; omega) (by simp only; omega); omega) | (have ht := Bucket.take_less (b := b) (t := now) (n := n) (m := m) (by omega) (by omega) (by omega); refine congrArg (fun b => AV.v (Value.bool b)) ?_; simp [ht]; done) | (exfalso; have ht := Bucket.take_less (b := b) (t := now) (n := n) (m := m) (by omega) (by omega) (by omega); omega) | trace_state
theorem BucketMore_walk {w : World} (b : Bucket) (_okb : b.ok) (level : Int) (_wlevel : (Lit.int .i64 level).wf = true) (rate : Int) (_wrate : (Lit.int .i64 rate).wf = true) (now : Int) (_wnow : (Lit.int .i64 now).wf = true) (n : Int) (_wn : (Lit.int .i64 n).wf = true) (m : Int) (_wm : (Lit.int .i64 m).wf = true) : Calls Try.prog 8 #[b.v, I level, I rate, I now, I n, I m] w fun e w' => e = .returned (.bool true) ∧ Below w.heap.size w w' := by
  exact fn_law (vs := [b.v, I level, I rate, I now, I n, I m]) (bucketMore_fn b level rate now n m ) (.cons ((R2.agg (.cons (.v rfl) (.cons (.v rfl) (.cons (.v rfl) (.cons (.v rfl) (.nil))))) : Rep _ b.v _)) (.cons (.v rfl) (.cons (.v rfl) (.cons (.v rfl) (.cons (.v rfl) (.cons (.v rfl) (.nil)))))))
theorem BucketMore_own : ownKnob Try.prog.godebug = none := by kernel_rfl
theorem BucketMore_laidOut : laidOutB Try.prog = true := by kernel_rfl
set_option maxRecDepth 100000 in
set_option linter.unusedVariables false in
theorem BucketMore_lifted (os : Os) (started : os.Started) (H : Type) (enc : TypeId × Value → H) :
    ReturnsInHanded {} Try.checked os 8 .any (Rows.bucketMoreSpec.pre6 enc Try.prog Try.f8 Rows.bucketMoreRow.domain false) (Rows.bucketMoreSpec.post enc Try.prog Try.f8 false true false false) := by
  refine returnsInHanded_of_change (C := Try.checked) BucketMore_own started (by kernel_rfl) Try.func8
    (ChangeSpec.witness6 (enc := enc) (C := Try.checked) false ⟨#[], #[.agg #[.int .i64 0, .int .i64 0, .int .i64 0, .int .i64 0], .int .i64 0, .int .i64 0, .int .i64 0, .int .i64 0, .int .i64 0], []⟩ 8 (by kernel_rfl) (by kernel_rfl) (by kernel_rfl) (by kernel_rfl)) ?_
  intro W base args ds gs before hval0 hW hcnd _
  have hval : ∀ (j : Nat) t v, Try.f8.params[j]? = some t → args[j]? = some v → Value.okWide Try.prog W .any base t v := hval0
  have hW' := hW
  obtain ⟨p, q, hA0, hV, rfl, hfz, hnd⟩ := hW
  have hA : DataW.TrodAll enc Try.prog W 0 (fun _ => true) true Try.f8.params.toList args.toList ds p := hA0
  rw [Try.params8] at hA hval
  obtain ⟨v0, vs0, d0, ds0, p0, q0, hargs, rfl, rfl, h0, r0⟩ := trodAll_cons hA
  obtain ⟨v1, vs1, d1, ds1, p1, q1, rfl, rfl, rfl, h1, r1⟩ := trodAll_cons r0
  obtain ⟨v2, vs2, d2, ds2, p2, q2, rfl, rfl, rfl, h2, r2⟩ := trodAll_cons r1
  obtain ⟨v3, vs3, d3, ds3, p3, q3, rfl, rfl, rfl, h3, r3⟩ := trodAll_cons r2
  obtain ⟨v4, vs4, d4, ds4, p4, q4, rfl, rfl, rfl, h4, r4⟩ := trodAll_cons r3
  obtain ⟨v5, vs5, d5, ds5, p5, q5, rfl, rfl, rfl, h5, r5⟩ := trodAll_cons r4
  obtain ⟨rfl, rfl, rfl⟩ := trodAll_nil r5
  obtain rfl : args = #[v0, v1, v2, v3, v4, v5] := by cases args; simp_all
  obtain ⟨rfl, rfl⟩ := trodVars_none hV
  have k0 := h0
  have lt0 : ∀ x ∈ p0, x.block < W.heap.size := by obtain ⟨m, hm⟩ := k0; exact DataW.trod_lt m _ _ _ hm
  obtain ⟨x0, cs0, rfl, w0⟩ := open_agg opens_Bucket Try.underlying23 (hval 0 23 v0 rfl rfl) h0
  obtain ⟨rfl, ok0⟩ := Bucket.flat w0
  have k1 := h1
  have lt1 : ∀ x ∈ p1, x.block < W.heap.size := by obtain ⟨m, hm⟩ := k1; exact DataW.trod_lt m _ _ _ hm
  obtain ⟨a1, rfl, e1, e1', w1⟩ := open_int Try.underlying3 (hval 1 3 v1 rfl rfl) h1
  have k2 := h2
  have lt2 : ∀ x ∈ p2, x.block < W.heap.size := by obtain ⟨m, hm⟩ := k2; exact DataW.trod_lt m _ _ _ hm
  obtain ⟨a2, rfl, e2, e2', w2⟩ := open_int Try.underlying3 (hval 2 3 v2 rfl rfl) h2
  have k3 := h3
  have lt3 : ∀ x ∈ p3, x.block < W.heap.size := by obtain ⟨m, hm⟩ := k3; exact DataW.trod_lt m _ _ _ hm
  obtain ⟨a3, rfl, e3, e3', w3⟩ := open_int Try.underlying3 (hval 3 3 v3 rfl rfl) h3
  have k4 := h4
  have lt4 : ∀ x ∈ p4, x.block < W.heap.size := by obtain ⟨m, hm⟩ := k4; exact DataW.trod_lt m _ _ _ hm
  obtain ⟨a4, rfl, e4, e4', w4⟩ := open_int Try.underlying3 (hval 4 3 v4 rfl rfl) h4
  have k5 := h5
  have lt5 : ∀ x ∈ p5, x.block < W.heap.size := by obtain ⟨m, hm⟩ := k5; exact DataW.trod_lt m _ _ _ hm
  obtain ⟨a5, rfl, e5, e5', w5⟩ := open_int Try.underlying3 (hval 5 3 v5 rfl rfl) h5
  clear hA0 hval0
  refine (BucketMore_walk (w := W) x0 ok0 a1 w1 a2 w2 a3 w3 a4 w4 a5 w5).mono fun e W' ⟨he, bel⟩ => ?_
  subst he
  exact ⟨_, rfl, _, _, _, [], _, [], hW', trodAll_mk1 (shut_bool Try.underlying4 _), (trodAll_cons_mk (Below.trod BucketMore_laidOut (by kernel_rfl) (of_decide_eq_true (by kernel_rfl)) k0 bel lt0) (trodAll_cons_mk (Below.trod BucketMore_laidOut (by kernel_rfl) (of_decide_eq_true (by kernel_rfl)) k1 bel lt1) (trodAll_cons_mk (Below.trod BucketMore_laidOut (by kernel_rfl) (of_decide_eq_true (by kernel_rfl)) k2 bel lt2) (trodAll_cons_mk (Below.trod BucketMore_laidOut (by kernel_rfl) (of_decide_eq_true (by kernel_rfl)) k3 bel lt3) (trodAll_cons_mk (Below.trod BucketMore_laidOut (by kernel_rfl) (of_decide_eq_true (by kernel_rfl)) k4 bel lt4) (trodAll_cons_mk (Below.trod BucketMore_laidOut (by kernel_rfl) (of_decide_eq_true (by kernel_rfl)) k5 bel lt5) trodAll_mk0)))))), rfl, bel.frame _, fun h => by cases h⟩
theorem BucketMore_closed : joinedFacts Try.prog 8 Try.f8 Rows.bucketMoreSpec Rows.bucketMoreRow = true := by
  unfold joinedFacts
  repeat' (with_reducible refine and_tt ?_ ?_)
  all_goals as_aux_lemma => kernel_rfl
theorem BucketMore_over : Rows.bucketMoreRow.holds Try.pinned (OpenSpec.ofChange Rows.bucketMoreSpec) :=
  OpenClaim.holds_of_wide 8 Try.f8 rfl rfl rfl rfl rfl rfl rfl ⟨rfl, rfl, rfl, rfl, rfl⟩ rfl rfl rfl rfl rfl (by as_aux_lemma => kernel_rfl) Try.func8 BucketMore_closed
    (of_decide_eq_true (by as_aux_lemma => kernel_rfl)) (by unfold Func.isWrapper; rw [if_neg (of_decide_eq_false (by as_aux_lemma => kernel_rfl))]; exact ⟨rfl, rfl⟩)
    (fun os started H enc _ => BucketMore_lifted os started H enc)
theorem BucketMore_holds : Rows.BucketMoreSaid := BucketMore_over
end Go.Proofs.Ytdoaefekbbgcmaa
