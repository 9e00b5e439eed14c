/- What the functions of package bucket answer. No condition. -/
import Derived.Test.YtdoaefekbbgcmaaAc
import Derived.Test.YtdoaefekbbgcmaaAvRng
import Derived.Test.YtdoaefekbbgcmaaBucketM
set_option maxRecDepth 100000
set_option linter.unusedVariables false
set_option linter.unusedSimpArgs false
namespace Go.Proofs.Ytdoaefekbbgcmaa
abbrev Bucket.cs (x : Bucket) : List AV := [VI x.level, VI x.now, VI x.burst, VI x.rate]
abbrev Term.cs (x : Term) : List AV := [VI x.begin, VI x.end_]
theorem within_fn (n : Int) (lo : Int) (hi : Int) : Fn Try.prog 21 [VI n, VI lo, VI hi] (.v (.bool (wi n lo hi))) := by
  refine fn_walkW F21_ok (of_decide_eq_true (by kernel_rfl)) ?_
  refine EL.sreg ?_
  refine OW.last 1 [0, 1, 2] (x' := ⟨[(0, VI n), (1, VI lo), (2, VI hi)], []⟩) (by kernel_rfl) (by kernel_rfl) ?_
  refine EL.sreg ?_
  refine OW.run 4 (x' := ⟨[(10, .v (.bool (decide (n ≥ lo)))), (9, .v (.bool (decide (n ≥ lo)))), (8, VI lo), (7, VI n), (0, VI n), (1, VI lo), (2, VI hi)], []⟩) (by kernel_rfl) ?_
  rcases Bool.eq_false_or_eq_true (decide (n ≥ lo)) with h1 | h1
  · rw [h1]
    have g1 : (n ≥ lo) := of_decide_eq_true h1
    refine OW.last 5 [6] (x' := ⟨[(6, .v (.bool (decide (n ≤ hi))))], []⟩) (by kernel_rfl) (by kernel_rfl) ?_
    refine EL.ret ?_
    refine ⟨.inr rfl, .v (.bool (decide (n ≤ hi))), by kernel_rfl, Ale.of_eq ?_⟩
    (refine congrArg (fun b => AV.v (Value.bool b)) ?_; rw [Bool.eq_iff_iff]; simp [wi]; try omega)
  · rw [h1]
    have g1 : ¬ (n ≥ lo) := of_decide_eq_false h1
    refine OW.last 5 [6] (x' := ⟨[(6, .v (.bool false))], []⟩) (by kernel_rfl) (by kernel_rfl) ?_
    refine EL.ret ?_
    refine ⟨.inr rfl, .v (.bool false), by kernel_rfl, Ale.of_eq ?_⟩
    (refine congrArg (fun b => AV.v (Value.bool b)) ?_; rw [Bool.eq_iff_iff]; simp [wi]; try omega)
theorem noTime_fn (n : Int) : Fn Try.prog 22 [VI n] (.v (.bool (!(wi n 0 1000000)))) := by
  refine fn_walkW F22_ok (of_decide_eq_true (by kernel_rfl)) ?_
  refine EL.sreg ?_
  refine OW.last 1 [0] (x' := ⟨[(0, VI n)], []⟩) (by kernel_rfl) (by kernel_rfl) ?_
  refine EL.sreg ?_
  refine OW.run 3 (x' := ⟨[(5, .v (.bool (decide (n < 0)))), (4, .v (.bool (decide (n < 0)))), (3, VI n), (0, VI n)], []⟩) (by kernel_rfl) ?_
  rcases Bool.eq_false_or_eq_true (decide (n < 0)) with h1 | h1
  · rw [h1]
    have g1 : (n < 0) := of_decide_eq_true h1
    refine OW.last 4 [2] (x' := ⟨[(2, .v (.bool true))], []⟩) (by kernel_rfl) (by kernel_rfl) ?_
    refine EL.ret ?_
    refine ⟨.inr rfl, .v (.bool true), by kernel_rfl, Ale.of_eq ?_⟩
    (refine congrArg (fun b => AV.v (Value.bool b)) ?_; rw [Bool.eq_iff_iff]; simp [wi]; try omega)
  · rw [h1]
    have g1 : ¬ (n < 0) := of_decide_eq_false h1
    refine OW.last 4 [2] (x' := ⟨[(2, .v (.bool (decide (n > 1000000))))], []⟩) (by kernel_rfl) (by kernel_rfl) ?_
    refine EL.ret ?_
    refine ⟨.inr rfl, .v (.bool (decide (n > 1000000))), by kernel_rfl, Ale.of_eq ?_⟩
    (refine congrArg (fun b => AV.v (Value.bool b)) ?_; rw [Bool.eq_iff_iff]; simp [wi]; try omega)
theorem check_fn (b : Bucket) : Fn Try.prog 16 [.agg [VI b.level, VI b.now, VI b.burst, VI b.rate]] (VI b.checkE) := by
  refine fn_walkW F16_ok (of_decide_eq_true (by kernel_rfl)) ?_
  refine EL.sreg ?_
  refine OW.last 2 [1] (x' := ⟨[(1, .ref 0 4 0 0)], [some ⟨4, [[VI b.level, VI b.now, VI b.burst, VI b.rate]]⟩]⟩) (by kernel_rfl) (by kernel_rfl) ?_
  refine EL.seq ?_
  refine EL.sreg ?_
  refine OW.run 2 (x' := ⟨[(4, VI b.burst), (3, .ref 0 4 0 2), (1, .ref 0 4 0 0)], [some ⟨4, [[VI b.level, VI b.now, VI b.burst, VI b.rate]]⟩]⟩) (by kernel_rfl) ?_
  refine OW.fn (ar := [VI b.burst, VI 1, VI 100000]) (x' := ⟨[(5, .v (.bool (wi b.burst 1 100000))), (4, VI b.burst), (3, .ref 0 4 0 2), (1, .ref 0 4 0 0)], [some ⟨4, [[VI b.level, VI b.now, VI b.burst, VI b.rate]]⟩]⟩) (by kernel_rfl) (by kernel_rfl) F21_call (within_fn b.burst 1 100000) (by kernel_rfl) (by kernel_rfl) ?_
  refine OW.run 2 (x' := ⟨[(7, .v (.bool (!(wi b.burst 1 100000)))), (6, .v (.bool (!(wi b.burst 1 100000)))), (5, .v (.bool (wi b.burst 1 100000))), (4, VI b.burst), (3, .ref 0 4 0 2), (1, .ref 0 4 0 0)], [some ⟨4, [[VI b.level, VI b.now, VI b.burst, VI b.rate]]⟩]⟩) (by kernel_rfl) ?_
  rcases Bool.eq_false_or_eq_true (wi b.burst 1 100000) with h1 | h1
  · rw [h1]
    have g1 : (1 ≤ b.burst ∧ b.burst ≤ 100000) := wi_iff.1 h1
    refine OW.run 2 (x' := ⟨[(9, VI b.rate), (8, .ref 0 4 0 3), (7, .v (.bool false)), (6, .v (.bool false)), (5, .v (.bool true)), (4, VI b.burst), (3, .ref 0 4 0 2), (1, .ref 0 4 0 0)], [some ⟨4, [[VI b.level, VI b.now, VI b.burst, VI b.rate]]⟩]⟩) (by kernel_rfl) ?_
    refine OW.fn (ar := [VI b.rate, VI 0, VI 1000]) (x' := ⟨[(10, .v (.bool (wi b.rate 0 1000))), (9, VI b.rate), (8, .ref 0 4 0 3), (7, .v (.bool false)), (6, .v (.bool false)), (5, .v (.bool true)), (4, VI b.burst), (3, .ref 0 4 0 2), (1, .ref 0 4 0 0)], [some ⟨4, [[VI b.level, VI b.now, VI b.burst, VI b.rate]]⟩]⟩) (by kernel_rfl) (by kernel_rfl) F21_call (within_fn b.rate 0 1000) (by kernel_rfl) (by kernel_rfl) ?_
    refine OW.run 3 (x' := ⟨[(13, .v (.bool (!(wi b.rate 0 1000)))), (12, .v (.bool (!(wi b.rate 0 1000)))), (11, .v (.bool (!(wi b.rate 0 1000)))), (10, .v (.bool (wi b.rate 0 1000))), (9, VI b.rate), (8, .ref 0 4 0 3), (7, .v (.bool false)), (6, .v (.bool false)), (5, .v (.bool true)), (4, VI b.burst), (3, .ref 0 4 0 2), (1, .ref 0 4 0 0)], [some ⟨4, [[VI b.level, VI b.now, VI b.burst, VI b.rate]]⟩]⟩) (by kernel_rfl) ?_
    rcases Bool.eq_false_or_eq_true (wi b.rate 0 1000) with h2 | h2
    · rw [h2]
      have g2 : (0 ≤ b.rate ∧ b.rate ≤ 1000) := wi_iff.1 h2
      refine OW.run 2 (x' := ⟨[(15, VI b.now), (14, .ref 0 4 0 1), (13, .v (.bool false)), (12, .v (.bool false)), (11, .v (.bool false)), (10, .v (.bool true)), (9, VI b.rate), (8, .ref 0 4 0 3), (7, .v (.bool false)), (6, .v (.bool false)), (5, .v (.bool true)), (4, VI b.burst), (3, .ref 0 4 0 2), (1, .ref 0 4 0 0)], [some ⟨4, [[VI b.level, VI b.now, VI b.burst, VI b.rate]]⟩]⟩) (by kernel_rfl) ?_
      refine OW.fn (ar := [VI b.now, VI 0, VI 1000000]) (x' := ⟨[(16, .v (.bool (wi b.now 0 1000000))), (15, VI b.now), (14, .ref 0 4 0 1), (13, .v (.bool false)), (12, .v (.bool false)), (11, .v (.bool false)), (10, .v (.bool true)), (9, VI b.rate), (8, .ref 0 4 0 3), (7, .v (.bool false)), (6, .v (.bool false)), (5, .v (.bool true)), (4, VI b.burst), (3, .ref 0 4 0 2), (1, .ref 0 4 0 0)], [some ⟨4, [[VI b.level, VI b.now, VI b.burst, VI b.rate]]⟩]⟩) (by kernel_rfl) (by kernel_rfl) F21_call (within_fn b.now 0 1000000) (by kernel_rfl) (by kernel_rfl) ?_
      refine OW.run 3 (x' := ⟨[(19, .v (.bool (!(wi b.now 0 1000000)))), (18, .v (.bool (!(wi b.now 0 1000000)))), (17, .v (.bool (!(wi b.now 0 1000000)))), (16, .v (.bool (wi b.now 0 1000000))), (15, VI b.now), (14, .ref 0 4 0 1), (13, .v (.bool false)), (12, .v (.bool false)), (11, .v (.bool false)), (10, .v (.bool true)), (9, VI b.rate), (8, .ref 0 4 0 3), (7, .v (.bool false)), (6, .v (.bool false)), (5, .v (.bool true)), (4, VI b.burst), (3, .ref 0 4 0 2), (1, .ref 0 4 0 0)], [some ⟨4, [[VI b.level, VI b.now, VI b.burst, VI b.rate]]⟩]⟩) (by kernel_rfl) ?_
      rcases Bool.eq_false_or_eq_true (wi b.now 0 1000000) with h3 | h3
      · rw [h3]
        have g3 : (0 ≤ b.now ∧ b.now ≤ 1000000) := wi_iff.1 h3
        refine OW.run 4 (x' := ⟨[(23, VI b.burst), (22, .ref 0 4 0 2), (21, VI b.level), (20, .ref 0 4 0 0), (19, .v (.bool false)), (18, .v (.bool false)), (17, .v (.bool false)), (16, .v (.bool true)), (15, VI b.now), (14, .ref 0 4 0 1), (13, .v (.bool false)), (12, .v (.bool false)), (11, .v (.bool false)), (10, .v (.bool true)), (9, VI b.rate), (8, .ref 0 4 0 3), (7, .v (.bool false)), (6, .v (.bool false)), (5, .v (.bool true)), (4, VI b.burst), (3, .ref 0 4 0 2), (1, .ref 0 4 0 0)], [some ⟨4, [[VI b.level, VI b.now, VI b.burst, VI b.rate]]⟩]⟩) (by kernel_rfl) ?_
        refine OW.fn (ar := [VI b.level, VI 0, VI b.burst]) (x' := ⟨[(24, .v (.bool (wi b.level 0 b.burst))), (23, VI b.burst), (22, .ref 0 4 0 2), (21, VI b.level), (20, .ref 0 4 0 0), (19, .v (.bool false)), (18, .v (.bool false)), (17, .v (.bool false)), (16, .v (.bool true)), (15, VI b.now), (14, .ref 0 4 0 1), (13, .v (.bool false)), (12, .v (.bool false)), (11, .v (.bool false)), (10, .v (.bool true)), (9, VI b.rate), (8, .ref 0 4 0 3), (7, .v (.bool false)), (6, .v (.bool false)), (5, .v (.bool true)), (4, VI b.burst), (3, .ref 0 4 0 2), (1, .ref 0 4 0 0)], [some ⟨4, [[VI b.level, VI b.now, VI b.burst, VI b.rate]]⟩]⟩) (by kernel_rfl) (by kernel_rfl) F21_call (within_fn b.level 0 b.burst) (by kernel_rfl) (by kernel_rfl) ?_
        refine OW.last 2 [26] (x' := ⟨[(26, .v (.bool (!(wi b.level 0 b.burst))))], [some ⟨4, [[VI b.level, VI b.now, VI b.burst, VI b.rate]]⟩]⟩) (by kernel_rfl) (by kernel_rfl) ?_
        rcases Bool.eq_false_or_eq_true (wi b.level 0 b.burst) with h4 | h4
        · rw [h4]
          have g4 : (0 ≤ b.level ∧ b.level ≤ b.burst) := wi_iff.1 h4
          refine EL.condF (by kernel_rfl) ?_
          refine EL.skip ?_
          refine thenL_norm ?_
          refine EL.sreg ?_
          refine OW.last 1 [2] (x' := ⟨[(2, VI 0)], [some ⟨4, [[VI b.level, VI b.now, VI b.burst, VI b.rate]]⟩]⟩) (by kernel_rfl) (by kernel_rfl) ?_
          refine EL.ret ?_
          refine ⟨.inr rfl, VI 0, by kernel_rfl, Ale.of_eq ?_⟩
          (refine congrArg (fun n => VI n) ?_; (try simp only [wi_iff, wi_iffF] at *); simp only [Bucket.checkE]; (repeat' split) <;> first | omega | trace_state)
        · rw [h4]
          have g4 : ¬ (0 ≤ b.level ∧ b.level ≤ b.burst) := fun hh => Bool.noConfusion ((wi_iff.2 hh).symm.trans h4)
          refine EL.condT (by kernel_rfl) ?_
          refine EL.sreg ?_
          refine OW.last 1 [2] (x' := ⟨[(2, VI 3)], [some ⟨4, [[VI b.level, VI b.now, VI b.burst, VI b.rate]]⟩]⟩) (by kernel_rfl) (by kernel_rfl) ?_
          refine EL.ret ?_
          refine thenL_ret ?_
          refine ⟨.inr rfl, VI 3, by kernel_rfl, Ale.of_eq ?_⟩
          (refine congrArg (fun n => VI n) ?_; (try simp only [wi_iff, wi_iffF] at *); simp only [Bucket.checkE]; (repeat' split) <;> first | omega | trace_state)
      · rw [h3]
        have g3 : ¬ (0 ≤ b.now ∧ b.now ≤ 1000000) := fun hh => Bool.noConfusion ((wi_iff.2 hh).symm.trans h3)
        refine OW.last 7 [26] (x' := ⟨[(26, .v (.bool true))], [some ⟨4, [[VI b.level, VI b.now, VI b.burst, VI b.rate]]⟩]⟩) (by kernel_rfl) (by kernel_rfl) ?_
        refine EL.condT (by kernel_rfl) ?_
        refine EL.sreg ?_
        refine OW.last 1 [2] (x' := ⟨[(2, VI 3)], [some ⟨4, [[VI b.level, VI b.now, VI b.burst, VI b.rate]]⟩]⟩) (by kernel_rfl) (by kernel_rfl) ?_
        refine EL.ret ?_
        refine thenL_ret ?_
        refine ⟨.inr rfl, VI 3, by kernel_rfl, Ale.of_eq ?_⟩
        (refine congrArg (fun n => VI n) ?_; (try simp only [wi_iff, wi_iffF] at *); simp only [Bucket.checkE]; (repeat' split) <;> first | omega | trace_state)
    · rw [h2]
      have g2 : ¬ (0 ≤ b.rate ∧ b.rate ≤ 1000) := fun hh => Bool.noConfusion ((wi_iff.2 hh).symm.trans h2)
      refine OW.last 13 [26] (x' := ⟨[(26, .v (.bool true))], [some ⟨4, [[VI b.level, VI b.now, VI b.burst, VI b.rate]]⟩]⟩) (by kernel_rfl) (by kernel_rfl) ?_
      refine EL.condT (by kernel_rfl) ?_
      refine EL.sreg ?_
      refine OW.last 1 [2] (x' := ⟨[(2, VI 3)], [some ⟨4, [[VI b.level, VI b.now, VI b.burst, VI b.rate]]⟩]⟩) (by kernel_rfl) (by kernel_rfl) ?_
      refine EL.ret ?_
      refine thenL_ret ?_
      refine ⟨.inr rfl, VI 3, by kernel_rfl, Ale.of_eq ?_⟩
      (refine congrArg (fun n => VI n) ?_; (try simp only [wi_iff, wi_iffF] at *); simp only [Bucket.checkE]; (repeat' split) <;> first | omega | trace_state)
  · rw [h1]
    have g1 : ¬ (1 ≤ b.burst ∧ b.burst ≤ 100000) := fun hh => Bool.noConfusion ((wi_iff.2 hh).symm.trans h1)
    refine OW.last 19 [26] (x' := ⟨[(26, .v (.bool true))], [some ⟨4, [[VI b.level, VI b.now, VI b.burst, VI b.rate]]⟩]⟩) (by kernel_rfl) (by kernel_rfl) ?_
    refine EL.condT (by kernel_rfl) ?_
    refine EL.sreg ?_
    refine OW.last 1 [2] (x' := ⟨[(2, VI 3)], [some ⟨4, [[VI b.level, VI b.now, VI b.burst, VI b.rate]]⟩]⟩) (by kernel_rfl) (by kernel_rfl) ?_
    refine EL.ret ?_
    refine thenL_ret ?_
    refine ⟨.inr rfl, VI 3, by kernel_rfl, Ale.of_eq ?_⟩
    (refine congrArg (fun n => VI n) ?_; (try simp only [wi_iff, wi_iffF] at *); simp only [Bucket.checkE]; (repeat' split) <;> first | omega | trace_state)
theorem rcheck_fn (b : Bucket) : Fn Try.prog 17 [.agg [VI b.level, VI b.now, VI b.burst, VI b.rate]] (VI b.checkE) := by
  refine fn_walkW F17_ok (of_decide_eq_true (by kernel_rfl)) ?_
  refine EL.sreg ?_
  refine OW.last 2 [1] (x' := ⟨[(1, .ref 0 4 0 0)], [some ⟨4, [[VI b.level, VI b.now, VI b.burst, VI b.rate]]⟩]⟩) (by kernel_rfl) (by kernel_rfl) ?_
  refine EL.seq ?_
  refine EL.sreg ?_
  refine OW.run 4 (x' := ⟨[(6, .v (.bool (decide (b.burst < 1)))), (5, .v (.bool (decide (b.burst < 1)))), (4, VI b.burst), (3, .ref 0 4 0 2), (1, .ref 0 4 0 0)], [some ⟨4, [[VI b.level, VI b.now, VI b.burst, VI b.rate]]⟩]⟩) (by kernel_rfl) ?_
  rcases Bool.eq_false_or_eq_true (decide (b.burst < 1)) with h1 | h1
  · rw [h1]
    have g1 : (b.burst < 1) := of_decide_eq_true h1
    refine OW.last 31 [37] (x' := ⟨[(37, .v (.bool true))], [some ⟨4, [[VI b.level, VI b.now, VI b.burst, VI b.rate]]⟩]⟩) (by kernel_rfl) (by kernel_rfl) ?_
    refine EL.condT (by kernel_rfl) ?_
    refine EL.sreg ?_
    refine OW.last 1 [2] (x' := ⟨[(2, VI 3)], [some ⟨4, [[VI b.level, VI b.now, VI b.burst, VI b.rate]]⟩]⟩) (by kernel_rfl) (by kernel_rfl) ?_
    refine EL.ret ?_
    refine thenL_ret ?_
    refine ⟨.inr rfl, VI 3, by kernel_rfl, Ale.of_eq ?_⟩
    (refine congrArg (fun n => VI n) ?_; (try simp only [wi_iff, wi_iffF] at *); simp only [Bucket.checkE]; (repeat' split) <;> first | omega | trace_state)
  · rw [h1]
    have g1 : ¬ (b.burst < 1) := of_decide_eq_false h1
    refine OW.run 5 (x' := ⟨[(11, .v (.bool (decide (b.burst > 100000)))), (10, .v (.bool (decide (b.burst > 100000)))), (9, .v (.bool (decide (b.burst > 100000)))), (8, VI b.burst), (7, .ref 0 4 0 2), (6, .v (.bool false)), (5, .v (.bool false)), (4, VI b.burst), (3, .ref 0 4 0 2), (1, .ref 0 4 0 0)], [some ⟨4, [[VI b.level, VI b.now, VI b.burst, VI b.rate]]⟩]⟩) (by kernel_rfl) ?_
    rcases Bool.eq_false_or_eq_true (decide (b.burst > 100000)) with h2 | h2
    · rw [h2]
      have g2 : (b.burst > 100000) := of_decide_eq_true h2
      refine OW.last 26 [37] (x' := ⟨[(37, .v (.bool true))], [some ⟨4, [[VI b.level, VI b.now, VI b.burst, VI b.rate]]⟩]⟩) (by kernel_rfl) (by kernel_rfl) ?_
      refine EL.condT (by kernel_rfl) ?_
      refine EL.sreg ?_
      refine OW.last 1 [2] (x' := ⟨[(2, VI 3)], [some ⟨4, [[VI b.level, VI b.now, VI b.burst, VI b.rate]]⟩]⟩) (by kernel_rfl) (by kernel_rfl) ?_
      refine EL.ret ?_
      refine thenL_ret ?_
      refine ⟨.inr rfl, VI 3, by kernel_rfl, Ale.of_eq ?_⟩
      (refine congrArg (fun n => VI n) ?_; (try simp only [wi_iff, wi_iffF] at *); simp only [Bucket.checkE]; (repeat' split) <;> first | omega | trace_state)
    · rw [h2]
      have g2 : ¬ (b.burst > 100000) := of_decide_eq_false h2
      refine OW.run 5 (x' := ⟨[(16, .v (.bool (decide (b.rate < 0)))), (15, .v (.bool (decide (b.rate < 0)))), (14, .v (.bool (decide (b.rate < 0)))), (13, VI b.rate), (12, .ref 0 4 0 3), (11, .v (.bool false)), (10, .v (.bool false)), (9, .v (.bool false)), (8, VI b.burst), (7, .ref 0 4 0 2), (6, .v (.bool false)), (5, .v (.bool false)), (4, VI b.burst), (3, .ref 0 4 0 2), (1, .ref 0 4 0 0)], [some ⟨4, [[VI b.level, VI b.now, VI b.burst, VI b.rate]]⟩]⟩) (by kernel_rfl) ?_
      rcases Bool.eq_false_or_eq_true (decide (b.rate < 0)) with h3 | h3
      · rw [h3]
        have g3 : (b.rate < 0) := of_decide_eq_true h3
        refine OW.last 21 [37] (x' := ⟨[(37, .v (.bool true))], [some ⟨4, [[VI b.level, VI b.now, VI b.burst, VI b.rate]]⟩]⟩) (by kernel_rfl) (by kernel_rfl) ?_
        refine EL.condT (by kernel_rfl) ?_
        refine EL.sreg ?_
        refine OW.last 1 [2] (x' := ⟨[(2, VI 3)], [some ⟨4, [[VI b.level, VI b.now, VI b.burst, VI b.rate]]⟩]⟩) (by kernel_rfl) (by kernel_rfl) ?_
        refine EL.ret ?_
        refine thenL_ret ?_
        refine ⟨.inr rfl, VI 3, by kernel_rfl, Ale.of_eq ?_⟩
        (refine congrArg (fun n => VI n) ?_; (try simp only [wi_iff, wi_iffF] at *); simp only [Bucket.checkE]; (repeat' split) <;> first | omega | trace_state)
      · rw [h3]
        have g3 : ¬ (b.rate < 0) := of_decide_eq_false h3
        refine OW.run 5 (x' := ⟨[(21, .v (.bool (decide (b.rate > 1000)))), (20, .v (.bool (decide (b.rate > 1000)))), (19, .v (.bool (decide (b.rate > 1000)))), (18, VI b.rate), (17, .ref 0 4 0 3), (16, .v (.bool false)), (15, .v (.bool false)), (14, .v (.bool false)), (13, VI b.rate), (12, .ref 0 4 0 3), (11, .v (.bool false)), (10, .v (.bool false)), (9, .v (.bool false)), (8, VI b.burst), (7, .ref 0 4 0 2), (6, .v (.bool false)), (5, .v (.bool false)), (4, VI b.burst), (3, .ref 0 4 0 2), (1, .ref 0 4 0 0)], [some ⟨4, [[VI b.level, VI b.now, VI b.burst, VI b.rate]]⟩]⟩) (by kernel_rfl) ?_
        rcases Bool.eq_false_or_eq_true (decide (b.rate > 1000)) with h4 | h4
        · rw [h4]
          have g4 : (b.rate > 1000) := of_decide_eq_true h4
          refine OW.last 16 [37] (x' := ⟨[(37, .v (.bool true))], [some ⟨4, [[VI b.level, VI b.now, VI b.burst, VI b.rate]]⟩]⟩) (by kernel_rfl) (by kernel_rfl) ?_
          refine EL.condT (by kernel_rfl) ?_
          refine EL.sreg ?_
          refine OW.last 1 [2] (x' := ⟨[(2, VI 3)], [some ⟨4, [[VI b.level, VI b.now, VI b.burst, VI b.rate]]⟩]⟩) (by kernel_rfl) (by kernel_rfl) ?_
          refine EL.ret ?_
          refine thenL_ret ?_
          refine ⟨.inr rfl, VI 3, by kernel_rfl, Ale.of_eq ?_⟩
          (refine congrArg (fun n => VI n) ?_; (try simp only [wi_iff, wi_iffF] at *); simp only [Bucket.checkE]; (repeat' split) <;> first | omega | trace_state)
        · rw [h4]
          have g4 : ¬ (b.rate > 1000) := of_decide_eq_false h4
          refine OW.run 2 (x' := ⟨[(23, VI b.now), (22, .ref 0 4 0 1), (21, .v (.bool false)), (20, .v (.bool false)), (19, .v (.bool false)), (18, VI b.rate), (17, .ref 0 4 0 3), (16, .v (.bool false)), (15, .v (.bool false)), (14, .v (.bool false)), (13, VI b.rate), (12, .ref 0 4 0 3), (11, .v (.bool false)), (10, .v (.bool false)), (9, .v (.bool false)), (8, VI b.burst), (7, .ref 0 4 0 2), (6, .v (.bool false)), (5, .v (.bool false)), (4, VI b.burst), (3, .ref 0 4 0 2), (1, .ref 0 4 0 0)], [some ⟨4, [[VI b.level, VI b.now, VI b.burst, VI b.rate]]⟩]⟩) (by kernel_rfl) ?_
          refine OW.fn (ar := [VI b.now]) (x' := ⟨[(24, .v (.bool (!(wi b.now 0 1000000)))), (23, VI b.now), (22, .ref 0 4 0 1), (21, .v (.bool false)), (20, .v (.bool false)), (19, .v (.bool false)), (18, VI b.rate), (17, .ref 0 4 0 3), (16, .v (.bool false)), (15, .v (.bool false)), (14, .v (.bool false)), (13, VI b.rate), (12, .ref 0 4 0 3), (11, .v (.bool false)), (10, .v (.bool false)), (9, .v (.bool false)), (8, VI b.burst), (7, .ref 0 4 0 2), (6, .v (.bool false)), (5, .v (.bool false)), (4, VI b.burst), (3, .ref 0 4 0 2), (1, .ref 0 4 0 0)], [some ⟨4, [[VI b.level, VI b.now, VI b.burst, VI b.rate]]⟩]⟩) (by kernel_rfl) (by kernel_rfl) F22_call (noTime_fn b.now) (by kernel_rfl) (by kernel_rfl) ?_
          refine OW.run 2 (x' := ⟨[(26, .v (.bool (!(wi b.now 0 1000000)))), (25, .v (.bool (!(wi b.now 0 1000000)))), (24, .v (.bool (!(wi b.now 0 1000000)))), (23, VI b.now), (22, .ref 0 4 0 1), (21, .v (.bool false)), (20, .v (.bool false)), (19, .v (.bool false)), (18, VI b.rate), (17, .ref 0 4 0 3), (16, .v (.bool false)), (15, .v (.bool false)), (14, .v (.bool false)), (13, VI b.rate), (12, .ref 0 4 0 3), (11, .v (.bool false)), (10, .v (.bool false)), (9, .v (.bool false)), (8, VI b.burst), (7, .ref 0 4 0 2), (6, .v (.bool false)), (5, .v (.bool false)), (4, VI b.burst), (3, .ref 0 4 0 2), (1, .ref 0 4 0 0)], [some ⟨4, [[VI b.level, VI b.now, VI b.burst, VI b.rate]]⟩]⟩) (by kernel_rfl) ?_
          rcases Bool.eq_false_or_eq_true (wi b.now 0 1000000) with h5 | h5
          · rw [h5]
            have g5 : (0 ≤ b.now ∧ b.now ≤ 1000000) := wi_iff.1 h5
            refine OW.run 5 (x' := ⟨[(31, .v (.bool (decide (b.level < 0)))), (30, .v (.bool (decide (b.level < 0)))), (29, .v (.bool (decide (b.level < 0)))), (28, VI b.level), (27, .ref 0 4 0 0), (26, .v (.bool false)), (25, .v (.bool false)), (24, .v (.bool false)), (23, VI b.now), (22, .ref 0 4 0 1), (21, .v (.bool false)), (20, .v (.bool false)), (19, .v (.bool false)), (18, VI b.rate), (17, .ref 0 4 0 3), (16, .v (.bool false)), (15, .v (.bool false)), (14, .v (.bool false)), (13, VI b.rate), (12, .ref 0 4 0 3), (11, .v (.bool false)), (10, .v (.bool false)), (9, .v (.bool false)), (8, VI b.burst), (7, .ref 0 4 0 2), (6, .v (.bool false)), (5, .v (.bool false)), (4, VI b.burst), (3, .ref 0 4 0 2), (1, .ref 0 4 0 0)], [some ⟨4, [[VI b.level, VI b.now, VI b.burst, VI b.rate]]⟩]⟩) (by kernel_rfl) ?_
            rcases Bool.eq_false_or_eq_true (decide (b.level < 0)) with h6 | h6
            · rw [h6]
              have g6 : (b.level < 0) := of_decide_eq_true h6
              refine OW.last 6 [37] (x' := ⟨[(37, .v (.bool true))], [some ⟨4, [[VI b.level, VI b.now, VI b.burst, VI b.rate]]⟩]⟩) (by kernel_rfl) (by kernel_rfl) ?_
              refine EL.condT (by kernel_rfl) ?_
              refine EL.sreg ?_
              refine OW.last 1 [2] (x' := ⟨[(2, VI 3)], [some ⟨4, [[VI b.level, VI b.now, VI b.burst, VI b.rate]]⟩]⟩) (by kernel_rfl) (by kernel_rfl) ?_
              refine EL.ret ?_
              refine thenL_ret ?_
              refine ⟨.inr rfl, VI 3, by kernel_rfl, Ale.of_eq ?_⟩
              (refine congrArg (fun n => VI n) ?_; (try simp only [wi_iff, wi_iffF] at *); simp only [Bucket.checkE]; (repeat' split) <;> first | omega | trace_state)
            · rw [h6]
              have g6 : ¬ (b.level < 0) := of_decide_eq_false h6
              refine OW.last 6 [37] (x' := ⟨[(37, .v (.bool (decide (b.level > b.burst))))], [some ⟨4, [[VI b.level, VI b.now, VI b.burst, VI b.rate]]⟩]⟩) (by kernel_rfl) (by kernel_rfl) ?_
              rcases Bool.eq_false_or_eq_true (decide (b.level > b.burst)) with h7 | h7
              · rw [h7]
                have g7 : (b.level > b.burst) := of_decide_eq_true h7
                refine EL.condT (by kernel_rfl) ?_
                refine EL.sreg ?_
                refine OW.last 1 [2] (x' := ⟨[(2, VI 3)], [some ⟨4, [[VI b.level, VI b.now, VI b.burst, VI b.rate]]⟩]⟩) (by kernel_rfl) (by kernel_rfl) ?_
                refine EL.ret ?_
                refine thenL_ret ?_
                refine ⟨.inr rfl, VI 3, by kernel_rfl, Ale.of_eq ?_⟩
                (refine congrArg (fun n => VI n) ?_; (try simp only [wi_iff, wi_iffF] at *); simp only [Bucket.checkE]; (repeat' split) <;> first | omega | trace_state)
              · rw [h7]
                have g7 : ¬ (b.level > b.burst) := of_decide_eq_false h7
                refine EL.condF (by kernel_rfl) ?_
                refine EL.skip ?_
                refine thenL_norm ?_
                refine EL.sreg ?_
                refine OW.last 1 [2] (x' := ⟨[(2, VI 0)], [some ⟨4, [[VI b.level, VI b.now, VI b.burst, VI b.rate]]⟩]⟩) (by kernel_rfl) (by kernel_rfl) ?_
                refine EL.ret ?_
                refine ⟨.inr rfl, VI 0, by kernel_rfl, Ale.of_eq ?_⟩
                (refine congrArg (fun n => VI n) ?_; (try simp only [wi_iff, wi_iffF] at *); simp only [Bucket.checkE]; (repeat' split) <;> first | omega | trace_state)
          · rw [h5]
            have g5 : ¬ (0 ≤ b.now ∧ b.now ≤ 1000000) := fun hh => Bool.noConfusion ((wi_iff.2 hh).symm.trans h5)
            refine OW.last 11 [37] (x' := ⟨[(37, .v (.bool true))], [some ⟨4, [[VI b.level, VI b.now, VI b.burst, VI b.rate]]⟩]⟩) (by kernel_rfl) (by kernel_rfl) ?_
            refine EL.condT (by kernel_rfl) ?_
            refine EL.sreg ?_
            refine OW.last 1 [2] (x' := ⟨[(2, VI 3)], [some ⟨4, [[VI b.level, VI b.now, VI b.burst, VI b.rate]]⟩]⟩) (by kernel_rfl) (by kernel_rfl) ?_
            refine EL.ret ?_
            refine thenL_ret ?_
            refine ⟨.inr rfl, VI 3, by kernel_rfl, Ale.of_eq ?_⟩
            (refine congrArg (fun n => VI n) ?_; (try simp only [wi_iff, wi_iffF] at *); simp only [Bucket.checkE]; (repeat' split) <;> first | omega | trace_state)
theorem level_fn (b : Bucket) (now : Int) : Fn Try.prog 9 [.agg [VI b.level, VI b.now, VI b.burst, VI b.rate], VI now] (.tup [VI ((b.levelP now).1), VI ((b.levelP now).2)]) := by
  refine fn_walkW F9_ok (of_decide_eq_true (by kernel_rfl)) ?_
  refine EL.sreg ?_
  refine OW.last 3 [1, 2] (x' := ⟨[(2, .ref 0 4 0 0), (1, VI now)], [some ⟨4, [[VI b.level, VI b.now, VI b.burst, VI b.rate]]⟩]⟩) (by kernel_rfl) (by kernel_rfl) ?_
  refine EL.sreg ?_
  refine OW.run 1 (x' := ⟨[(7, .agg [VI b.level, VI b.now, VI b.burst, VI b.rate]), (2, .ref 0 4 0 0), (1, VI now)], [some ⟨4, [[VI b.level, VI b.now, VI b.burst, VI b.rate]]⟩]⟩) (by kernel_rfl) ?_
  refine OW.fn (ar := [.agg [VI b.level, VI b.now, VI b.burst, VI b.rate]]) (x' := ⟨[(8, VI b.checkE), (7, .agg [VI b.level, VI b.now, VI b.burst, VI b.rate]), (2, .ref 0 4 0 0), (1, VI now)], [some ⟨4, [[VI b.level, VI b.now, VI b.burst, VI b.rate]]⟩]⟩) (by kernel_rfl) (by kernel_rfl) F16_call (check_fn b) (by kernel_rfl) (by kernel_rfl) ?_
  refine OW.last 1 [1, 2, 6] (x' := ⟨[(6, VI b.checkE), (2, .ref 0 4 0 0), (1, VI now)], [some ⟨4, [[VI b.level, VI b.now, VI b.burst, VI b.rate]]⟩]⟩) (by kernel_rfl) (by kernel_rfl) ?_
  refine EL.seq ?_
  refine EL.block ?_
  refine EL.sreg ?_
  refine OW.last 3 [1, 2, 6, 9] (x' := ⟨[(9, .v (.bool (b.checkE != 0))), (6, VI b.checkE), (2, .ref 0 4 0 0), (1, VI now)], [some ⟨4, [[VI b.level, VI b.now, VI b.burst, VI b.rate]]⟩]⟩) (by kernel_rfl) (by kernel_rfl) ?_
  rcases Bool.eq_false_or_eq_true ((b.checkE != 0)) with h1 | h1
  · rw [h1]
    have g1 : ¬ (b.checkE = 0) := by simpa using h1
    refine EL.condT (by kernel_rfl) ?_
    refine EL.sreg ?_
    refine OW.last 3 [4, 5] (x' := ⟨[(5, VI b.checkE), (4, VI 0)], [some ⟨4, [[VI b.level, VI b.now, VI b.burst, VI b.rate]]⟩]⟩) (by kernel_rfl) (by kernel_rfl) ?_
    refine EL.ret ?_
    refine inBlk_ret ?_
    refine thenL_ret ?_
    refine ⟨.inr rfl, .tup [VI 0, VI b.checkE], by kernel_rfl, Ale.of_eq ?_⟩
    (simp only [Bucket.levelP, Bucket.lev, Bucket.came]; (repeat' split) <;> first | rfl | (exfalso; omega) | (rw [Bucket.check_3 ‹_›]) | (simp <;> omega) | trace_state)
  · rw [h1]
    have g1 : (b.checkE = 0) := by simpa using h1
    refine EL.condF (by kernel_rfl) ?_
    refine EL.sreg ?_
    refine OW.run 1 (x' := ⟨[(14, VI now), (9, .v (.bool false)), (6, VI b.checkE), (2, .ref 0 4 0 0), (1, VI now)], [some ⟨4, [[VI b.level, VI b.now, VI b.burst, VI b.rate]]⟩]⟩) (by kernel_rfl) ?_
    refine OW.fn (ar := [VI now, VI 0, VI 1000000]) (x' := ⟨[(15, .v (.bool (wi now 0 1000000))), (14, VI now), (9, .v (.bool false)), (6, VI b.checkE), (2, .ref 0 4 0 0), (1, VI now)], [some ⟨4, [[VI b.level, VI b.now, VI b.burst, VI b.rate]]⟩]⟩) (by kernel_rfl) (by kernel_rfl) F21_call (within_fn now 0 1000000) (by kernel_rfl) (by kernel_rfl) ?_
    refine OW.last 2 [1, 2, 13] (x' := ⟨[(13, .v (.bool (!(wi now 0 1000000)))), (2, .ref 0 4 0 0), (1, VI now)], [some ⟨4, [[VI b.level, VI b.now, VI b.burst, VI b.rate]]⟩]⟩) (by kernel_rfl) (by kernel_rfl) ?_
    rcases Bool.eq_false_or_eq_true (wi now 0 1000000) with h2 | h2
    · rw [h2]
      have g2 : (0 ≤ now ∧ now ≤ 1000000) := wi_iff.1 h2
      refine EL.condF (by kernel_rfl) ?_
      refine EL.sreg ?_
      refine OW.last 5 [1, 2, 17] (x' := ⟨[(17, .v (.bool (decide (now < b.now)))), (2, .ref 0 4 0 0), (1, VI now)], [some ⟨4, [[VI b.level, VI b.now, VI b.burst, VI b.rate]]⟩]⟩) (by kernel_rfl) (by kernel_rfl) ?_
      rcases Bool.eq_false_or_eq_true (decide (now < b.now)) with h3 | h3
      · rw [h3]
        have g3 : (now < b.now) := of_decide_eq_true h3
        refine EL.condT (by kernel_rfl) ?_
        refine EL.sreg ?_
        refine OW.last 2 [4, 5] (x' := ⟨[(5, VI 4), (4, VI 0)], [some ⟨4, [[VI b.level, VI b.now, VI b.burst, VI b.rate]]⟩]⟩) (by kernel_rfl) (by kernel_rfl) ?_
        refine EL.ret ?_
        refine inBlk_ret ?_
        refine thenL_ret ?_
        refine ⟨.inr rfl, .tup [VI 0, VI 4], by kernel_rfl, Ale.of_eq ?_⟩
        (simp only [Bucket.levelP, Bucket.lev, Bucket.came]; (repeat' split) <;> first | rfl | (exfalso; omega) | (rw [Bucket.check_3 ‹_›]) | (simp <;> omega) | trace_state)
      · rw [h3]
        have g3 : ¬ (now < b.now) := of_decide_eq_false h3
        refine EL.condF (by kernel_rfl) ?_
        refine EL.skip ?_
        refine inBlk_norm ?_
        refine thenL_norm ?_
        refine EL.sreg ?_
        refine OW.run 15 (x' := ⟨[(5, VI 0), (4, VI (if IntKind.i64.wrap (b.level + (IntKind.i64.wrap (b.rate * (IntKind.i64.wrap (now - b.now))))) < b.burst then IntKind.i64.wrap (b.level + (IntKind.i64.wrap (b.rate * (IntKind.i64.wrap (now - b.now))))) else b.burst)), (34, VI (if IntKind.i64.wrap (b.level + (IntKind.i64.wrap (b.rate * (IntKind.i64.wrap (now - b.now))))) < b.burst then IntKind.i64.wrap (b.level + (IntKind.i64.wrap (b.rate * (IntKind.i64.wrap (now - b.now))))) else b.burst)), (33, VI (IntKind.i64.wrap (b.level + (IntKind.i64.wrap (b.rate * (IntKind.i64.wrap (now - b.now))))))), (32, VI (IntKind.i64.wrap (b.rate * (IntKind.i64.wrap (now - b.now))))), (31, VI (IntKind.i64.wrap (now - b.now))), (30, VI b.now), (29, .ref 0 4 0 1), (28, VI now), (27, VI b.rate), (26, .ref 0 4 0 3), (25, VI b.level), (24, .ref 0 4 0 0), (23, VI b.burst), (22, .ref 0 4 0 2), (17, .v (.bool false)), (2, .ref 0 4 0 0), (1, VI now)], [some ⟨4, [[VI b.level, VI b.now, VI b.burst, VI b.rate]]⟩]⟩) (by kernel_rfl) ?_
        have e4 : IntKind.i64.wrap (now - b.now) = now - b.now := wr64 (by have hb := Bucket.check_0.1 ‹b.checkE = 0›; obtain ⟨_, ⟨_, _⟩, ⟨_, _⟩, _⟩ := id hb; have hc := Bucket.came_bd hb (now := now) (by omega) (by omega); unfold Bucket.came at hc; omega)
        rw [e4]
        have e5 : IntKind.i64.wrap (b.rate * (now - b.now)) = b.rate * (now - b.now) := wr64 (by have hb := Bucket.check_0.1 ‹b.checkE = 0›; obtain ⟨_, ⟨_, _⟩, ⟨_, _⟩, _⟩ := id hb; have hc := Bucket.came_bd hb (now := now) (by omega) (by omega); unfold Bucket.came at hc; omega)
        rw [e5]
        have e6 : IntKind.i64.wrap (b.level + (b.rate * (now - b.now))) = b.level + (b.rate * (now - b.now)) := wr64 (by have hb := Bucket.check_0.1 ‹b.checkE = 0›; obtain ⟨_, ⟨_, _⟩, ⟨_, _⟩, _⟩ := id hb; have hc := Bucket.came_bd hb (now := now) (by omega) (by omega); unfold Bucket.came at hc; omega)
        rw [e6]
        refine OW.last 0 [4, 5] (x' := ⟨[(5, VI 0), (4, VI (if (b.level + (b.rate * (now - b.now))) < b.burst then (b.level + (b.rate * (now - b.now))) else b.burst))], [some ⟨4, [[VI b.level, VI b.now, VI b.burst, VI b.rate]]⟩]⟩) (by kernel_rfl) (by kernel_rfl) ?_
        refine EL.ret ?_
        refine ⟨.inr rfl, .tup [VI (if (b.level + (b.rate * (now - b.now))) < b.burst then (b.level + (b.rate * (now - b.now))) else b.burst), VI 0], by kernel_rfl, Ale.of_eq ?_⟩
        (simp only [Bucket.levelP, Bucket.lev, Bucket.came]; (repeat' split) <;> first | rfl | (exfalso; omega) | (rw [Bucket.check_3 ‹_›]) | (simp <;> omega) | trace_state)
    · rw [h2]
      have g2 : ¬ (0 ≤ now ∧ now ≤ 1000000) := fun hh => Bool.noConfusion ((wi_iff.2 hh).symm.trans h2)
      refine EL.condT (by kernel_rfl) ?_
      refine EL.sreg ?_
      refine OW.last 2 [4, 5] (x' := ⟨[(5, VI 3), (4, VI 0)], [some ⟨4, [[VI b.level, VI b.now, VI b.burst, VI b.rate]]⟩]⟩) (by kernel_rfl) (by kernel_rfl) ?_
      refine EL.ret ?_
      refine inBlk_ret ?_
      refine thenL_ret ?_
      refine ⟨.inr rfl, .tup [VI 0, VI 3], by kernel_rfl, Ale.of_eq ?_⟩
      (simp only [Bucket.levelP, Bucket.lev, Bucket.came]; (repeat' split) <;> first | rfl | (exfalso; omega) | (rw [Bucket.check_3 ‹_›]) | (simp <;> omega) | trace_state)
theorem rlevel_fn (b : Bucket) (now : Int) : Fn Try.prog 12 [.agg [VI b.level, VI b.now, VI b.burst, VI b.rate], VI now] (.tup [VI ((b.levelP now).1), VI ((b.levelP now).2)]) := by
  refine fn_walkW F12_ok (of_decide_eq_true (by kernel_rfl)) ?_
  refine EL.sreg ?_
  refine OW.last 3 [1, 2] (x' := ⟨[(2, .ref 0 4 0 0), (1, VI now)], [some ⟨4, [[VI b.level, VI b.now, VI b.burst, VI b.rate]]⟩]⟩) (by kernel_rfl) (by kernel_rfl) ?_
  refine EL.sreg ?_
  refine OW.run 1 (x' := ⟨[(9, .agg [VI b.level, VI b.now, VI b.burst, VI b.rate]), (2, .ref 0 4 0 0), (1, VI now)], [some ⟨4, [[VI b.level, VI b.now, VI b.burst, VI b.rate]]⟩]⟩) (by kernel_rfl) ?_
  refine OW.fn (ar := [.agg [VI b.level, VI b.now, VI b.burst, VI b.rate]]) (x' := ⟨[(10, VI b.checkE), (9, .agg [VI b.level, VI b.now, VI b.burst, VI b.rate]), (2, .ref 0 4 0 0), (1, VI now)], [some ⟨4, [[VI b.level, VI b.now, VI b.burst, VI b.rate]]⟩]⟩) (by kernel_rfl) (by kernel_rfl) F17_call (rcheck_fn b) (by kernel_rfl) (by kernel_rfl) ?_
  refine OW.last 1 [1, 2, 6] (x' := ⟨[(6, VI b.checkE), (2, .ref 0 4 0 0), (1, VI now)], [some ⟨4, [[VI b.level, VI b.now, VI b.burst, VI b.rate]]⟩]⟩) (by kernel_rfl) (by kernel_rfl) ?_
  refine EL.seq ?_
  refine EL.sreg ?_
  refine OW.run 3 (x' := ⟨[(13, .v (.bool (b.checkE == 0))), (12, .v (.bool (b.checkE == 0))), (11, VI b.checkE), (6, VI b.checkE), (2, .ref 0 4 0 0), (1, VI now)], [some ⟨4, [[VI b.level, VI b.now, VI b.burst, VI b.rate]]⟩]⟩) (by kernel_rfl) ?_
  rcases Bool.eq_false_or_eq_true ((b.checkE == 0)) with h1 | h1
  · rw [h1]
    have g1 : (b.checkE = 0) := by simpa using h1
    refine OW.run 1 (x' := ⟨[(14, VI now), (13, .v (.bool true)), (12, .v (.bool true)), (11, VI b.checkE), (6, VI b.checkE), (2, .ref 0 4 0 0), (1, VI now)], [some ⟨4, [[VI b.level, VI b.now, VI b.burst, VI b.rate]]⟩]⟩) (by kernel_rfl) ?_
    refine OW.fn (ar := [VI now]) (x' := ⟨[(15, .v (.bool (!(wi now 0 1000000)))), (14, VI now), (13, .v (.bool true)), (12, .v (.bool true)), (11, VI b.checkE), (6, VI b.checkE), (2, .ref 0 4 0 0), (1, VI now)], [some ⟨4, [[VI b.level, VI b.now, VI b.burst, VI b.rate]]⟩]⟩) (by kernel_rfl) (by kernel_rfl) F22_call (noTime_fn now) (by kernel_rfl) (by kernel_rfl) ?_
    refine OW.last 1 [1, 2, 6, 16] (x' := ⟨[(16, .v (.bool (!(wi now 0 1000000)))), (6, VI b.checkE), (2, .ref 0 4 0 0), (1, VI now)], [some ⟨4, [[VI b.level, VI b.now, VI b.burst, VI b.rate]]⟩]⟩) (by kernel_rfl) (by kernel_rfl) ?_
    rcases Bool.eq_false_or_eq_true (wi now 0 1000000) with h2 | h2
    · rw [h2]
      have g2 : (0 ≤ now ∧ now ≤ 1000000) := wi_iff.1 h2
      refine EL.condF (by kernel_rfl) ?_
      refine EL.skip ?_
      refine thenL_norm ?_
      refine EL.seq ?_
      refine EL.sreg ?_
      refine OW.run 3 (x' := ⟨[(19, .v (.bool (b.checkE == 0))), (18, .v (.bool (b.checkE == 0))), (17, VI b.checkE), (16, .v (.bool false)), (6, VI b.checkE), (2, .ref 0 4 0 0), (1, VI now)], [some ⟨4, [[VI b.level, VI b.now, VI b.burst, VI b.rate]]⟩]⟩) (by kernel_rfl) ?_
      rw [h1]
      refine OW.last 5 [1, 2, 6, 24] (x' := ⟨[(24, .v (.bool (decide (b.now > now)))), (6, VI b.checkE), (2, .ref 0 4 0 0), (1, VI now)], [some ⟨4, [[VI b.level, VI b.now, VI b.burst, VI b.rate]]⟩]⟩) (by kernel_rfl) (by kernel_rfl) ?_
      rcases Bool.eq_false_or_eq_true (decide (b.now > now)) with h3 | h3
      · rw [h3]
        have g3 : (b.now > now) := of_decide_eq_true h3
        refine EL.condT (by kernel_rfl) ?_
        refine EL.reg0 ?_
        refine OW.end 1 (x' := ⟨[(6, VI 4), (24, .v (.bool true)), (2, .ref 0 4 0 0), (1, VI now)], [some ⟨4, [[VI b.level, VI b.now, VI b.burst, VI b.rate]]⟩]⟩) (by kernel_rfl) (by kernel_rfl) ?_
        refine thenL_norm ?_
        refine EL.seq ?_
        refine EL.sreg ?_
        refine OW.last 2 [1, 2, 6, 26] (x' := ⟨[(26, .v (.bool true)), (6, VI 4), (2, .ref 0 4 0 0), (1, VI now)], [some ⟨4, [[VI b.level, VI b.now, VI b.burst, VI b.rate]]⟩]⟩) (by kernel_rfl) (by kernel_rfl) ?_
        refine EL.condT (by kernel_rfl) ?_
        refine EL.sreg ?_
        refine OW.last 3 [4, 5] (x' := ⟨[(5, VI 4), (4, VI 0)], [some ⟨4, [[VI b.level, VI b.now, VI b.burst, VI b.rate]]⟩]⟩) (by kernel_rfl) (by kernel_rfl) ?_
        refine EL.ret ?_
        refine thenL_ret ?_
        refine ⟨.inr rfl, .tup [VI 0, VI 4], by kernel_rfl, Ale.of_eq ?_⟩
        have hm := Int.mul_comm b.rate (now - b.now); (simp only [Bucket.levelP, Bucket.lev, Bucket.came]; (repeat' split) <;> first | rfl | (exfalso; omega) | (rw [Bucket.check_3 ‹_›]) | (simp <;> omega) | trace_state)
      · rw [h3]
        have g3 : ¬ (b.now > now) := of_decide_eq_false h3
        refine EL.condF (by kernel_rfl) ?_
        refine EL.skip ?_
        refine thenL_norm ?_
        refine EL.seq ?_
        refine EL.sreg ?_
        refine OW.last 2 [1, 2, 6, 26] (x' := ⟨[(26, .v (.bool (b.checkE != 0))), (6, VI b.checkE), (2, .ref 0 4 0 0), (1, VI now)], [some ⟨4, [[VI b.level, VI b.now, VI b.burst, VI b.rate]]⟩]⟩) (by kernel_rfl) (by kernel_rfl) ?_
        have h4 : (b.checkE != 0) = false := (by show (!(b.checkE == 0)) = _; rw [h1]; rfl)
        rw [h4]
        refine EL.condF (by kernel_rfl) ?_
        refine EL.skip ?_
        refine thenL_norm ?_
        refine EL.sreg ?_
        refine OW.run 6 (x' := ⟨[(7, VI (IntKind.i64.wrap (b.burst - b.level))), (32, VI (IntKind.i64.wrap (b.burst - b.level))), (31, VI b.level), (30, .ref 0 4 0 0), (29, VI b.burst), (28, .ref 0 4 0 2), (26, .v (.bool false)), (6, VI b.checkE), (2, .ref 0 4 0 0), (1, VI now)], [some ⟨4, [[VI b.level, VI b.now, VI b.burst, VI b.rate]]⟩]⟩) (by kernel_rfl) ?_
        have e5 : IntKind.i64.wrap (b.burst - b.level) = b.burst - b.level := wr64 (by have hb := Bucket.check_0.1 ‹b.checkE = 0›; obtain ⟨_, ⟨_, _⟩, ⟨_, _⟩, _⟩ := id hb; have hc := Bucket.came_bd hb (now := now) (by omega) (by omega); have hd := Int.mul_comm b.rate (now - b.now); unfold Bucket.came at hc; omega)
        rw [e5]
        refine OW.last 0 [1, 2, 7] (x' := ⟨[(7, VI (b.burst - b.level)), (2, .ref 0 4 0 0), (1, VI now)], [some ⟨4, [[VI b.level, VI b.now, VI b.burst, VI b.rate]]⟩]⟩) (by kernel_rfl) (by kernel_rfl) ?_
        refine EL.sreg ?_
        refine OW.run 8 (x' := ⟨[(8, VI (IntKind.i64.wrap ((IntKind.i64.wrap (now - b.now)) * b.rate))), (39, VI (IntKind.i64.wrap ((IntKind.i64.wrap (now - b.now)) * b.rate))), (38, VI b.rate), (37, .ref 0 4 0 3), (36, VI (IntKind.i64.wrap (now - b.now))), (35, VI b.now), (34, .ref 0 4 0 1), (33, VI now), (7, VI (b.burst - b.level)), (2, .ref 0 4 0 0), (1, VI now)], [some ⟨4, [[VI b.level, VI b.now, VI b.burst, VI b.rate]]⟩]⟩) (by kernel_rfl) ?_
        have e6 : IntKind.i64.wrap (now - b.now) = now - b.now := wr64 (by have hb := Bucket.check_0.1 ‹b.checkE = 0›; obtain ⟨_, ⟨_, _⟩, ⟨_, _⟩, _⟩ := id hb; have hc := Bucket.came_bd hb (now := now) (by omega) (by omega); have hd := Int.mul_comm b.rate (now - b.now); unfold Bucket.came at hc; omega)
        rw [e6]
        have e7 : IntKind.i64.wrap ((now - b.now) * b.rate) = (now - b.now) * b.rate := wr64 (by have hb := Bucket.check_0.1 ‹b.checkE = 0›; obtain ⟨_, ⟨_, _⟩, ⟨_, _⟩, _⟩ := id hb; have hc := Bucket.came_bd hb (now := now) (by omega) (by omega); have hd := Int.mul_comm b.rate (now - b.now); unfold Bucket.came at hc; omega)
        rw [e7]
        refine OW.last 0 [2, 7, 8] (x' := ⟨[(8, VI ((now - b.now) * b.rate)), (7, VI (b.burst - b.level)), (2, .ref 0 4 0 0)], [some ⟨4, [[VI b.level, VI b.now, VI b.burst, VI b.rate]]⟩]⟩) (by kernel_rfl) (by kernel_rfl) ?_
        refine EL.seq ?_
        refine EL.sreg ?_
        refine OW.last 3 [2, 7, 8, 42] (x' := ⟨[(42, .v (.bool (decide (((now - b.now) * b.rate) > (b.burst - b.level))))), (8, VI ((now - b.now) * b.rate)), (7, VI (b.burst - b.level)), (2, .ref 0 4 0 0)], [some ⟨4, [[VI b.level, VI b.now, VI b.burst, VI b.rate]]⟩]⟩) (by kernel_rfl) (by kernel_rfl) ?_
        rcases Bool.eq_false_or_eq_true (decide (((now - b.now) * b.rate) > (b.burst - b.level))) with h8 | h8
        · rw [h8]
          have g8 : (((now - b.now) * b.rate) > (b.burst - b.level)) := of_decide_eq_true h8
          refine EL.condT (by kernel_rfl) ?_
          refine EL.reg0 ?_
          refine OW.end 2 (x' := ⟨[(8, VI (b.burst - b.level)), (43, VI (b.burst - b.level)), (42, .v (.bool true)), (7, VI (b.burst - b.level)), (2, .ref 0 4 0 0)], [some ⟨4, [[VI b.level, VI b.now, VI b.burst, VI b.rate]]⟩]⟩) (by kernel_rfl) (by kernel_rfl) ?_
          refine thenL_norm ?_
          refine EL.sreg ?_
          refine OW.run 6 (x' := ⟨[(5, VI 0), (4, VI (IntKind.i64.wrap (b.level + (b.burst - b.level)))), (47, VI (IntKind.i64.wrap (b.level + (b.burst - b.level)))), (46, VI (b.burst - b.level)), (45, VI b.level), (44, .ref 0 4 0 0), (8, VI (b.burst - b.level)), (43, VI (b.burst - b.level)), (42, .v (.bool true)), (7, VI (b.burst - b.level)), (2, .ref 0 4 0 0)], [some ⟨4, [[VI b.level, VI b.now, VI b.burst, VI b.rate]]⟩]⟩) (by kernel_rfl) ?_
          have e9 : IntKind.i64.wrap (b.level + (b.burst - b.level)) = b.level + (b.burst - b.level) := wr64 (by have hb := Bucket.check_0.1 ‹b.checkE = 0›; obtain ⟨_, ⟨_, _⟩, ⟨_, _⟩, _⟩ := id hb; have hc := Bucket.came_bd hb (now := now) (by omega) (by omega); have hd := Int.mul_comm b.rate (now - b.now); unfold Bucket.came at hc; omega)
          rw [e9]
          refine OW.last 0 [4, 5] (x' := ⟨[(5, VI 0), (4, VI (b.level + (b.burst - b.level)))], [some ⟨4, [[VI b.level, VI b.now, VI b.burst, VI b.rate]]⟩]⟩) (by kernel_rfl) (by kernel_rfl) ?_
          refine EL.ret ?_
          refine ⟨.inr rfl, .tup [VI (b.level + (b.burst - b.level)), VI 0], by kernel_rfl, Ale.of_eq ?_⟩
          have hm := Int.mul_comm b.rate (now - b.now); (simp only [Bucket.levelP, Bucket.lev, Bucket.came]; (repeat' split) <;> first | rfl | (exfalso; omega) | (rw [Bucket.check_3 ‹_›]) | (simp <;> omega) | trace_state)
        · rw [h8]
          have g8 : ¬ (((now - b.now) * b.rate) > (b.burst - b.level)) := of_decide_eq_false h8
          refine EL.condF (by kernel_rfl) ?_
          refine EL.skip ?_
          refine thenL_norm ?_
          refine EL.sreg ?_
          refine OW.run 6 (x' := ⟨[(5, VI 0), (4, VI (IntKind.i64.wrap (b.level + ((now - b.now) * b.rate)))), (47, VI (IntKind.i64.wrap (b.level + ((now - b.now) * b.rate)))), (46, VI ((now - b.now) * b.rate)), (45, VI b.level), (44, .ref 0 4 0 0), (42, .v (.bool false)), (8, VI ((now - b.now) * b.rate)), (7, VI (b.burst - b.level)), (2, .ref 0 4 0 0)], [some ⟨4, [[VI b.level, VI b.now, VI b.burst, VI b.rate]]⟩]⟩) (by kernel_rfl) ?_
          have e10 : IntKind.i64.wrap (b.level + ((now - b.now) * b.rate)) = b.level + ((now - b.now) * b.rate) := wr64 (by have hb := Bucket.check_0.1 ‹b.checkE = 0›; obtain ⟨_, ⟨_, _⟩, ⟨_, _⟩, _⟩ := id hb; have hc := Bucket.came_bd hb (now := now) (by omega) (by omega); have hd := Int.mul_comm b.rate (now - b.now); unfold Bucket.came at hc; omega)
          rw [e10]
          refine OW.last 0 [4, 5] (x' := ⟨[(5, VI 0), (4, VI (b.level + ((now - b.now) * b.rate)))], [some ⟨4, [[VI b.level, VI b.now, VI b.burst, VI b.rate]]⟩]⟩) (by kernel_rfl) (by kernel_rfl) ?_
          refine EL.ret ?_
          refine ⟨.inr rfl, .tup [VI (b.level + ((now - b.now) * b.rate)), VI 0], by kernel_rfl, Ale.of_eq ?_⟩
          have hm := Int.mul_comm b.rate (now - b.now); (simp only [Bucket.levelP, Bucket.lev, Bucket.came]; (repeat' split) <;> first | rfl | (exfalso; omega) | (rw [Bucket.check_3 ‹_›]) | (simp <;> omega) | trace_state)
    · rw [h2]
      have g2 : ¬ (0 ≤ now ∧ now ≤ 1000000) := fun hh => Bool.noConfusion ((wi_iff.2 hh).symm.trans h2)
      refine EL.condT (by kernel_rfl) ?_
      refine EL.reg0 ?_
      refine OW.end 1 (x' := ⟨[(6, VI 3), (16, .v (.bool true)), (2, .ref 0 4 0 0), (1, VI now)], [some ⟨4, [[VI b.level, VI b.now, VI b.burst, VI b.rate]]⟩]⟩) (by kernel_rfl) (by kernel_rfl) ?_
      refine thenL_norm ?_
      refine EL.seq ?_
      refine EL.sreg ?_
      refine OW.last 8 [1, 2, 6, 24] (x' := ⟨[(24, .v (.bool false)), (6, VI 3), (2, .ref 0 4 0 0), (1, VI now)], [some ⟨4, [[VI b.level, VI b.now, VI b.burst, VI b.rate]]⟩]⟩) (by kernel_rfl) (by kernel_rfl) ?_
      refine EL.condF (by kernel_rfl) ?_
      refine EL.skip ?_
      refine thenL_norm ?_
      refine EL.seq ?_
      refine EL.sreg ?_
      refine OW.last 2 [1, 2, 6, 26] (x' := ⟨[(26, .v (.bool true)), (6, VI 3), (2, .ref 0 4 0 0), (1, VI now)], [some ⟨4, [[VI b.level, VI b.now, VI b.burst, VI b.rate]]⟩]⟩) (by kernel_rfl) (by kernel_rfl) ?_
      refine EL.condT (by kernel_rfl) ?_
      refine EL.sreg ?_
      refine OW.last 3 [4, 5] (x' := ⟨[(5, VI 3), (4, VI 0)], [some ⟨4, [[VI b.level, VI b.now, VI b.burst, VI b.rate]]⟩]⟩) (by kernel_rfl) (by kernel_rfl) ?_
      refine EL.ret ?_
      refine thenL_ret ?_
      refine ⟨.inr rfl, .tup [VI 0, VI 3], by kernel_rfl, Ale.of_eq ?_⟩
      have hm := Int.mul_comm b.rate (now - b.now); (simp only [Bucket.levelP, Bucket.lev, Bucket.came]; (repeat' split) <;> first | rfl | (exfalso; omega) | (rw [Bucket.check_3 ‹_›]) | (simp <;> omega) | trace_state)
  · rw [h1]
    have g1 : ¬ (b.checkE = 0) := by simpa using h1
    refine OW.last 3 [1, 2, 6, 16] (x' := ⟨[(16, .v (.bool false)), (6, VI b.checkE), (2, .ref 0 4 0 0), (1, VI now)], [some ⟨4, [[VI b.level, VI b.now, VI b.burst, VI b.rate]]⟩]⟩) (by kernel_rfl) (by kernel_rfl) ?_
    refine EL.condF (by kernel_rfl) ?_
    refine EL.skip ?_
    refine thenL_norm ?_
    refine EL.seq ?_
    refine EL.sreg ?_
    refine OW.run 3 (x' := ⟨[(19, .v (.bool (b.checkE == 0))), (18, .v (.bool (b.checkE == 0))), (17, VI b.checkE), (16, .v (.bool false)), (6, VI b.checkE), (2, .ref 0 4 0 0), (1, VI now)], [some ⟨4, [[VI b.level, VI b.now, VI b.burst, VI b.rate]]⟩]⟩) (by kernel_rfl) ?_
    rw [h1]
    refine OW.last 5 [1, 2, 6, 24] (x' := ⟨[(24, .v (.bool false)), (6, VI b.checkE), (2, .ref 0 4 0 0), (1, VI now)], [some ⟨4, [[VI b.level, VI b.now, VI b.burst, VI b.rate]]⟩]⟩) (by kernel_rfl) (by kernel_rfl) ?_
    refine EL.condF (by kernel_rfl) ?_
    refine EL.skip ?_
    refine thenL_norm ?_
    refine EL.seq ?_
    refine EL.sreg ?_
    refine OW.last 2 [1, 2, 6, 26] (x' := ⟨[(26, .v (.bool (b.checkE != 0))), (6, VI b.checkE), (2, .ref 0 4 0 0), (1, VI now)], [some ⟨4, [[VI b.level, VI b.now, VI b.burst, VI b.rate]]⟩]⟩) (by kernel_rfl) (by kernel_rfl) ?_
    have h11 : (b.checkE != 0) = true := (by show (!(b.checkE == 0)) = _; rw [h1]; rfl)
    rw [h11]
    refine EL.condT (by kernel_rfl) ?_
    refine EL.sreg ?_
    refine OW.last 3 [4, 5] (x' := ⟨[(5, VI b.checkE), (4, VI 0)], [some ⟨4, [[VI b.level, VI b.now, VI b.burst, VI b.rate]]⟩]⟩) (by kernel_rfl) (by kernel_rfl) ?_
    refine EL.ret ?_
    refine thenL_ret ?_
    refine ⟨.inr rfl, .tup [VI 0, VI b.checkE], by kernel_rfl, Ale.of_eq ?_⟩
    have hm := Int.mul_comm b.rate (now - b.now); (simp only [Bucket.levelP, Bucket.lev, Bucket.came]; (repeat' split) <;> first | rfl | (exfalso; omega) | (rw [Bucket.check_3 ‹_›]) | (simp <;> omega) | trace_state)
theorem take_fn (b : Bucket) (now : Int) (n : Int) : Fn Try.prog 10 [.agg [VI b.level, VI b.now, VI b.burst, VI b.rate], VI now, VI n] (.tup [.agg [VI (((b.takeP now n).1).level), VI (((b.takeP now n).1).now), VI (((b.takeP now n).1).burst), VI (((b.takeP now n).1).rate)], VI ((b.takeP now n).2)]) := by
  refine fn_walkW F10_ok (of_decide_eq_true (by kernel_rfl)) ?_
  refine EL.sreg ?_
  refine OW.last 3 [1, 2, 3, 6] (x' := ⟨[(6, .ref 1 4 0 0), (3, .ref 0 4 0 0), (1, VI now), (2, VI n)], [some ⟨4, [[VI b.level, VI b.now, VI b.burst, VI b.rate]]⟩, some ⟨4, [[VI 0, VI 0, VI 0, VI 0]]⟩]⟩) (by kernel_rfl) (by kernel_rfl) ?_
  refine EL.sreg ?_
  refine OW.run 2 (x' := ⟨[(12, VI now), (11, .agg [VI b.level, VI b.now, VI b.burst, VI b.rate]), (6, .ref 1 4 0 0), (3, .ref 0 4 0 0), (1, VI now), (2, VI n)], [some ⟨4, [[VI b.level, VI b.now, VI b.burst, VI b.rate]]⟩, some ⟨4, [[VI 0, VI 0, VI 0, VI 0]]⟩]⟩) (by kernel_rfl) ?_
  refine OW.fn (ar := [.agg [VI b.level, VI b.now, VI b.burst, VI b.rate], VI now]) (x' := ⟨[(13, .tup [VI ((b.levelP now).1), VI ((b.levelP now).2)]), (12, VI now), (11, .agg [VI b.level, VI b.now, VI b.burst, VI b.rate]), (6, .ref 1 4 0 0), (3, .ref 0 4 0 0), (1, VI now), (2, VI n)], [some ⟨4, [[VI b.level, VI b.now, VI b.burst, VI b.rate]]⟩, some ⟨4, [[VI 0, VI 0, VI 0, VI 0]]⟩]⟩) (by kernel_rfl) (by kernel_rfl) F9_call (level_fn b now) (by kernel_rfl) (by kernel_rfl) ?_
  refine OW.last 5 [1, 2, 3, 6, 8, 9] (x' := ⟨[(9, VI ((b.levelP now).2)), (8, VI ((b.levelP now).1)), (6, .ref 1 4 0 0), (3, .ref 0 4 0 0), (1, VI now), (2, VI n)], [some ⟨4, [[VI b.level, VI b.now, VI b.burst, VI b.rate]]⟩, some ⟨4, [[VI 0, VI 0, VI 0, VI 0]]⟩]⟩) (by kernel_rfl) (by kernel_rfl) ?_
  refine EL.seq ?_
  refine EL.block ?_
  refine EL.sreg ?_
  refine OW.last 3 [1, 2, 3, 6, 8, 9, 16] (x' := ⟨[(16, .v (.bool (((b.levelP now).2) != 0))), (9, VI ((b.levelP now).2)), (8, VI ((b.levelP now).1)), (6, .ref 1 4 0 0), (3, .ref 0 4 0 0), (1, VI now), (2, VI n)], [some ⟨4, [[VI b.level, VI b.now, VI b.burst, VI b.rate]]⟩, some ⟨4, [[VI 0, VI 0, VI 0, VI 0]]⟩]⟩) (by kernel_rfl) (by kernel_rfl) ?_
  rcases Bool.eq_false_or_eq_true ((((b.levelP now).2) != 0)) with h1 | h1
  · rw [h1]
    have g1 : ¬ (((b.levelP now).2) = 0) := by simpa using h1
    refine EL.condT (by kernel_rfl) ?_
    refine EL.skip ?_
    refine inBlk_norm ?_
    refine thenL_norm ?_
    refine EL.seq ?_
    refine EL.sreg ?_
    refine OW.last 2 [1, 2, 3, 6, 8, 9, 30] (x' := ⟨[(30, .v (.bool (((b.levelP now).2) != 0))), (9, VI ((b.levelP now).2)), (8, VI ((b.levelP now).1)), (6, .ref 1 4 0 0), (3, .ref 0 4 0 0), (1, VI now), (2, VI n)], [some ⟨4, [[VI b.level, VI b.now, VI b.burst, VI b.rate]]⟩, some ⟨4, [[VI 0, VI 0, VI 0, VI 0]]⟩]⟩) (by kernel_rfl) (by kernel_rfl) ?_
    rw [h1]
    refine EL.condT (by kernel_rfl) ?_
    refine EL.sreg ?_
    refine OW.last 4 [6, 7] (x' := ⟨[(7, VI ((b.levelP now).2)), (6, .ref 1 4 0 0)], [some ⟨4, [[VI b.level, VI b.now, VI b.burst, VI b.rate]]⟩, some ⟨4, [[VI 0, VI 0, VI 0, VI 0]]⟩]⟩) (by kernel_rfl) (by kernel_rfl) ?_
    refine EL.ret ?_
    refine thenL_ret ?_
    refine ⟨.inr rfl, .tup [.agg [VI 0, VI 0, VI 0, VI 0], VI ((b.levelP now).2)], by kernel_rfl, Ale.of_eq ?_⟩
    (simp only [Bucket.takeP]; (repeat' split) <;> first | rfl | (exfalso; omega) | (rw [Bucket.check_3 ‹_›]) | (simp <;> omega) | trace_state)
  · rw [h1]
    have g1 : (((b.levelP now).2) = 0) := by simpa using h1
    refine EL.condF (by kernel_rfl) ?_
    refine EL.sreg ?_
    refine OW.run 3 (x' := ⟨[(22, VI b.burst), (21, .ref 0 4 0 2), (20, VI n), (16, .v (.bool false)), (9, VI ((b.levelP now).2)), (8, VI ((b.levelP now).1)), (6, .ref 1 4 0 0), (3, .ref 0 4 0 0), (1, VI now), (2, VI n)], [some ⟨4, [[VI b.level, VI b.now, VI b.burst, VI b.rate]]⟩, some ⟨4, [[VI 0, VI 0, VI 0, VI 0]]⟩]⟩) (by kernel_rfl) ?_
    refine OW.fn (ar := [VI n, VI 0, VI b.burst]) (x' := ⟨[(23, .v (.bool (wi n 0 b.burst))), (22, VI b.burst), (21, .ref 0 4 0 2), (20, VI n), (16, .v (.bool false)), (9, VI ((b.levelP now).2)), (8, VI ((b.levelP now).1)), (6, .ref 1 4 0 0), (3, .ref 0 4 0 0), (1, VI now), (2, VI n)], [some ⟨4, [[VI b.level, VI b.now, VI b.burst, VI b.rate]]⟩, some ⟨4, [[VI 0, VI 0, VI 0, VI 0]]⟩]⟩) (by kernel_rfl) (by kernel_rfl) F21_call (within_fn n 0 b.burst) (by kernel_rfl) (by kernel_rfl) ?_
    refine OW.last 2 [1, 2, 3, 6, 8, 9, 19] (x' := ⟨[(19, .v (.bool (!(wi n 0 b.burst)))), (9, VI ((b.levelP now).2)), (8, VI ((b.levelP now).1)), (6, .ref 1 4 0 0), (3, .ref 0 4 0 0), (1, VI now), (2, VI n)], [some ⟨4, [[VI b.level, VI b.now, VI b.burst, VI b.rate]]⟩, some ⟨4, [[VI 0, VI 0, VI 0, VI 0]]⟩]⟩) (by kernel_rfl) (by kernel_rfl) ?_
    rcases Bool.eq_false_or_eq_true (wi n 0 b.burst) with h2 | h2
    · rw [h2]
      have g2 : (0 ≤ n ∧ n ≤ b.burst) := wi_iff.1 h2
      refine EL.condF (by kernel_rfl) ?_
      refine EL.sreg ?_
      refine OW.last 4 [1, 2, 3, 6, 8, 9, 25] (x' := ⟨[(25, .v (.bool (decide (n > (b.levelP now).1)))), (9, VI ((b.levelP now).2)), (8, VI ((b.levelP now).1)), (6, .ref 1 4 0 0), (3, .ref 0 4 0 0), (1, VI now), (2, VI n)], [some ⟨4, [[VI b.level, VI b.now, VI b.burst, VI b.rate]]⟩, some ⟨4, [[VI 0, VI 0, VI 0, VI 0]]⟩]⟩) (by kernel_rfl) (by kernel_rfl) ?_
      rcases Bool.eq_false_or_eq_true (decide (n > (b.levelP now).1)) with h3 | h3
      · rw [h3]
        have g3 : (n > (b.levelP now).1) := of_decide_eq_true h3
        refine EL.condT (by kernel_rfl) ?_
        refine EL.reg0 ?_
        refine OW.end 1 (x' := ⟨[(9, VI 8), (25, .v (.bool true)), (8, VI ((b.levelP now).1)), (6, .ref 1 4 0 0), (3, .ref 0 4 0 0), (1, VI now), (2, VI n)], [some ⟨4, [[VI b.level, VI b.now, VI b.burst, VI b.rate]]⟩, some ⟨4, [[VI 0, VI 0, VI 0, VI 0]]⟩]⟩) (by kernel_rfl) (by kernel_rfl) ?_
        refine inBlk_norm ?_
        refine thenL_norm ?_
        refine EL.seq ?_
        refine EL.sreg ?_
        refine OW.last 2 [1, 2, 3, 6, 8, 9, 30] (x' := ⟨[(30, .v (.bool true)), (9, VI 8), (8, VI ((b.levelP now).1)), (6, .ref 1 4 0 0), (3, .ref 0 4 0 0), (1, VI now), (2, VI n)], [some ⟨4, [[VI b.level, VI b.now, VI b.burst, VI b.rate]]⟩, some ⟨4, [[VI 0, VI 0, VI 0, VI 0]]⟩]⟩) (by kernel_rfl) (by kernel_rfl) ?_
        refine EL.condT (by kernel_rfl) ?_
        refine EL.sreg ?_
        refine OW.last 4 [6, 7] (x' := ⟨[(7, VI 8), (6, .ref 1 4 0 0)], [some ⟨4, [[VI b.level, VI b.now, VI b.burst, VI b.rate]]⟩, some ⟨4, [[VI 0, VI 0, VI 0, VI 0]]⟩]⟩) (by kernel_rfl) (by kernel_rfl) ?_
        refine EL.ret ?_
        refine thenL_ret ?_
        refine ⟨.inr rfl, .tup [.agg [VI 0, VI 0, VI 0, VI 0], VI 8], by kernel_rfl, Ale.of_eq ?_⟩
        (simp only [Bucket.takeP]; (repeat' split) <;> first | rfl | (exfalso; omega) | (rw [Bucket.check_3 ‹_›]) | (simp <;> omega) | trace_state)
      · rw [h3]
        have g3 : ¬ (n > (b.levelP now).1) := of_decide_eq_false h3
        refine EL.condF (by kernel_rfl) ?_
        refine EL.skip ?_
        refine inBlk_norm ?_
        refine thenL_norm ?_
        refine EL.seq ?_
        refine EL.sreg ?_
        refine OW.last 2 [1, 2, 3, 6, 8, 9, 30] (x' := ⟨[(30, .v (.bool (((b.levelP now).2) != 0))), (9, VI ((b.levelP now).2)), (8, VI ((b.levelP now).1)), (6, .ref 1 4 0 0), (3, .ref 0 4 0 0), (1, VI now), (2, VI n)], [some ⟨4, [[VI b.level, VI b.now, VI b.burst, VI b.rate]]⟩, some ⟨4, [[VI 0, VI 0, VI 0, VI 0]]⟩]⟩) (by kernel_rfl) (by kernel_rfl) ?_
        rw [h1]
        refine EL.condF (by kernel_rfl) ?_
        refine EL.skip ?_
        refine thenL_norm ?_
        refine EL.sreg ?_
        refine OW.run 8 (x' := ⟨[(38, .ref 0 4 0 1), (37, .ref 0 4 0 0), (36, VI now), (35, VI (IntKind.i64.wrap (((b.levelP now).1) - n))), (34, VI n), (33, VI ((b.levelP now).1)), (30, .v (.bool false)), (9, VI ((b.levelP now).2)), (8, VI ((b.levelP now).1)), (6, .ref 1 4 0 0), (3, .ref 0 4 0 0), (1, VI now), (2, VI n)], [some ⟨4, [[VI (IntKind.i64.wrap (((b.levelP now).1) - n)), VI now, VI b.burst, VI b.rate]]⟩, some ⟨4, [[VI 0, VI 0, VI 0, VI 0]]⟩]⟩) (by kernel_rfl) ?_
        have e4 : IntKind.i64.wrap (((b.levelP now).1) - n) = ((b.levelP now).1) - n := wr64 (by have := Bucket.lev_take ‹(b.levelP now).2 = 0›; omega)
        rw [e4]
        refine OW.last 0 [3, 6] (x' := ⟨[(6, .ref 1 4 0 0), (3, .ref 0 4 0 0)], [some ⟨4, [[VI (((b.levelP now).1) - n), VI now, VI b.burst, VI b.rate]]⟩, some ⟨4, [[VI 0, VI 0, VI 0, VI 0]]⟩]⟩) (by kernel_rfl) (by kernel_rfl) ?_
        refine EL.sreg ?_
        refine OW.last 3 [6, 7] (x' := ⟨[(7, VI 0), (6, .ref 1 4 0 0)], [some ⟨4, [[VI (((b.levelP now).1) - n), VI now, VI b.burst, VI b.rate]]⟩, some ⟨4, [[VI (((b.levelP now).1) - n), VI now, VI b.burst, VI b.rate]]⟩]⟩) (by kernel_rfl) (by kernel_rfl) ?_
        refine EL.ret ?_
        refine ⟨.inr rfl, .tup [.agg [VI (((b.levelP now).1) - n), VI now, VI b.burst, VI b.rate], VI 0], by kernel_rfl, Ale.of_eq ?_⟩
        (simp only [Bucket.takeP]; (repeat' split) <;> first | rfl | (exfalso; omega) | (rw [Bucket.check_3 ‹_›]) | (simp <;> omega) | trace_state)
    · rw [h2]
      have g2 : ¬ (0 ≤ n ∧ n ≤ b.burst) := fun hh => Bool.noConfusion ((wi_iff.2 hh).symm.trans h2)
      refine EL.condT (by kernel_rfl) ?_
      refine EL.reg0 ?_
      refine OW.end 1 (x' := ⟨[(9, VI 3), (19, .v (.bool true)), (8, VI ((b.levelP now).1)), (6, .ref 1 4 0 0), (3, .ref 0 4 0 0), (1, VI now), (2, VI n)], [some ⟨4, [[VI b.level, VI b.now, VI b.burst, VI b.rate]]⟩, some ⟨4, [[VI 0, VI 0, VI 0, VI 0]]⟩]⟩) (by kernel_rfl) (by kernel_rfl) ?_
      refine inBlk_norm ?_
      refine thenL_norm ?_
      refine EL.seq ?_
      refine EL.sreg ?_
      refine OW.last 2 [1, 2, 3, 6, 8, 9, 30] (x' := ⟨[(30, .v (.bool true)), (9, VI 3), (8, VI ((b.levelP now).1)), (6, .ref 1 4 0 0), (3, .ref 0 4 0 0), (1, VI now), (2, VI n)], [some ⟨4, [[VI b.level, VI b.now, VI b.burst, VI b.rate]]⟩, some ⟨4, [[VI 0, VI 0, VI 0, VI 0]]⟩]⟩) (by kernel_rfl) (by kernel_rfl) ?_
      refine EL.condT (by kernel_rfl) ?_
      refine EL.sreg ?_
      refine OW.last 4 [6, 7] (x' := ⟨[(7, VI 3), (6, .ref 1 4 0 0)], [some ⟨4, [[VI b.level, VI b.now, VI b.burst, VI b.rate]]⟩, some ⟨4, [[VI 0, VI 0, VI 0, VI 0]]⟩]⟩) (by kernel_rfl) (by kernel_rfl) ?_
      refine EL.ret ?_
      refine thenL_ret ?_
      refine ⟨.inr rfl, .tup [.agg [VI 0, VI 0, VI 0, VI 0], VI 3], by kernel_rfl, Ale.of_eq ?_⟩
      (simp only [Bucket.takeP]; (repeat' split) <;> first | rfl | (exfalso; omega) | (rw [Bucket.check_3 ‹_›]) | (simp <;> omega) | trace_state)
theorem rtake_fn (b : Bucket) (now : Int) (n : Int) : Fn Try.prog 13 [.agg [VI b.level, VI b.now, VI b.burst, VI b.rate], VI now, VI n] (.tup [.agg [VI (((b.takeP now n).1).level), VI (((b.takeP now n).1).now), VI (((b.takeP now n).1).burst), VI (((b.takeP now n).1).rate)], VI ((b.takeP now n).2)]) := by
  refine fn_walkW F13_ok (of_decide_eq_true (by kernel_rfl)) ?_
  refine EL.sreg ?_
  refine OW.last 3 [1, 2, 3, 6] (x' := ⟨[(6, .ref 1 4 0 0), (3, .ref 0 4 0 0), (1, VI now), (2, VI n)], [some ⟨4, [[VI b.level, VI b.now, VI b.burst, VI b.rate]]⟩, some ⟨4, [[VI 0, VI 0, VI 0, VI 0]]⟩]⟩) (by kernel_rfl) (by kernel_rfl) ?_
  refine EL.sreg ?_
  refine OW.run 2 (x' := ⟨[(12, VI now), (11, .agg [VI b.level, VI b.now, VI b.burst, VI b.rate]), (6, .ref 1 4 0 0), (3, .ref 0 4 0 0), (1, VI now), (2, VI n)], [some ⟨4, [[VI b.level, VI b.now, VI b.burst, VI b.rate]]⟩, some ⟨4, [[VI 0, VI 0, VI 0, VI 0]]⟩]⟩) (by kernel_rfl) ?_
  refine OW.fn (ar := [.agg [VI b.level, VI b.now, VI b.burst, VI b.rate], VI now]) (x' := ⟨[(13, .tup [VI ((b.levelP now).1), VI ((b.levelP now).2)]), (12, VI now), (11, .agg [VI b.level, VI b.now, VI b.burst, VI b.rate]), (6, .ref 1 4 0 0), (3, .ref 0 4 0 0), (1, VI now), (2, VI n)], [some ⟨4, [[VI b.level, VI b.now, VI b.burst, VI b.rate]]⟩, some ⟨4, [[VI 0, VI 0, VI 0, VI 0]]⟩]⟩) (by kernel_rfl) (by kernel_rfl) F12_call (rlevel_fn b now) (by kernel_rfl) (by kernel_rfl) ?_
  refine OW.last 5 [1, 2, 3, 6, 8, 9] (x' := ⟨[(9, VI ((b.levelP now).2)), (8, VI ((b.levelP now).1)), (6, .ref 1 4 0 0), (3, .ref 0 4 0 0), (1, VI now), (2, VI n)], [some ⟨4, [[VI b.level, VI b.now, VI b.burst, VI b.rate]]⟩, some ⟨4, [[VI 0, VI 0, VI 0, VI 0]]⟩]⟩) (by kernel_rfl) (by kernel_rfl) ?_
  refine EL.seq ?_
  refine EL.sreg ?_
  refine OW.run 3 (x' := ⟨[(18, .v (.bool (((b.levelP now).2) == 0))), (17, .v (.bool (((b.levelP now).2) == 0))), (16, VI ((b.levelP now).2)), (9, VI ((b.levelP now).2)), (8, VI ((b.levelP now).1)), (6, .ref 1 4 0 0), (3, .ref 0 4 0 0), (1, VI now), (2, VI n)], [some ⟨4, [[VI b.level, VI b.now, VI b.burst, VI b.rate]]⟩, some ⟨4, [[VI 0, VI 0, VI 0, VI 0]]⟩]⟩) (by kernel_rfl) ?_
  rcases Bool.eq_false_or_eq_true ((((b.levelP now).2) == 0)) with h1 | h1
  · rw [h1]
    have g1 : (((b.levelP now).2) = 0) := by simpa using h1
    refine OW.run 3 (x' := ⟨[(21, .v (.bool (decide (n < 0)))), (20, .v (.bool (decide (n < 0)))), (19, VI n), (18, .v (.bool true)), (17, .v (.bool true)), (16, VI ((b.levelP now).2)), (9, VI ((b.levelP now).2)), (8, VI ((b.levelP now).1)), (6, .ref 1 4 0 0), (3, .ref 0 4 0 0), (1, VI now), (2, VI n)], [some ⟨4, [[VI b.level, VI b.now, VI b.burst, VI b.rate]]⟩, some ⟨4, [[VI 0, VI 0, VI 0, VI 0]]⟩]⟩) (by kernel_rfl) ?_
    rcases Bool.eq_false_or_eq_true (decide (n < 0)) with h2 | h2
    · rw [h2]
      have g2 : (n < 0) := of_decide_eq_true h2
      refine OW.last 6 [1, 2, 3, 6, 8, 9, 27] (x' := ⟨[(27, .v (.bool true)), (9, VI ((b.levelP now).2)), (8, VI ((b.levelP now).1)), (6, .ref 1 4 0 0), (3, .ref 0 4 0 0), (1, VI now), (2, VI n)], [some ⟨4, [[VI b.level, VI b.now, VI b.burst, VI b.rate]]⟩, some ⟨4, [[VI 0, VI 0, VI 0, VI 0]]⟩]⟩) (by kernel_rfl) (by kernel_rfl) ?_
      refine EL.condT (by kernel_rfl) ?_
      refine EL.reg0 ?_
      refine OW.end 1 (x' := ⟨[(9, VI 3), (27, .v (.bool true)), (8, VI ((b.levelP now).1)), (6, .ref 1 4 0 0), (3, .ref 0 4 0 0), (1, VI now), (2, VI n)], [some ⟨4, [[VI b.level, VI b.now, VI b.burst, VI b.rate]]⟩, some ⟨4, [[VI 0, VI 0, VI 0, VI 0]]⟩]⟩) (by kernel_rfl) (by kernel_rfl) ?_
      refine thenL_norm ?_
      refine EL.seq ?_
      refine EL.sreg ?_
      refine OW.last 7 [1, 2, 3, 6, 8, 9, 34] (x' := ⟨[(34, .v (.bool false)), (9, VI 3), (8, VI ((b.levelP now).1)), (6, .ref 1 4 0 0), (3, .ref 0 4 0 0), (1, VI now), (2, VI n)], [some ⟨4, [[VI b.level, VI b.now, VI b.burst, VI b.rate]]⟩, some ⟨4, [[VI 0, VI 0, VI 0, VI 0]]⟩]⟩) (by kernel_rfl) (by kernel_rfl) ?_
      refine EL.condF (by kernel_rfl) ?_
      refine EL.skip ?_
      refine thenL_norm ?_
      refine EL.seq ?_
      refine EL.sreg ?_
      refine OW.last 2 [1, 2, 3, 6, 8, 9, 36] (x' := ⟨[(36, .v (.bool true)), (9, VI 3), (8, VI ((b.levelP now).1)), (6, .ref 1 4 0 0), (3, .ref 0 4 0 0), (1, VI now), (2, VI n)], [some ⟨4, [[VI b.level, VI b.now, VI b.burst, VI b.rate]]⟩, some ⟨4, [[VI 0, VI 0, VI 0, VI 0]]⟩]⟩) (by kernel_rfl) (by kernel_rfl) ?_
      refine EL.condT (by kernel_rfl) ?_
      refine EL.sreg ?_
      refine OW.last 4 [6, 7] (x' := ⟨[(7, VI 3), (6, .ref 1 4 0 0)], [some ⟨4, [[VI b.level, VI b.now, VI b.burst, VI b.rate]]⟩, some ⟨4, [[VI 0, VI 0, VI 0, VI 0]]⟩]⟩) (by kernel_rfl) (by kernel_rfl) ?_
      refine EL.ret ?_
      refine thenL_ret ?_
      refine ⟨.inr rfl, .tup [.agg [VI 0, VI 0, VI 0, VI 0], VI 3], by kernel_rfl, Ale.of_eq ?_⟩
      (simp only [Bucket.takeP]; (repeat' split) <;> first | rfl | (exfalso; omega) | (rw [Bucket.check_3 ‹_›]) | (simp <;> omega) | trace_state)
    · rw [h2]
      have g2 : ¬ (n < 0) := of_decide_eq_false h2
      refine OW.last 6 [1, 2, 3, 6, 8, 9, 27] (x' := ⟨[(27, .v (.bool (decide (n > b.burst)))), (9, VI ((b.levelP now).2)), (8, VI ((b.levelP now).1)), (6, .ref 1 4 0 0), (3, .ref 0 4 0 0), (1, VI now), (2, VI n)], [some ⟨4, [[VI b.level, VI b.now, VI b.burst, VI b.rate]]⟩, some ⟨4, [[VI 0, VI 0, VI 0, VI 0]]⟩]⟩) (by kernel_rfl) (by kernel_rfl) ?_
      rcases Bool.eq_false_or_eq_true (decide (n > b.burst)) with h3 | h3
      · rw [h3]
        have g3 : (n > b.burst) := of_decide_eq_true h3
        refine EL.condT (by kernel_rfl) ?_
        refine EL.reg0 ?_
        refine OW.end 1 (x' := ⟨[(9, VI 3), (27, .v (.bool true)), (8, VI ((b.levelP now).1)), (6, .ref 1 4 0 0), (3, .ref 0 4 0 0), (1, VI now), (2, VI n)], [some ⟨4, [[VI b.level, VI b.now, VI b.burst, VI b.rate]]⟩, some ⟨4, [[VI 0, VI 0, VI 0, VI 0]]⟩]⟩) (by kernel_rfl) (by kernel_rfl) ?_
        refine thenL_norm ?_
        refine EL.seq ?_
        refine EL.sreg ?_
        refine OW.last 7 [1, 2, 3, 6, 8, 9, 34] (x' := ⟨[(34, .v (.bool false)), (9, VI 3), (8, VI ((b.levelP now).1)), (6, .ref 1 4 0 0), (3, .ref 0 4 0 0), (1, VI now), (2, VI n)], [some ⟨4, [[VI b.level, VI b.now, VI b.burst, VI b.rate]]⟩, some ⟨4, [[VI 0, VI 0, VI 0, VI 0]]⟩]⟩) (by kernel_rfl) (by kernel_rfl) ?_
        refine EL.condF (by kernel_rfl) ?_
        refine EL.skip ?_
        refine thenL_norm ?_
        refine EL.seq ?_
        refine EL.sreg ?_
        refine OW.last 2 [1, 2, 3, 6, 8, 9, 36] (x' := ⟨[(36, .v (.bool true)), (9, VI 3), (8, VI ((b.levelP now).1)), (6, .ref 1 4 0 0), (3, .ref 0 4 0 0), (1, VI now), (2, VI n)], [some ⟨4, [[VI b.level, VI b.now, VI b.burst, VI b.rate]]⟩, some ⟨4, [[VI 0, VI 0, VI 0, VI 0]]⟩]⟩) (by kernel_rfl) (by kernel_rfl) ?_
        refine EL.condT (by kernel_rfl) ?_
        refine EL.sreg ?_
        refine OW.last 4 [6, 7] (x' := ⟨[(7, VI 3), (6, .ref 1 4 0 0)], [some ⟨4, [[VI b.level, VI b.now, VI b.burst, VI b.rate]]⟩, some ⟨4, [[VI 0, VI 0, VI 0, VI 0]]⟩]⟩) (by kernel_rfl) (by kernel_rfl) ?_
        refine EL.ret ?_
        refine thenL_ret ?_
        refine ⟨.inr rfl, .tup [.agg [VI 0, VI 0, VI 0, VI 0], VI 3], by kernel_rfl, Ale.of_eq ?_⟩
        (simp only [Bucket.takeP]; (repeat' split) <;> first | rfl | (exfalso; omega) | (rw [Bucket.check_3 ‹_›]) | (simp <;> omega) | trace_state)
      · rw [h3]
        have g3 : ¬ (n > b.burst) := of_decide_eq_false h3
        refine EL.condF (by kernel_rfl) ?_
        refine EL.skip ?_
        refine thenL_norm ?_
        refine EL.seq ?_
        refine EL.sreg ?_
        refine OW.run 3 (x' := ⟨[(30, .v (.bool (((b.levelP now).2) == 0))), (29, .v (.bool (((b.levelP now).2) == 0))), (28, VI ((b.levelP now).2)), (27, .v (.bool false)), (9, VI ((b.levelP now).2)), (8, VI ((b.levelP now).1)), (6, .ref 1 4 0 0), (3, .ref 0 4 0 0), (1, VI now), (2, VI n)], [some ⟨4, [[VI b.level, VI b.now, VI b.burst, VI b.rate]]⟩, some ⟨4, [[VI 0, VI 0, VI 0, VI 0]]⟩]⟩) (by kernel_rfl) ?_
        rw [h1]
        refine OW.last 4 [1, 2, 3, 6, 8, 9, 34] (x' := ⟨[(34, .v (.bool (decide (((b.levelP now).1) < n)))), (9, VI ((b.levelP now).2)), (8, VI ((b.levelP now).1)), (6, .ref 1 4 0 0), (3, .ref 0 4 0 0), (1, VI now), (2, VI n)], [some ⟨4, [[VI b.level, VI b.now, VI b.burst, VI b.rate]]⟩, some ⟨4, [[VI 0, VI 0, VI 0, VI 0]]⟩]⟩) (by kernel_rfl) (by kernel_rfl) ?_
        rcases Bool.eq_false_or_eq_true (decide (((b.levelP now).1) < n)) with h4 | h4
        · rw [h4]
          have g4 : (((b.levelP now).1) < n) := of_decide_eq_true h4
          refine EL.condT (by kernel_rfl) ?_
          refine EL.reg0 ?_
          refine OW.end 1 (x' := ⟨[(9, VI 8), (34, .v (.bool true)), (8, VI ((b.levelP now).1)), (6, .ref 1 4 0 0), (3, .ref 0 4 0 0), (1, VI now), (2, VI n)], [some ⟨4, [[VI b.level, VI b.now, VI b.burst, VI b.rate]]⟩, some ⟨4, [[VI 0, VI 0, VI 0, VI 0]]⟩]⟩) (by kernel_rfl) (by kernel_rfl) ?_
          refine thenL_norm ?_
          refine EL.seq ?_
          refine EL.sreg ?_
          refine OW.last 2 [1, 2, 3, 6, 8, 9, 36] (x' := ⟨[(36, .v (.bool true)), (9, VI 8), (8, VI ((b.levelP now).1)), (6, .ref 1 4 0 0), (3, .ref 0 4 0 0), (1, VI now), (2, VI n)], [some ⟨4, [[VI b.level, VI b.now, VI b.burst, VI b.rate]]⟩, some ⟨4, [[VI 0, VI 0, VI 0, VI 0]]⟩]⟩) (by kernel_rfl) (by kernel_rfl) ?_
          refine EL.condT (by kernel_rfl) ?_
          refine EL.sreg ?_
          refine OW.last 4 [6, 7] (x' := ⟨[(7, VI 8), (6, .ref 1 4 0 0)], [some ⟨4, [[VI b.level, VI b.now, VI b.burst, VI b.rate]]⟩, some ⟨4, [[VI 0, VI 0, VI 0, VI 0]]⟩]⟩) (by kernel_rfl) (by kernel_rfl) ?_
          refine EL.ret ?_
          refine thenL_ret ?_
          refine ⟨.inr rfl, .tup [.agg [VI 0, VI 0, VI 0, VI 0], VI 8], by kernel_rfl, Ale.of_eq ?_⟩
          (simp only [Bucket.takeP]; (repeat' split) <;> first | rfl | (exfalso; omega) | (rw [Bucket.check_3 ‹_›]) | (simp <;> omega) | trace_state)
        · rw [h4]
          have g4 : ¬ (((b.levelP now).1) < n) := of_decide_eq_false h4
          refine EL.condF (by kernel_rfl) ?_
          refine EL.skip ?_
          refine thenL_norm ?_
          refine EL.seq ?_
          refine EL.sreg ?_
          refine OW.last 2 [1, 2, 3, 6, 8, 9, 36] (x' := ⟨[(36, .v (.bool (((b.levelP now).2) != 0))), (9, VI ((b.levelP now).2)), (8, VI ((b.levelP now).1)), (6, .ref 1 4 0 0), (3, .ref 0 4 0 0), (1, VI now), (2, VI n)], [some ⟨4, [[VI b.level, VI b.now, VI b.burst, VI b.rate]]⟩, some ⟨4, [[VI 0, VI 0, VI 0, VI 0]]⟩]⟩) (by kernel_rfl) (by kernel_rfl) ?_
          have h5 : (((b.levelP now).2) != 0) = false := (by show (!(((b.levelP now).2) == 0)) = _; rw [h1]; rfl)
          rw [h5]
          refine EL.condF (by kernel_rfl) ?_
          refine EL.skip ?_
          refine thenL_norm ?_
          refine EL.sreg ?_
          refine OW.run 11 (x' := ⟨[(7, VI 0), (47, .agg [VI (IntKind.i64.wrap (((b.levelP now).1) - n)), VI now, VI b.burst, VI b.rate]), (46, VI b.rate), (45, .ref 0 4 0 3), (44, VI b.burst), (43, .ref 0 4 0 2), (42, VI now), (41, VI (IntKind.i64.wrap (((b.levelP now).1) - n))), (40, VI n), (39, VI ((b.levelP now).1)), (36, .v (.bool false)), (9, VI ((b.levelP now).2)), (8, VI ((b.levelP now).1)), (6, .ref 1 4 0 0), (3, .ref 0 4 0 0), (1, VI now), (2, VI n)], [some ⟨4, [[VI b.level, VI b.now, VI b.burst, VI b.rate]]⟩, some ⟨4, [[VI (IntKind.i64.wrap (((b.levelP now).1) - n)), VI now, VI b.burst, VI b.rate]]⟩]⟩) (by kernel_rfl) ?_
          have e6 : IntKind.i64.wrap (((b.levelP now).1) - n) = ((b.levelP now).1) - n := wr64 (by have := Bucket.lev_take ‹(b.levelP now).2 = 0›; omega)
          rw [e6]
          refine OW.last 0 [6, 7] (x' := ⟨[(7, VI 0), (6, .ref 1 4 0 0)], [some ⟨4, [[VI b.level, VI b.now, VI b.burst, VI b.rate]]⟩, some ⟨4, [[VI (((b.levelP now).1) - n), VI now, VI b.burst, VI b.rate]]⟩]⟩) (by kernel_rfl) (by kernel_rfl) ?_
          refine EL.ret ?_
          refine ⟨.inr rfl, .tup [.agg [VI (((b.levelP now).1) - n), VI now, VI b.burst, VI b.rate], VI 0], by kernel_rfl, Ale.of_eq ?_⟩
          (simp only [Bucket.takeP]; (repeat' split) <;> first | rfl | (exfalso; omega) | (rw [Bucket.check_3 ‹_›]) | (simp <;> omega) | trace_state)
  · rw [h1]
    have g1 : ¬ (((b.levelP now).2) = 0) := by simpa using h1
    refine OW.last 9 [1, 2, 3, 6, 8, 9, 27] (x' := ⟨[(27, .v (.bool false)), (9, VI ((b.levelP now).2)), (8, VI ((b.levelP now).1)), (6, .ref 1 4 0 0), (3, .ref 0 4 0 0), (1, VI now), (2, VI n)], [some ⟨4, [[VI b.level, VI b.now, VI b.burst, VI b.rate]]⟩, some ⟨4, [[VI 0, VI 0, VI 0, VI 0]]⟩]⟩) (by kernel_rfl) (by kernel_rfl) ?_
    refine EL.condF (by kernel_rfl) ?_
    refine EL.skip ?_
    refine thenL_norm ?_
    refine EL.seq ?_
    refine EL.sreg ?_
    refine OW.run 3 (x' := ⟨[(30, .v (.bool (((b.levelP now).2) == 0))), (29, .v (.bool (((b.levelP now).2) == 0))), (28, VI ((b.levelP now).2)), (27, .v (.bool false)), (9, VI ((b.levelP now).2)), (8, VI ((b.levelP now).1)), (6, .ref 1 4 0 0), (3, .ref 0 4 0 0), (1, VI now), (2, VI n)], [some ⟨4, [[VI b.level, VI b.now, VI b.burst, VI b.rate]]⟩, some ⟨4, [[VI 0, VI 0, VI 0, VI 0]]⟩]⟩) (by kernel_rfl) ?_
    rw [h1]
    refine OW.last 4 [1, 2, 3, 6, 8, 9, 34] (x' := ⟨[(34, .v (.bool false)), (9, VI ((b.levelP now).2)), (8, VI ((b.levelP now).1)), (6, .ref 1 4 0 0), (3, .ref 0 4 0 0), (1, VI now), (2, VI n)], [some ⟨4, [[VI b.level, VI b.now, VI b.burst, VI b.rate]]⟩, some ⟨4, [[VI 0, VI 0, VI 0, VI 0]]⟩]⟩) (by kernel_rfl) (by kernel_rfl) ?_
    refine EL.condF (by kernel_rfl) ?_
    refine EL.skip ?_
    refine thenL_norm ?_
    refine EL.seq ?_
    refine EL.sreg ?_
    refine OW.last 2 [1, 2, 3, 6, 8, 9, 36] (x' := ⟨[(36, .v (.bool (((b.levelP now).2) != 0))), (9, VI ((b.levelP now).2)), (8, VI ((b.levelP now).1)), (6, .ref 1 4 0 0), (3, .ref 0 4 0 0), (1, VI now), (2, VI n)], [some ⟨4, [[VI b.level, VI b.now, VI b.burst, VI b.rate]]⟩, some ⟨4, [[VI 0, VI 0, VI 0, VI 0]]⟩]⟩) (by kernel_rfl) (by kernel_rfl) ?_
    have h7 : (((b.levelP now).2) != 0) = true := (by show (!(((b.levelP now).2) == 0)) = _; rw [h1]; rfl)
    rw [h7]
    refine EL.condT (by kernel_rfl) ?_
    refine EL.sreg ?_
    refine OW.last 4 [6, 7] (x' := ⟨[(7, VI ((b.levelP now).2)), (6, .ref 1 4 0 0)], [some ⟨4, [[VI b.level, VI b.now, VI b.burst, VI b.rate]]⟩, some ⟨4, [[VI 0, VI 0, VI 0, VI 0]]⟩]⟩) (by kernel_rfl) (by kernel_rfl) ?_
    refine EL.ret ?_
    refine thenL_ret ?_
    refine ⟨.inr rfl, .tup [.agg [VI 0, VI 0, VI 0, VI 0], VI ((b.levelP now).2)], by kernel_rfl, Ale.of_eq ?_⟩
    (simp only [Bucket.takeP]; (repeat' split) <;> first | rfl | (exfalso; omega) | (rw [Bucket.check_3 ‹_›]) | (simp <;> omega) | trace_state)
theorem ready_fn (b : Bucket) (n : Int) : Fn Try.prog 11 [.agg [VI b.level, VI b.now, VI b.burst, VI b.rate], VI n] (.tup [VI ((b.readyP n).1), VI ((b.readyP n).2)]) := by
  refine fn_walkW F11_ok (of_decide_eq_true (by kernel_rfl)) ?_
  refine EL.sreg ?_
  refine OW.last 3 [1, 2] (x' := ⟨[(2, .ref 0 4 0 0), (1, VI n)], [some ⟨4, [[VI b.level, VI b.now, VI b.burst, VI b.rate]]⟩]⟩) (by kernel_rfl) (by kernel_rfl) ?_
  refine EL.sreg ?_
  refine OW.run 1 (x' := ⟨[(8, .agg [VI b.level, VI b.now, VI b.burst, VI b.rate]), (2, .ref 0 4 0 0), (1, VI n)], [some ⟨4, [[VI b.level, VI b.now, VI b.burst, VI b.rate]]⟩]⟩) (by kernel_rfl) ?_
  refine OW.fn (ar := [.agg [VI b.level, VI b.now, VI b.burst, VI b.rate]]) (x' := ⟨[(9, VI b.checkE), (8, .agg [VI b.level, VI b.now, VI b.burst, VI b.rate]), (2, .ref 0 4 0 0), (1, VI n)], [some ⟨4, [[VI b.level, VI b.now, VI b.burst, VI b.rate]]⟩]⟩) (by kernel_rfl) (by kernel_rfl) F16_call (check_fn b) (by kernel_rfl) (by kernel_rfl) ?_
  refine OW.last 1 [1, 2, 6] (x' := ⟨[(6, VI b.checkE), (2, .ref 0 4 0 0), (1, VI n)], [some ⟨4, [[VI b.level, VI b.now, VI b.burst, VI b.rate]]⟩]⟩) (by kernel_rfl) (by kernel_rfl) ?_
  refine EL.seq ?_
  refine EL.block ?_
  refine EL.sreg ?_
  refine OW.last 3 [1, 2, 6, 10] (x' := ⟨[(10, .v (.bool (b.checkE != 0))), (6, VI b.checkE), (2, .ref 0 4 0 0), (1, VI n)], [some ⟨4, [[VI b.level, VI b.now, VI b.burst, VI b.rate]]⟩]⟩) (by kernel_rfl) (by kernel_rfl) ?_
  rcases Bool.eq_false_or_eq_true ((b.checkE != 0)) with h1 | h1
  · rw [h1]
    have g1 : ¬ (b.checkE = 0) := by simpa using h1
    refine EL.condT (by kernel_rfl) ?_
    refine EL.sreg ?_
    refine OW.last 3 [4, 5] (x' := ⟨[(5, VI b.checkE), (4, VI 0)], [some ⟨4, [[VI b.level, VI b.now, VI b.burst, VI b.rate]]⟩]⟩) (by kernel_rfl) (by kernel_rfl) ?_
    refine EL.ret ?_
    refine inBlk_ret ?_
    refine thenL_ret ?_
    refine ⟨.inr rfl, .tup [VI 0, VI b.checkE], by kernel_rfl, Ale.of_eq ?_⟩
    ((try (have hq := Int.tdiv_eq_ediv_of_nonneg (a := n - b.level + b.rate - 1) (b := b.rate) (by have hb := Bucket.check_0.1 ‹b.checkE = 0›; obtain ⟨_, ⟨_, _⟩, _⟩ := id hb; omega); simp only [Bucket.readyP, Bucket.readyAt, ← hq]; clear hq)); (try rw [Bucket.check_3 ‹_›]); simp [Bucket.readyP, Bucket.readyAt, *]; done)
  · rw [h1]
    have g1 : (b.checkE = 0) := by simpa using h1
    refine EL.condF (by kernel_rfl) ?_
    refine EL.sreg ?_
    refine OW.run 3 (x' := ⟨[(17, VI b.burst), (16, .ref 0 4 0 2), (15, VI n), (10, .v (.bool false)), (6, VI b.checkE), (2, .ref 0 4 0 0), (1, VI n)], [some ⟨4, [[VI b.level, VI b.now, VI b.burst, VI b.rate]]⟩]⟩) (by kernel_rfl) ?_
    refine OW.fn (ar := [VI n, VI 0, VI b.burst]) (x' := ⟨[(18, .v (.bool (wi n 0 b.burst))), (17, VI b.burst), (16, .ref 0 4 0 2), (15, VI n), (10, .v (.bool false)), (6, VI b.checkE), (2, .ref 0 4 0 0), (1, VI n)], [some ⟨4, [[VI b.level, VI b.now, VI b.burst, VI b.rate]]⟩]⟩) (by kernel_rfl) (by kernel_rfl) F21_call (within_fn n 0 b.burst) (by kernel_rfl) (by kernel_rfl) ?_
    refine OW.last 2 [1, 2, 14] (x' := ⟨[(14, .v (.bool (!(wi n 0 b.burst)))), (2, .ref 0 4 0 0), (1, VI n)], [some ⟨4, [[VI b.level, VI b.now, VI b.burst, VI b.rate]]⟩]⟩) (by kernel_rfl) (by kernel_rfl) ?_
    rcases Bool.eq_false_or_eq_true (wi n 0 b.burst) with h2 | h2
    · rw [h2]
      have g2 : (0 ≤ n ∧ n ≤ b.burst) := wi_iff.1 h2
      refine EL.condF (by kernel_rfl) ?_
      refine EL.sreg ?_
      refine OW.last 5 [1, 2, 20] (x' := ⟨[(20, .v (.bool (decide (n ≤ b.level)))), (2, .ref 0 4 0 0), (1, VI n)], [some ⟨4, [[VI b.level, VI b.now, VI b.burst, VI b.rate]]⟩]⟩) (by kernel_rfl) (by kernel_rfl) ?_
      rcases Bool.eq_false_or_eq_true (decide (n ≤ b.level)) with h3 | h3
      · rw [h3]
        have g3 : (n ≤ b.level) := of_decide_eq_true h3
        refine EL.condT (by kernel_rfl) ?_
        refine EL.sreg ?_
        refine OW.last 4 [4, 5] (x' := ⟨[(5, VI 0), (4, VI b.now)], [some ⟨4, [[VI b.level, VI b.now, VI b.burst, VI b.rate]]⟩]⟩) (by kernel_rfl) (by kernel_rfl) ?_
        refine EL.ret ?_
        refine inBlk_ret ?_
        refine thenL_ret ?_
        refine ⟨.inr rfl, .tup [VI b.now, VI 0], by kernel_rfl, Ale.of_eq ?_⟩
        ((try (have hq := Int.tdiv_eq_ediv_of_nonneg (a := n - b.level + b.rate - 1) (b := b.rate) (by have hb := Bucket.check_0.1 ‹b.checkE = 0›; obtain ⟨_, ⟨_, _⟩, _⟩ := id hb; omega); simp only [Bucket.readyP, Bucket.readyAt, ← hq]; clear hq)); (try rw [Bucket.check_3 ‹_›]); simp [Bucket.readyP, Bucket.readyAt, *]; done)
      · rw [h3]
        have g3 : ¬ (n ≤ b.level) := of_decide_eq_false h3
        refine EL.condF (by kernel_rfl) ?_
        refine EL.sreg ?_
        refine OW.last 4 [1, 2, 27] (x' := ⟨[(27, .v (.bool (b.rate == 0))), (2, .ref 0 4 0 0), (1, VI n)], [some ⟨4, [[VI b.level, VI b.now, VI b.burst, VI b.rate]]⟩]⟩) (by kernel_rfl) (by kernel_rfl) ?_
        rcases Bool.eq_false_or_eq_true ((b.rate == 0)) with h4 | h4
        · rw [h4]
          have g4 : (b.rate = 0) := by simpa using h4
          refine EL.condT (by kernel_rfl) ?_
          refine EL.sreg ?_
          refine OW.last 2 [4, 5] (x' := ⟨[(5, VI 5), (4, VI 0)], [some ⟨4, [[VI b.level, VI b.now, VI b.burst, VI b.rate]]⟩]⟩) (by kernel_rfl) (by kernel_rfl) ?_
          refine EL.ret ?_
          refine inBlk_ret ?_
          refine thenL_ret ?_
          refine ⟨.inr rfl, .tup [VI 0, VI 5], by kernel_rfl, Ale.of_eq ?_⟩
          ((try (have hq := Int.tdiv_eq_ediv_of_nonneg (a := n - b.level + b.rate - 1) (b := b.rate) (by have hb := Bucket.check_0.1 ‹b.checkE = 0›; obtain ⟨_, ⟨_, _⟩, _⟩ := id hb; omega); simp only [Bucket.readyP, Bucket.readyAt, ← hq]; clear hq)); (try rw [Bucket.check_3 ‹_›]); simp [Bucket.readyP, Bucket.readyAt, *]; done)
        · rw [h4]
          have g4 : ¬ (b.rate = 0) := by simpa using h4
          refine EL.condF (by kernel_rfl) ?_
          refine EL.skip ?_
          refine inBlk_norm ?_
          refine thenL_norm ?_
          refine EL.sdraw ?_
          refine DW.run 12 (x' := ⟨[(42, VI b.rate), (41, .ref 0 4 0 3), (40, VI (IntKind.i64.wrap ((IntKind.i64.wrap ((IntKind.i64.wrap (n - b.level)) + b.rate)) - 1))), (39, VI (IntKind.i64.wrap ((IntKind.i64.wrap (n - b.level)) + b.rate))), (38, VI b.rate), (37, .ref 0 4 0 3), (36, VI (IntKind.i64.wrap (n - b.level))), (35, VI b.level), (34, .ref 0 4 0 0), (33, VI n), (32, VI b.now), (31, .ref 0 4 0 1), (27, .v (.bool false)), (2, .ref 0 4 0 0), (1, VI n)], [some ⟨4, [[VI b.level, VI b.now, VI b.burst, VI b.rate]]⟩]⟩) (by kernel_rfl) ?_
          have e5 : IntKind.i64.wrap (n - b.level) = n - b.level := wr64 (by have hb := Bucket.check_0.1 ‹b.checkE = 0›; obtain ⟨_, ⟨_, _⟩, ⟨_, _⟩, _⟩ := id hb; omega)
          rw [e5]
          have e6 : IntKind.i64.wrap ((n - b.level) + b.rate) = (n - b.level) + b.rate := wr64 (by have hb := Bucket.check_0.1 ‹b.checkE = 0›; obtain ⟨_, ⟨_, _⟩, ⟨_, _⟩, _⟩ := id hb; omega)
          rw [e6]
          have e7 : IntKind.i64.wrap (((n - b.level) + b.rate) - 1) = ((n - b.level) + b.rate) - 1 := wr64 (by have hb := Bucket.check_0.1 ‹b.checkE = 0›; obtain ⟨_, ⟨_, _⟩, ⟨_, _⟩, _⟩ := id hb; omega)
          rw [e7]
          refine DW.ope (v := VI (IntKind.i64.wrap (((((n - b.level) + b.rate) - 1)).tdiv b.rate))) (u := []) (acc := []) (x' := ⟨[(43, VI (IntKind.i64.wrap (((((n - b.level) + b.rate) - 1)).tdiv b.rate))), (42, VI b.rate), (41, .ref 0 4 0 3), (40, VI (((n - b.level) + b.rate) - 1)), (39, VI ((n - b.level) + b.rate)), (38, VI b.rate), (37, .ref 0 4 0 3), (36, VI (n - b.level)), (35, VI b.level), (34, .ref 0 4 0 0), (33, VI n), (32, VI b.now), (31, .ref 0 4 0 1), (27, .v (.bool false)), (2, .ref 0 4 0 0), (1, VI n)], [some ⟨4, [[VI b.level, VI b.now, VI b.burst, VI b.rate]]⟩]⟩) (by kernel_rfl) (opE_quo (.s 40) (.s 42) _ _ (by kernel_rfl) (by kernel_rfl) rfl rfl (by omega)) (by kernel_rfl) ?_
          have e8 : IntKind.i64.wrap (((((n - b.level) + b.rate) - 1)).tdiv b.rate) = ((((n - b.level) + b.rate) - 1)).tdiv b.rate := wr64 (by have hb := Bucket.check_0.1 ‹b.checkE = 0›; obtain ⟨_, ⟨_, _⟩, ⟨_, _⟩, _⟩ := id hb; have he := Int.tdiv_eq_ediv_of_nonneg (a := n - b.level + b.rate - 1) (b := b.rate) (by omega); have hd := Bucket.div_bd (a := n - b.level + b.rate - 1) (d := b.rate) (by omega) (by omega); omega)
          rw [e8]
          refine DW.run 2 (x' := ⟨[(7, VI (IntKind.i64.wrap (b.now + (((((n - b.level) + b.rate) - 1)).tdiv b.rate)))), (44, VI (IntKind.i64.wrap (b.now + (((((n - b.level) + b.rate) - 1)).tdiv b.rate)))), (43, VI (((((n - b.level) + b.rate) - 1)).tdiv b.rate)), (42, VI b.rate), (41, .ref 0 4 0 3), (40, VI (((n - b.level) + b.rate) - 1)), (39, VI ((n - b.level) + b.rate)), (38, VI b.rate), (37, .ref 0 4 0 3), (36, VI (n - b.level)), (35, VI b.level), (34, .ref 0 4 0 0), (33, VI n), (32, VI b.now), (31, .ref 0 4 0 1), (27, .v (.bool false)), (2, .ref 0 4 0 0), (1, VI n)], [some ⟨4, [[VI b.level, VI b.now, VI b.burst, VI b.rate]]⟩]⟩) (by kernel_rfl) ?_
          have e9 : IntKind.i64.wrap (b.now + (((((n - b.level) + b.rate) - 1)).tdiv b.rate)) = b.now + (((((n - b.level) + b.rate) - 1)).tdiv b.rate) := wr64 (by have hb := Bucket.check_0.1 ‹b.checkE = 0›; obtain ⟨_, ⟨_, _⟩, ⟨_, _⟩, _⟩ := id hb; have he := Int.tdiv_eq_ediv_of_nonneg (a := n - b.level + b.rate - 1) (b := b.rate) (by omega); have hd := Bucket.div_bd (a := n - b.level + b.rate - 1) (d := b.rate) (by omega) (by omega); omega)
          rw [e9]
          refine DW.last 0 [7] (x' := ⟨[(7, VI (b.now + (((((n - b.level) + b.rate) - 1)).tdiv b.rate)))], [some ⟨4, [[VI b.level, VI b.now, VI b.burst, VI b.rate]]⟩]⟩) (by kernel_rfl) (by kernel_rfl) ?_
          refine EL.seq ?_
          refine EL.sreg ?_
          refine OW.last 2 [7, 46] (x' := ⟨[(46, .v (.bool (decide ((b.now + (((((n - b.level) + b.rate) - 1)).tdiv b.rate)) > 1000000)))), (7, VI (b.now + (((((n - b.level) + b.rate) - 1)).tdiv b.rate)))], [some ⟨4, [[VI b.level, VI b.now, VI b.burst, VI b.rate]]⟩]⟩) (by kernel_rfl) (by kernel_rfl) ?_
          rcases Bool.eq_false_or_eq_true (decide ((b.now + (((((n - b.level) + b.rate) - 1)).tdiv b.rate)) > 1000000)) with h10 | h10
          · rw [h10]
            have g10 : ((b.now + (((((n - b.level) + b.rate) - 1)).tdiv b.rate)) > 1000000) := of_decide_eq_true h10
            refine EL.condT (by kernel_rfl) ?_
            refine EL.sreg ?_
            refine OW.last 2 [4, 5] (x' := ⟨[(5, VI 5), (4, VI 0)], [some ⟨4, [[VI b.level, VI b.now, VI b.burst, VI b.rate]]⟩]⟩) (by kernel_rfl) (by kernel_rfl) ?_
            refine EL.ret ?_
            refine thenL_ret ?_
            refine ⟨.inr rfl, .tup [VI 0, VI 5], by kernel_rfl, Ale.of_eq ?_⟩
            ((try (have hq := Int.tdiv_eq_ediv_of_nonneg (a := n - b.level + b.rate - 1) (b := b.rate) (by have hb := Bucket.check_0.1 ‹b.checkE = 0›; obtain ⟨_, ⟨_, _⟩, _⟩ := id hb; omega); simp only [Bucket.readyP, Bucket.readyAt, ← hq]; clear hq)); (try rw [Bucket.check_3 ‹_›]); simp [Bucket.readyP, Bucket.readyAt, *]; done)
          · rw [h10]
            have g10 : ¬ ((b.now + (((((n - b.level) + b.rate) - 1)).tdiv b.rate)) > 1000000) := of_decide_eq_false h10
            refine EL.condF (by kernel_rfl) ?_
            refine EL.skip ?_
            refine thenL_norm ?_
            refine EL.sreg ?_
            refine OW.last 3 [4, 5] (x' := ⟨[(5, VI 0), (4, VI (b.now + (((((n - b.level) + b.rate) - 1)).tdiv b.rate)))], [some ⟨4, [[VI b.level, VI b.now, VI b.burst, VI b.rate]]⟩]⟩) (by kernel_rfl) (by kernel_rfl) ?_
            refine EL.ret ?_
            refine ⟨.inr rfl, .tup [VI (b.now + (((((n - b.level) + b.rate) - 1)).tdiv b.rate)), VI 0], by kernel_rfl, Ale.of_eq ?_⟩
            ((try (have hq := Int.tdiv_eq_ediv_of_nonneg (a := n - b.level + b.rate - 1) (b := b.rate) (by have hb := Bucket.check_0.1 ‹b.checkE = 0›; obtain ⟨_, ⟨_, _⟩, _⟩ := id hb; omega); simp only [Bucket.readyP, Bucket.readyAt, ← hq]; clear hq)); (try rw [Bucket.check_3 ‹_›]); simp [Bucket.readyP, Bucket.readyAt, *]; done)
    · rw [h2]
      have g2 : ¬ (0 ≤ n ∧ n ≤ b.burst) := fun hh => Bool.noConfusion ((wi_iff.2 hh).symm.trans h2)
      refine EL.condT (by kernel_rfl) ?_
      refine EL.sreg ?_
      refine OW.last 2 [4, 5] (x' := ⟨[(5, VI 3), (4, VI 0)], [some ⟨4, [[VI b.level, VI b.now, VI b.burst, VI b.rate]]⟩]⟩) (by kernel_rfl) (by kernel_rfl) ?_
      refine EL.ret ?_
      refine inBlk_ret ?_
      refine thenL_ret ?_
      refine ⟨.inr rfl, .tup [VI 0, VI 3], by kernel_rfl, Ale.of_eq ?_⟩
      ((try (have hq := Int.tdiv_eq_ediv_of_nonneg (a := n - b.level + b.rate - 1) (b := b.rate) (by have hb := Bucket.check_0.1 ‹b.checkE = 0›; obtain ⟨_, ⟨_, _⟩, _⟩ := id hb; omega); simp only [Bucket.readyP, Bucket.readyAt, ← hq]; clear hq)); (try rw [Bucket.check_3 ‹_›]); simp [Bucket.readyP, Bucket.readyAt, *]; done)
theorem sameInts_fn (xs : List Int) (ys : List Int) (hx : xs.length ≤ 9223372036854775807) : Fn Try.prog 20 [.lst 1 (xs.map cI), .lst 1 (ys.map cI)] (.v (.bool (decide (xs = ys)))) := by
  refine fn_walkW F20_ok (of_decide_eq_true (by kernel_rfl)) ?_
  refine EL.sreg ?_
  refine OW.last 1 [0, 1] (x' := ⟨[(0, .lst 1 (xs.map cI)), (1, .lst 1 (ys.map cI))], []⟩) (by kernel_rfl) (by kernel_rfl) ?_
  refine EL.seq ?_
  refine EL.sreg ?_
  refine OW.run 1 (x' := ⟨[(6, .lst 1 (xs.map cI)), (0, .lst 1 (xs.map cI)), (1, .lst 1 (ys.map cI))], []⟩) (by kernel_rfl) ?_
  refine OW.ope (v := VI (List.length xs : Int)) (u := []) (acc := []) (x' := ⟨[(7, VI (List.length xs : Int)), (6, .lst 1 (xs.map cI)), (0, .lst 1 (xs.map cI)), (1, .lst 1 (ys.map cI))], []⟩) (by kernel_rfl) (opE_len cI xs (.s 6) 1 (by kernel_rfl) (by kernel_rfl) (.inl rfl)) (by kernel_rfl) ?_
  refine OW.run 1 (x' := ⟨[(8, .lst 1 (ys.map cI)), (7, VI (List.length xs : Int)), (6, .lst 1 (xs.map cI)), (0, .lst 1 (xs.map cI)), (1, .lst 1 (ys.map cI))], []⟩) (by kernel_rfl) ?_
  refine OW.ope (v := VI (List.length ys : Int)) (u := []) (acc := []) (x' := ⟨[(9, VI (List.length ys : Int)), (8, .lst 1 (ys.map cI)), (7, VI (List.length xs : Int)), (6, .lst 1 (xs.map cI)), (0, .lst 1 (xs.map cI)), (1, .lst 1 (ys.map cI))], []⟩) (by kernel_rfl) (opE_len cI ys (.s 8) 1 (by kernel_rfl) (by kernel_rfl) (.inl rfl)) (by kernel_rfl) ?_
  refine OW.last 1 [0, 1, 10] (x' := ⟨[(10, .v (.bool ((List.length xs : Int) != (List.length ys : Int)))), (0, .lst 1 (xs.map cI)), (1, .lst 1 (ys.map cI))], []⟩) (by kernel_rfl) (by kernel_rfl) ?_
  rcases Bool.eq_false_or_eq_true (((List.length xs : Int) != (List.length ys : Int))) with h1 | h1
  · rw [h1]
    have g1 : ¬ ((List.length xs : Int) = (List.length ys : Int)) := by simpa using h1
    have n1 : ¬ ((List.length xs) = (List.length ys)) := by omega
    refine EL.condT (by kernel_rfl) ?_
    refine EL.sreg ?_
    refine OW.last 1 [4] (x' := ⟨[(4, .v (.bool false))], []⟩) (by kernel_rfl) (by kernel_rfl) ?_
    refine EL.ret ?_
    refine thenL_ret ?_
    refine ⟨.inr rfl, .v (.bool false), by kernel_rfl, Ale.of_eq ?_⟩
    (refine congrArg (fun b => AV.v (Value.bool b)) ?_; first | (have hne : xs ≠ ys := (fun h => by subst h; omega); simp [hne]; done) | (rw [hs, List.drop_eq_nil_of_le (by omega), List.drop_eq_nil_of_le (by omega)]; simp; done) | (rw [hs]; simp [*]))
  · rw [h1]
    have g1 : ((List.length xs : Int) = (List.length ys : Int)) := by simpa using h1
    have n1 : ((List.length xs) = (List.length ys)) := by omega
    refine EL.condF (by kernel_rfl) ?_
    refine EL.skip ?_
    refine thenL_norm ?_
    refine EL.seq ?_
    refine EL.sreg ?_
    refine OW.last 1 [0, 1, 5] (x' := ⟨[(5, VI 0), (0, .lst 1 (xs.map cI)), (1, .lst 1 (ys.map cI))], []⟩) (by kernel_rfl) (by kernel_rfl) ?_
    refine EL.block ?_
    refine EL.loopN (fun m x => ∃ (k : Nat), m = xs.length - k ∧ (k ≤ xs.length ∧ xs.length = ys.length ∧ decide (xs = ys) = decide (xs.drop k = ys.drop k)) ∧ x = ⟨[(0, .lst 1 (xs.map cI)), (1, .lst 1 (ys.map cI)), (5, VI (k : Int))], []⟩) (y := (fun (k : Nat) => (⟨[(0, .lst 1 (xs.map cI)), (1, .lst 1 (ys.map cI)), (5, VI (k : Int))], []⟩ : L3)) 0) [0, 1, 5] [] [] (by kernel_rfl) trivial ⟨0, rfl, by simp; omega, rfl⟩ ?_
    rintro _ _ ⟨k, rfl, hI2, rfl⟩
    obtain ⟨hk, hl, hs⟩ := hI2
    refine EL.seq ?_
    refine EL.sreg ?_
    refine OW.run 2 (x' := ⟨[(12, .lst 1 (xs.map cI)), (11, VI (k : Int)), (0, .lst 1 (xs.map cI)), (1, .lst 1 (ys.map cI)), (5, VI (k : Int))], []⟩) (by kernel_rfl) ?_
    refine OW.ope (v := VI (List.length xs : Int)) (u := []) (acc := []) (x' := ⟨[(13, VI (List.length xs : Int)), (12, .lst 1 (xs.map cI)), (11, VI (k : Int)), (0, .lst 1 (xs.map cI)), (1, .lst 1 (ys.map cI)), (5, VI (k : Int))], []⟩) (by kernel_rfl) (opE_len cI xs (.s 12) 1 (by kernel_rfl) (by kernel_rfl) (.inl rfl)) (by kernel_rfl) ?_
    refine OW.last 1 [0, 1, 5, 14] (x' := ⟨[(14, .v (.bool (decide ((k : Int) < (List.length xs : Int))))), (0, .lst 1 (xs.map cI)), (1, .lst 1 (ys.map cI)), (5, VI (k : Int))], []⟩) (by kernel_rfl) (by kernel_rfl) ?_
    rcases Bool.eq_false_or_eq_true (decide ((k : Int) < (List.length xs : Int))) with h3 | h3
    · rw [h3]
      have g3 : ((k : Int) < (List.length xs : Int)) := of_decide_eq_true h3
      have n3 : ((k) < (List.length xs)) := by omega
      refine EL.condT (by kernel_rfl) ?_
      refine EL.skip ?_
      refine thenL_norm ?_
      refine EL.seq ?_
      refine EL.block ?_
      refine EL.sdraw ?_
      refine DW.run 2 (x' := ⟨[(18, VI (k : Int)), (17, .lst 1 (xs.map cI)), (14, .v (.bool true)), (0, .lst 1 (xs.map cI)), (1, .lst 1 (ys.map cI)), (5, VI (k : Int))], []⟩) (by kernel_rfl) ?_
      obtain ⟨a5, ha5⟩ : ∃ y, xs[((k : Int) : Int).toNat]? = some y := idx_ex ⟨by omega, by omega⟩
      have iha5 : xs[k]? = some a5 := by simpa using ha5
      have dha5 := drop_get iha5
      refine DW.ope (v := .pim [VI a5] 0) (u := []) (acc := []) (x' := ⟨[(19, .pim [VI a5] 0), (18, VI (k : Int)), (17, .lst 1 (xs.map cI)), (14, .v (.bool true)), (0, .lst 1 (xs.map cI)), (1, .lst 1 (ys.map cI)), (5, VI (k : Int))], []⟩) (by kernel_rfl) (opE_iad cI xs (.s 17) (.s 18) 1 .i64 (k : Int) a5 (by kernel_rfl) (by kernel_rfl) (.inl rfl) rfl (by omega) ha5) (by kernel_rfl) ?_
      refine DW.run 3 (x' := ⟨[(22, VI (k : Int)), (21, .lst 1 (ys.map cI)), (20, VI a5), (19, .pim [VI a5] 0), (18, VI (k : Int)), (17, .lst 1 (xs.map cI)), (14, .v (.bool true)), (0, .lst 1 (xs.map cI)), (1, .lst 1 (ys.map cI)), (5, VI (k : Int))], []⟩) (by kernel_rfl) ?_
      obtain ⟨a7, ha7⟩ : ∃ y, ys[((k : Int) : Int).toNat]? = some y := idx_ex ⟨by omega, by omega⟩
      have iha7 : ys[k]? = some a7 := by simpa using ha7
      have dha7 := drop_get iha7
      refine DW.ope (v := .pim [VI a7] 0) (u := []) (acc := []) (x' := ⟨[(23, .pim [VI a7] 0), (22, VI (k : Int)), (21, .lst 1 (ys.map cI)), (20, VI a5), (19, .pim [VI a5] 0), (18, VI (k : Int)), (17, .lst 1 (xs.map cI)), (14, .v (.bool true)), (0, .lst 1 (xs.map cI)), (1, .lst 1 (ys.map cI)), (5, VI (k : Int))], []⟩) (by kernel_rfl) (opE_iad cI ys (.s 21) (.s 22) 1 .i64 (k : Int) a7 (by kernel_rfl) (by kernel_rfl) (.inl rfl) rfl (by omega) ha7) (by kernel_rfl) ?_
      refine DW.last 2 [0, 1, 5, 25] (x' := ⟨[(25, .v (.bool (a5 != a7))), (0, .lst 1 (xs.map cI)), (1, .lst 1 (ys.map cI)), (5, VI (k : Int))], []⟩) (by kernel_rfl) (by kernel_rfl) ?_
      rcases Bool.eq_false_or_eq_true ((a5 != a7)) with h8 | h8
      · rw [h8]
        have g8 : ¬ (a5 = a7) := by simpa using h8
        refine EL.condT (by kernel_rfl) ?_
        refine EL.sreg ?_
        refine OW.last 1 [4] (x' := ⟨[(4, .v (.bool false))], []⟩) (by kernel_rfl) (by kernel_rfl) ?_
        refine EL.ret ?_
        refine inBlk_ret ?_
        refine thenL_ret ?_
        refine thenL_ret ?_
        refine inBlk_ret ?_
        refine thenL_ret ?_
        refine ⟨.inr rfl, .v (.bool false), by kernel_rfl, Ale.of_eq ?_⟩
        (refine congrArg (fun b => AV.v (Value.bool b)) ?_; first | (have hne : xs ≠ ys := (fun h => by subst h; omega); simp [hne]; done) | (rw [hs, List.drop_eq_nil_of_le (by omega), List.drop_eq_nil_of_le (by omega)]; simp; done) | (rw [hs]; simp [*]))
      · rw [h8]
        have g8 : (a5 = a7) := by simpa using h8
        refine EL.condF (by kernel_rfl) ?_
        refine EL.skip ?_
        refine inBlk_norm ?_
        refine thenL_norm ?_
        refine EL.reg0 ?_
        refine OW.run 3 (x' := ⟨[(5, VI (IntKind.i64.wrap ((k : Int) + 1))), (16, VI (IntKind.i64.wrap ((k : Int) + 1))), (15, VI (k : Int)), (25, .v (.bool false)), (0, .lst 1 (xs.map cI)), (1, .lst 1 (ys.map cI))], []⟩) (by kernel_rfl) ?_
        have e9 : IntKind.i64.wrap ((k : Int) + 1) = (k : Int) + 1 := wr64 (by omega)
        rw [e9]
        refine OW.end 0 (x' := ⟨[(5, VI ((k : Int) + 1)), (16, VI ((k : Int) + 1)), (15, VI (k : Int)), (25, .v (.bool false)), (0, .lst 1 (xs.map cI)), (1, .lst 1 (ys.map cI))], []⟩) (by kernel_rfl) (by kernel_rfl) ?_
        refine thenL_norm ?_
        refine round_end (live := [0, 1, 5]) (src := []) (es := []) (y := (fun (k : Nat) => (⟨[(0, .lst 1 (xs.map cI)), (1, .lst 1 (ys.map cI)), (5, VI (k : Int))], []⟩ : L3)) (k + 1)) ?_ trivial ?_ ⟨(k + 1), rfl, ?_, rfl⟩
        · kernel_rfl
        · omega
        · refine ⟨by omega, by omega, ?_⟩; rw [hs]; simp [*]
    · rw [h3]
      have g3 : ¬ ((k : Int) < (List.length xs : Int)) := of_decide_eq_false h3
      have n3 : ¬ ((k) < (List.length xs)) := by omega
      refine EL.condF (by kernel_rfl) ?_
      refine EL.exit ?_
      refine thenL_exit ?_
      refine thenL_exit ?_
      refine inBlk_hit ?_
      refine thenL_norm ?_
      refine EL.sreg ?_
      refine OW.last 1 [4] (x' := ⟨[(4, .v (.bool true))], []⟩) (by kernel_rfl) (by kernel_rfl) ?_
      refine EL.ret ?_
      refine ⟨.inr rfl, .v (.bool true), by kernel_rfl, Ale.of_eq ?_⟩
      (refine congrArg (fun b => AV.v (Value.bool b)) ?_; first | (have hne : xs ≠ ys := (fun h => by subst h; omega); simp [hne]; done) | (rw [hs, List.drop_eq_nil_of_le (by omega), List.drop_eq_nil_of_le (by omega)]; simp; done) | (rw [hs]; simp [*]))
theorem rserve_fn (b : Bucket) (asks : List Term) : Fn Try.prog 19 [.agg [VI b.level, VI b.now, VI b.burst, VI b.rate], .lst 2 (asks.map Term.cs)] (.tup [.lst 1 (((b.serveP asks).1).map cI), .agg [VI (((b.serveP asks).2.1).level), VI (((b.serveP asks).2.1).now), VI (((b.serveP asks).2.1).burst), VI (((b.serveP asks).2.1).rate)], VI ((b.serveP asks).2.2)]) := by
  refine fn_walkW F19_ok (of_decide_eq_true (by kernel_rfl)) ?_
  refine EL.sreg ?_
  refine OW.last 4 [1, 2, 5] (x' := ⟨[(5, .ref 1 4 0 0), (2, .ref 0 4 0 0), (1, .lst 2 (asks.map Term.cs))], [some ⟨4, [[VI b.level, VI b.now, VI b.burst, VI b.rate]]⟩, some ⟨4, [[VI 0, VI 0, VI 0, VI 0]]⟩]⟩) (by kernel_rfl) (by kernel_rfl) ?_
  refine EL.sreg ?_
  refine OW.run 1 (x' := ⟨[(12, .agg [VI b.level, VI b.now, VI b.burst, VI b.rate]), (5, .ref 1 4 0 0), (2, .ref 0 4 0 0), (1, .lst 2 (asks.map Term.cs))], [some ⟨4, [[VI b.level, VI b.now, VI b.burst, VI b.rate]]⟩, some ⟨4, [[VI 0, VI 0, VI 0, VI 0]]⟩]⟩) (by kernel_rfl) ?_
  refine OW.fn (ar := [.agg [VI b.level, VI b.now, VI b.burst, VI b.rate]]) (x' := ⟨[(13, VI b.checkE), (12, .agg [VI b.level, VI b.now, VI b.burst, VI b.rate]), (5, .ref 1 4 0 0), (2, .ref 0 4 0 0), (1, .lst 2 (asks.map Term.cs))], [some ⟨4, [[VI b.level, VI b.now, VI b.burst, VI b.rate]]⟩, some ⟨4, [[VI 0, VI 0, VI 0, VI 0]]⟩]⟩) (by kernel_rfl) (by kernel_rfl) F17_call (rcheck_fn b) (by kernel_rfl) (by kernel_rfl) ?_
  refine OW.last 1 [1, 2, 5, 7] (x' := ⟨[(7, VI b.checkE), (5, .ref 1 4 0 0), (2, .ref 0 4 0 0), (1, .lst 2 (asks.map Term.cs))], [some ⟨4, [[VI b.level, VI b.now, VI b.burst, VI b.rate]]⟩, some ⟨4, [[VI 0, VI 0, VI 0, VI 0]]⟩]⟩) (by kernel_rfl) (by kernel_rfl) ?_
  refine EL.seq ?_
  refine EL.sreg ?_
  refine OW.run 3 (x' := ⟨[(16, .v (.bool (b.checkE == 0))), (15, .v (.bool (b.checkE == 0))), (14, VI b.checkE), (7, VI b.checkE), (5, .ref 1 4 0 0), (2, .ref 0 4 0 0), (1, .lst 2 (asks.map Term.cs))], [some ⟨4, [[VI b.level, VI b.now, VI b.burst, VI b.rate]]⟩, some ⟨4, [[VI 0, VI 0, VI 0, VI 0]]⟩]⟩) (by kernel_rfl) ?_
  rcases Bool.eq_false_or_eq_true ((b.checkE == 0)) with h1 | h1
  · rw [h1]
    have g1 : (b.checkE = 0) := by simpa using h1
    refine OW.run 1 (x' := ⟨[(17, .lst 2 (asks.map Term.cs)), (16, .v (.bool true)), (15, .v (.bool true)), (14, VI b.checkE), (7, VI b.checkE), (5, .ref 1 4 0 0), (2, .ref 0 4 0 0), (1, .lst 2 (asks.map Term.cs))], [some ⟨4, [[VI b.level, VI b.now, VI b.burst, VI b.rate]]⟩, some ⟨4, [[VI 0, VI 0, VI 0, VI 0]]⟩]⟩) (by kernel_rfl) ?_
    refine OW.ope (v := VI (List.length asks : Int)) (u := []) (acc := []) (x' := ⟨[(18, VI (List.length asks : Int)), (17, .lst 2 (asks.map Term.cs)), (16, .v (.bool true)), (15, .v (.bool true)), (14, VI b.checkE), (7, VI b.checkE), (5, .ref 1 4 0 0), (2, .ref 0 4 0 0), (1, .lst 2 (asks.map Term.cs))], [some ⟨4, [[VI b.level, VI b.now, VI b.burst, VI b.rate]]⟩, some ⟨4, [[VI 0, VI 0, VI 0, VI 0]]⟩]⟩) (by kernel_rfl) (opE_len Term.cs asks (.s 17) 2 (by kernel_rfl) (by kernel_rfl) (.inl rfl)) (by kernel_rfl) ?_
    refine OW.last 2 [1, 2, 5, 7, 20] (x' := ⟨[(20, .v (.bool (decide ((List.length asks : Int) > 64)))), (7, VI b.checkE), (5, .ref 1 4 0 0), (2, .ref 0 4 0 0), (1, .lst 2 (asks.map Term.cs))], [some ⟨4, [[VI b.level, VI b.now, VI b.burst, VI b.rate]]⟩, some ⟨4, [[VI 0, VI 0, VI 0, VI 0]]⟩]⟩) (by kernel_rfl) (by kernel_rfl) ?_
    rcases Bool.eq_false_or_eq_true (decide ((List.length asks : Int) > 64)) with h2 | h2
    · rw [h2]
      have g2 : ((List.length asks : Int) > 64) := of_decide_eq_true h2
      have n2 : ((List.length asks) > 64) := by omega
      refine EL.condT (by kernel_rfl) ?_
      refine EL.reg0 ?_
      refine OW.end 1 (x' := ⟨[(7, VI 2), (20, .v (.bool true)), (5, .ref 1 4 0 0), (2, .ref 0 4 0 0), (1, .lst 2 (asks.map Term.cs))], [some ⟨4, [[VI b.level, VI b.now, VI b.burst, VI b.rate]]⟩, some ⟨4, [[VI 0, VI 0, VI 0, VI 0]]⟩]⟩) (by kernel_rfl) (by kernel_rfl) ?_
      refine thenL_norm ?_
      refine EL.seq ?_
      refine EL.sreg ?_
      refine OW.last 2 [1, 2, 5, 7, 22] (x' := ⟨[(22, .v (.bool true)), (7, VI 2), (5, .ref 1 4 0 0), (2, .ref 0 4 0 0), (1, .lst 2 (asks.map Term.cs))], [some ⟨4, [[VI b.level, VI b.now, VI b.burst, VI b.rate]]⟩, some ⟨4, [[VI 0, VI 0, VI 0, VI 0]]⟩]⟩) (by kernel_rfl) (by kernel_rfl) ?_
      refine EL.condT (by kernel_rfl) ?_
      refine EL.sreg ?_
      refine OW.last 5 [4, 5, 6] (x' := ⟨[(6, VI 2), (4, .emp), (5, .ref 1 4 0 0)], [some ⟨4, [[VI b.level, VI b.now, VI b.burst, VI b.rate]]⟩, some ⟨4, [[VI 0, VI 0, VI 0, VI 0]]⟩]⟩) (by kernel_rfl) (by kernel_rfl) ?_
      refine EL.ret ?_
      refine thenL_ret ?_
      refine ⟨.inr rfl, .tup [.emp, .agg [VI 0, VI 0, VI 0, VI 0], VI 2], by kernel_rfl, Ale.trans (b := .tup [.lst 1 [], .agg [VI 0, VI 0, VI 0, VI 0], VI 2]) (Ale.tup (.cons (Ale.emp) (.cons (Ale.refl) (.cons (Ale.refl) (.nil))))) (Ale.of_eq ?_)⟩
      first | (simp [Bucket.serveP, *]; done) | (have h64 : 64 < asks.length := (by omega); simp [Bucket.serveP, g1, h64]; done) | (have h64 : ¬ 64 < asks.length := (by omega); rw [List.drop_eq_nil_of_le (by omega)] at hs; simp [Bucket.serveP, Bucket.serveGo, g1, h64, hs]; done)
    · rw [h2]
      have g2 : ¬ ((List.length asks : Int) > 64) := of_decide_eq_false h2
      have n2 : ¬ ((List.length asks) > 64) := by omega
      refine EL.condF (by kernel_rfl) ?_
      refine EL.skip ?_
      refine thenL_norm ?_
      refine EL.seq ?_
      refine EL.sreg ?_
      refine OW.last 2 [1, 2, 5, 7, 22] (x' := ⟨[(22, .v (.bool (b.checkE != 0))), (7, VI b.checkE), (5, .ref 1 4 0 0), (2, .ref 0 4 0 0), (1, .lst 2 (asks.map Term.cs))], [some ⟨4, [[VI b.level, VI b.now, VI b.burst, VI b.rate]]⟩, some ⟨4, [[VI 0, VI 0, VI 0, VI 0]]⟩]⟩) (by kernel_rfl) (by kernel_rfl) ?_
      have h3 : (b.checkE != 0) = false := (by show (!(b.checkE == 0)) = _; rw [h1]; rfl)
      rw [h3]
      refine EL.condF (by kernel_rfl) ?_
      refine EL.skip ?_
      refine thenL_norm ?_
      refine EL.sreg ?_
      refine OW.last 1 [1, 2, 5, 8] (x' := ⟨[(8, .emp), (5, .ref 1 4 0 0), (2, .ref 0 4 0 0), (1, .lst 2 (asks.map Term.cs))], [some ⟨4, [[VI b.level, VI b.now, VI b.burst, VI b.rate]]⟩, some ⟨4, [[VI 0, VI 0, VI 0, VI 0]]⟩]⟩) (by kernel_rfl) (by kernel_rfl) ?_
      refine EL.seq ?_
      refine EL.sreg ?_
      refine OW.last 1 [1, 2, 5, 8, 9] (x' := ⟨[(9, VI 0), (8, .emp), (5, .ref 1 4 0 0), (2, .ref 0 4 0 0), (1, .lst 2 (asks.map Term.cs))], [some ⟨4, [[VI b.level, VI b.now, VI b.burst, VI b.rate]]⟩, some ⟨4, [[VI 0, VI 0, VI 0, VI 0]]⟩]⟩) (by kernel_rfl) (by kernel_rfl) ?_
      refine EL.block ?_
      refine EL.loopN (fun m x => ∃ (k : Nat) (c : Bucket) (out : List Int), m = asks.length - k ∧ (k ≤ asks.length ∧ asks.length ≤ 64 ∧ out.length ≤ k ∧ b.serveGo 0 asks [] = c.serveGo k (asks.drop k) out) ∧ x = ⟨[(1, .lst 2 (asks.map Term.cs)), (2, .ref 1 4 0 0), (5, .ref 2 4 0 0), (8, .own 0 1 0 (List.length out)), (9, VI (k : Int))], [some ⟨1, (out.map cI)⟩, some ⟨4, [[VI c.level, VI c.now, VI c.burst, VI c.rate]]⟩, some ⟨4, [[VI 0, VI 0, VI 0, VI 0]]⟩]⟩) (y := (fun (k : Nat) (c : Bucket) (out : List Int) => (⟨[(1, .lst 2 (asks.map Term.cs)), (2, .ref 1 4 0 0), (5, .ref 2 4 0 0), (8, .own 0 1 0 (List.length out)), (9, VI (k : Int))], [some ⟨1, (out.map cI)⟩, some ⟨4, [[VI c.level, VI c.now, VI c.burst, VI c.rate]]⟩, some ⟨4, [[VI 0, VI 0, VI 0, VI 0]]⟩]⟩ : L3)) 0 b []) [1, 2, 5, 8, 9] [.new 1, .old 0 false, .old 1 false] [(8, 0)] (by kernel_rfl) trivial ⟨0, b, [], rfl, by simp; omega, rfl⟩ ?_
      rintro _ _ ⟨k, c, out, rfl, hI4, rfl⟩
      obtain ⟨hk, hl, ho, hs⟩ := hI4
      refine EL.seq ?_
      refine EL.sreg ?_
      refine OW.run 2 (x' := ⟨[(26, .lst 2 (asks.map Term.cs)), (25, VI (k : Int)), (1, .lst 2 (asks.map Term.cs)), (2, .ref 1 4 0 0), (5, .ref 2 4 0 0), (8, .own 0 1 0 (List.length out)), (9, VI (k : Int))], [some ⟨1, (out.map cI)⟩, some ⟨4, [[VI c.level, VI c.now, VI c.burst, VI c.rate]]⟩, some ⟨4, [[VI 0, VI 0, VI 0, VI 0]]⟩]⟩) (by kernel_rfl) ?_
      refine OW.ope (v := VI (List.length asks : Int)) (u := []) (acc := []) (x' := ⟨[(27, VI (List.length asks : Int)), (26, .lst 2 (asks.map Term.cs)), (25, VI (k : Int)), (1, .lst 2 (asks.map Term.cs)), (2, .ref 1 4 0 0), (5, .ref 2 4 0 0), (8, .own 0 1 0 (List.length out)), (9, VI (k : Int))], [some ⟨1, (out.map cI)⟩, some ⟨4, [[VI c.level, VI c.now, VI c.burst, VI c.rate]]⟩, some ⟨4, [[VI 0, VI 0, VI 0, VI 0]]⟩]⟩) (by kernel_rfl) (opE_len Term.cs asks (.s 26) 2 (by kernel_rfl) (by kernel_rfl) (.inl rfl)) (by kernel_rfl) ?_
      refine OW.last 1 [1, 2, 5, 8, 9, 28] (x' := ⟨[(28, .v (.bool (decide ((k : Int) < (List.length asks : Int))))), (1, .lst 2 (asks.map Term.cs)), (2, .ref 1 4 0 0), (5, .ref 2 4 0 0), (8, .own 0 1 0 (List.length out)), (9, VI (k : Int))], [some ⟨1, (out.map cI)⟩, some ⟨4, [[VI c.level, VI c.now, VI c.burst, VI c.rate]]⟩, some ⟨4, [[VI 0, VI 0, VI 0, VI 0]]⟩]⟩) (by kernel_rfl) (by kernel_rfl) ?_
      rcases Bool.eq_false_or_eq_true (decide ((k : Int) < (List.length asks : Int))) with h5 | h5
      · rw [h5]
        have g5 : ((k : Int) < (List.length asks : Int)) := of_decide_eq_true h5
        have n5 : ((k) < (List.length asks)) := by omega
        refine EL.condT (by kernel_rfl) ?_
        refine EL.skip ?_
        refine thenL_norm ?_
        refine EL.seq ?_
        refine EL.block ?_
        refine EL.sdraw ?_
        refine DW.run 3 (x' := ⟨[(34, VI (k : Int)), (33, .lst 2 (asks.map Term.cs)), (32, .agg [VI c.level, VI c.now, VI c.burst, VI c.rate]), (28, .v (.bool true)), (1, .lst 2 (asks.map Term.cs)), (2, .ref 1 4 0 0), (5, .ref 2 4 0 0), (8, .own 0 1 0 (List.length out)), (9, VI (k : Int))], [some ⟨1, (out.map cI)⟩, some ⟨4, [[VI c.level, VI c.now, VI c.burst, VI c.rate]]⟩, some ⟨4, [[VI 0, VI 0, VI 0, VI 0]]⟩]⟩) (by kernel_rfl) ?_
        obtain ⟨a7, ha7⟩ : ∃ y, asks[((k : Int) : Int).toNat]? = some y := idx_ex ⟨by omega, by omega⟩
        have iha7 : asks[k]? = some a7 := by simpa using ha7
        have dha7 := drop_get iha7
        refine DW.ope (v := .pim [VI a7.begin, VI a7.end_] 0) (u := []) (acc := []) (x' := ⟨[(35, .pim [VI a7.begin, VI a7.end_] 0), (34, VI (k : Int)), (33, .lst 2 (asks.map Term.cs)), (32, .agg [VI c.level, VI c.now, VI c.burst, VI c.rate]), (28, .v (.bool true)), (1, .lst 2 (asks.map Term.cs)), (2, .ref 1 4 0 0), (5, .ref 2 4 0 0), (8, .own 0 1 0 (List.length out)), (9, VI (k : Int))], [some ⟨1, (out.map cI)⟩, some ⟨4, [[VI c.level, VI c.now, VI c.burst, VI c.rate]]⟩, some ⟨4, [[VI 0, VI 0, VI 0, VI 0]]⟩]⟩) (by kernel_rfl) (opE_iad Term.cs asks (.s 33) (.s 34) 2 .i64 (k : Int) a7 (by kernel_rfl) (by kernel_rfl) (.inl rfl) rfl (by omega) ha7) (by kernel_rfl) ?_
        refine DW.run 4 (x' := ⟨[(39, VI (k : Int)), (38, .lst 2 (asks.map Term.cs)), (37, VI a7.begin), (36, .pim [VI a7.begin, VI a7.end_] 0), (35, .pim [VI a7.begin, VI a7.end_] 0), (34, VI (k : Int)), (33, .lst 2 (asks.map Term.cs)), (32, .agg [VI c.level, VI c.now, VI c.burst, VI c.rate]), (28, .v (.bool true)), (1, .lst 2 (asks.map Term.cs)), (2, .ref 1 4 0 0), (5, .ref 2 4 0 0), (8, .own 0 1 0 (List.length out)), (9, VI (k : Int))], [some ⟨1, (out.map cI)⟩, some ⟨4, [[VI c.level, VI c.now, VI c.burst, VI c.rate]]⟩, some ⟨4, [[VI 0, VI 0, VI 0, VI 0]]⟩]⟩) (by kernel_rfl) ?_
        refine DW.ope (v := .pim [VI a7.begin, VI a7.end_] 0) (u := []) (acc := []) (x' := ⟨[(40, .pim [VI a7.begin, VI a7.end_] 0), (39, VI (k : Int)), (38, .lst 2 (asks.map Term.cs)), (37, VI a7.begin), (36, .pim [VI a7.begin, VI a7.end_] 0), (35, .pim [VI a7.begin, VI a7.end_] 0), (34, VI (k : Int)), (33, .lst 2 (asks.map Term.cs)), (32, .agg [VI c.level, VI c.now, VI c.burst, VI c.rate]), (28, .v (.bool true)), (1, .lst 2 (asks.map Term.cs)), (2, .ref 1 4 0 0), (5, .ref 2 4 0 0), (8, .own 0 1 0 (List.length out)), (9, VI (k : Int))], [some ⟨1, (out.map cI)⟩, some ⟨4, [[VI c.level, VI c.now, VI c.burst, VI c.rate]]⟩, some ⟨4, [[VI 0, VI 0, VI 0, VI 0]]⟩]⟩) (by kernel_rfl) (opE_iad Term.cs asks (.s 38) (.s 39) 2 .i64 (k : Int) a7 (by kernel_rfl) (by kernel_rfl) (.inl rfl) rfl (by omega) ha7) (by kernel_rfl) ?_
        refine DW.run 2 (x' := ⟨[(42, VI a7.end_), (41, .pim [VI a7.begin, VI a7.end_] 1), (40, .pim [VI a7.begin, VI a7.end_] 0), (39, VI (k : Int)), (38, .lst 2 (asks.map Term.cs)), (37, VI a7.begin), (36, .pim [VI a7.begin, VI a7.end_] 0), (35, .pim [VI a7.begin, VI a7.end_] 0), (34, VI (k : Int)), (33, .lst 2 (asks.map Term.cs)), (32, .agg [VI c.level, VI c.now, VI c.burst, VI c.rate]), (28, .v (.bool true)), (1, .lst 2 (asks.map Term.cs)), (2, .ref 1 4 0 0), (5, .ref 2 4 0 0), (8, .own 0 1 0 (List.length out)), (9, VI (k : Int))], [some ⟨1, (out.map cI)⟩, some ⟨4, [[VI c.level, VI c.now, VI c.burst, VI c.rate]]⟩, some ⟨4, [[VI 0, VI 0, VI 0, VI 0]]⟩]⟩) (by kernel_rfl) ?_
        refine DW.fn (ar := [.agg [VI c.level, VI c.now, VI c.burst, VI c.rate], VI a7.begin, VI a7.end_]) (x' := ⟨[(43, .tup [.agg [VI (((c.takeP a7.begin a7.end_).1).level), VI (((c.takeP a7.begin a7.end_).1).now), VI (((c.takeP a7.begin a7.end_).1).burst), VI (((c.takeP a7.begin a7.end_).1).rate)], VI ((c.takeP a7.begin a7.end_).2)]), (42, VI a7.end_), (41, .pim [VI a7.begin, VI a7.end_] 1), (40, .pim [VI a7.begin, VI a7.end_] 0), (39, VI (k : Int)), (38, .lst 2 (asks.map Term.cs)), (37, VI a7.begin), (36, .pim [VI a7.begin, VI a7.end_] 0), (35, .pim [VI a7.begin, VI a7.end_] 0), (34, VI (k : Int)), (33, .lst 2 (asks.map Term.cs)), (32, .agg [VI c.level, VI c.now, VI c.burst, VI c.rate]), (28, .v (.bool true)), (1, .lst 2 (asks.map Term.cs)), (2, .ref 1 4 0 0), (5, .ref 2 4 0 0), (8, .own 0 1 0 (List.length out)), (9, VI (k : Int))], [some ⟨1, (out.map cI)⟩, some ⟨4, [[VI c.level, VI c.now, VI c.burst, VI c.rate]]⟩, some ⟨4, [[VI 0, VI 0, VI 0, VI 0]]⟩]⟩) (by kernel_rfl) (by kernel_rfl) F13_call (rtake_fn c a7.begin a7.end_) (by kernel_rfl) (by kernel_rfl) ?_
        refine DW.last 6 [1, 2, 5, 8, 9, 10, 11] (x' := ⟨[(11, VI ((c.takeP a7.begin a7.end_).2)), (10, .ref 3 4 0 0), (1, .lst 2 (asks.map Term.cs)), (2, .ref 1 4 0 0), (5, .ref 2 4 0 0), (8, .own 0 1 0 (List.length out)), (9, VI (k : Int))], [some ⟨1, (out.map cI)⟩, some ⟨4, [[VI c.level, VI c.now, VI c.burst, VI c.rate]]⟩, some ⟨4, [[VI 0, VI 0, VI 0, VI 0]]⟩, some ⟨4, [[VI (((c.takeP a7.begin a7.end_).1).level), VI (((c.takeP a7.begin a7.end_).1).now), VI (((c.takeP a7.begin a7.end_).1).burst), VI (((c.takeP a7.begin a7.end_).1).rate)]]⟩]⟩) (by kernel_rfl) (by kernel_rfl) ?_
        refine EL.sreg ?_
        refine OW.last 2 [1, 2, 5, 8, 9, 10, 47] (x' := ⟨[(47, .v (.bool (((c.takeP a7.begin a7.end_).2) == 0))), (10, .ref 3 4 0 0), (1, .lst 2 (asks.map Term.cs)), (2, .ref 1 4 0 0), (5, .ref 2 4 0 0), (8, .own 0 1 0 (List.length out)), (9, VI (k : Int))], [some ⟨1, (out.map cI)⟩, some ⟨4, [[VI c.level, VI c.now, VI c.burst, VI c.rate]]⟩, some ⟨4, [[VI 0, VI 0, VI 0, VI 0]]⟩, some ⟨4, [[VI (((c.takeP a7.begin a7.end_).1).level), VI (((c.takeP a7.begin a7.end_).1).now), VI (((c.takeP a7.begin a7.end_).1).burst), VI (((c.takeP a7.begin a7.end_).1).rate)]]⟩]⟩) (by kernel_rfl) (by kernel_rfl) ?_
        rcases Bool.eq_false_or_eq_true ((((c.takeP a7.begin a7.end_).2) == 0)) with h8 | h8
        · rw [h8]
          have g8 : (((c.takeP a7.begin a7.end_).2) = 0) := by simpa using h8
          refine EL.condT (by kernel_rfl) ?_
          refine EL.sreg ?_
          refine OW.last 2 [1, 2, 5, 8, 9] (x' := ⟨[(1, .lst 2 (asks.map Term.cs)), (2, .ref 1 4 0 0), (5, .ref 2 4 0 0), (8, .own 0 1 0 (List.length out)), (9, VI (k : Int))], [some ⟨1, (out.map cI)⟩, some ⟨4, [[VI (((c.takeP a7.begin a7.end_).1).level), VI (((c.takeP a7.begin a7.end_).1).now), VI (((c.takeP a7.begin a7.end_).1).burst), VI (((c.takeP a7.begin a7.end_).1).rate)]]⟩, some ⟨4, [[VI 0, VI 0, VI 0, VI 0]]⟩, some ⟨4, [[VI (((c.takeP a7.begin a7.end_).1).level), VI (((c.takeP a7.begin a7.end_).1).now), VI (((c.takeP a7.begin a7.end_).1).burst), VI (((c.takeP a7.begin a7.end_).1).rate)]]⟩]⟩) (by kernel_rfl) (by kernel_rfl) ?_
          refine EL.reg0 ?_
          refine OW.run 3 (x' := ⟨[(51, .own 4 1 0 1), (50, VI (k : Int)), (49, .own 0 1 0 (List.length out)), (1, .lst 2 (asks.map Term.cs)), (2, .ref 1 4 0 0), (5, .ref 2 4 0 0), (8, .own 0 1 0 (List.length out)), (9, VI (k : Int))], [some ⟨1, (out.map cI)⟩, some ⟨4, [[VI (((c.takeP a7.begin a7.end_).1).level), VI (((c.takeP a7.begin a7.end_).1).now), VI (((c.takeP a7.begin a7.end_).1).burst), VI (((c.takeP a7.begin a7.end_).1).rate)]]⟩, some ⟨4, [[VI 0, VI 0, VI 0, VI 0]]⟩, some ⟨4, [[VI (((c.takeP a7.begin a7.end_).1).level), VI (((c.takeP a7.begin a7.end_).1).now), VI (((c.takeP a7.begin a7.end_).1).burst), VI (((c.takeP a7.begin a7.end_).1).rate)]]⟩, some ⟨1, [[VI (k : Int)]]⟩]⟩) (by kernel_rfl) ?_
          refine OW.ope (v := .own 5 1 0 (List.length (out ++ ([(k : Int)])))) (u := [(0, none), (5, some ⟨1, ((out ++ ([(k : Int)])).map cI)⟩)]) (acc := [4, 0]) (x' := ⟨[(52, .own 5 1 0 (List.length (out ++ ([(k : Int)])))), (51, .own 4 1 0 1), (50, VI (k : Int)), (49, .own 0 1 0 (List.length out)), (1, .lst 2 (asks.map Term.cs)), (2, .ref 1 4 0 0), (5, .ref 2 4 0 0), (8, .own 0 1 0 (List.length out)), (9, VI (k : Int))], [none, some ⟨4, [[VI (((c.takeP a7.begin a7.end_).1).level), VI (((c.takeP a7.begin a7.end_).1).now), VI (((c.takeP a7.begin a7.end_).1).burst), VI (((c.takeP a7.begin a7.end_).1).rate)]]⟩, some ⟨4, [[VI 0, VI 0, VI 0, VI 0]]⟩, some ⟨4, [[VI (((c.takeP a7.begin a7.end_).1).level), VI (((c.takeP a7.begin a7.end_).1).now), VI (((c.takeP a7.begin a7.end_).1).burst), VI (((c.takeP a7.begin a7.end_).1).rate)]]⟩, some ⟨1, [[VI (k : Int)]]⟩, some ⟨1, ((out ++ ([(k : Int)])).map cI)⟩]⟩) (by kernel_rfl) (opE_appO cI out ([(k : Int)]) (.s 49) (.s 51) 1 8 0 (.own 4 1 0 1) _ (by kernel_rfl) (by kernel_rfl) rfl (by kernel_rfl) rfl (.own (els := [[VI (k : Int)]]) (by kernel_rfl) (by kernel_rfl) (of_decide_eq_true (by kernel_rfl))) (by simp; omega)) (by kernel_rfl) ?_
          refine OW.end 1 (x' := ⟨[(8, .own 5 1 0 (List.length (out ++ ([(k : Int)])))), (52, .own 5 1 0 (List.length (out ++ ([(k : Int)])))), (51, .own 4 1 0 1), (50, VI (k : Int)), (49, .own 0 1 0 (List.length out)), (1, .lst 2 (asks.map Term.cs)), (2, .ref 1 4 0 0), (5, .ref 2 4 0 0), (9, VI (k : Int))], [none, some ⟨4, [[VI (((c.takeP a7.begin a7.end_).1).level), VI (((c.takeP a7.begin a7.end_).1).now), VI (((c.takeP a7.begin a7.end_).1).burst), VI (((c.takeP a7.begin a7.end_).1).rate)]]⟩, some ⟨4, [[VI 0, VI 0, VI 0, VI 0]]⟩, some ⟨4, [[VI (((c.takeP a7.begin a7.end_).1).level), VI (((c.takeP a7.begin a7.end_).1).now), VI (((c.takeP a7.begin a7.end_).1).burst), VI (((c.takeP a7.begin a7.end_).1).rate)]]⟩, some ⟨1, [[VI (k : Int)]]⟩, some ⟨1, ((out ++ ([(k : Int)])).map cI)⟩]⟩) (by kernel_rfl) (by kernel_rfl) ?_
          refine inBlk_norm ?_
          refine thenL_norm ?_
          refine EL.reg0 ?_
          refine OW.run 3 (x' := ⟨[(9, VI (IntKind.i64.wrap ((k : Int) + 1))), (30, VI (IntKind.i64.wrap ((k : Int) + 1))), (29, VI (k : Int)), (8, .own 5 1 0 (List.length (out ++ ([(k : Int)])))), (52, .own 5 1 0 (List.length (out ++ ([(k : Int)])))), (51, .own 4 1 0 1), (50, VI (k : Int)), (49, .own 0 1 0 (List.length out)), (1, .lst 2 (asks.map Term.cs)), (2, .ref 1 4 0 0), (5, .ref 2 4 0 0)], [none, some ⟨4, [[VI (((c.takeP a7.begin a7.end_).1).level), VI (((c.takeP a7.begin a7.end_).1).now), VI (((c.takeP a7.begin a7.end_).1).burst), VI (((c.takeP a7.begin a7.end_).1).rate)]]⟩, some ⟨4, [[VI 0, VI 0, VI 0, VI 0]]⟩, some ⟨4, [[VI (((c.takeP a7.begin a7.end_).1).level), VI (((c.takeP a7.begin a7.end_).1).now), VI (((c.takeP a7.begin a7.end_).1).burst), VI (((c.takeP a7.begin a7.end_).1).rate)]]⟩, some ⟨1, [[VI (k : Int)]]⟩, some ⟨1, ((out ++ ([(k : Int)])).map cI)⟩]⟩) (by kernel_rfl) ?_
          have e9 : IntKind.i64.wrap ((k : Int) + 1) = (k : Int) + 1 := wr64 (by omega)
          rw [e9]
          refine OW.end 0 (x' := ⟨[(9, VI ((k : Int) + 1)), (30, VI ((k : Int) + 1)), (29, VI (k : Int)), (8, .own 5 1 0 (List.length (out ++ ([(k : Int)])))), (52, .own 5 1 0 (List.length (out ++ ([(k : Int)])))), (51, .own 4 1 0 1), (50, VI (k : Int)), (49, .own 0 1 0 (List.length out)), (1, .lst 2 (asks.map Term.cs)), (2, .ref 1 4 0 0), (5, .ref 2 4 0 0)], [none, some ⟨4, [[VI (((c.takeP a7.begin a7.end_).1).level), VI (((c.takeP a7.begin a7.end_).1).now), VI (((c.takeP a7.begin a7.end_).1).burst), VI (((c.takeP a7.begin a7.end_).1).rate)]]⟩, some ⟨4, [[VI 0, VI 0, VI 0, VI 0]]⟩, some ⟨4, [[VI (((c.takeP a7.begin a7.end_).1).level), VI (((c.takeP a7.begin a7.end_).1).now), VI (((c.takeP a7.begin a7.end_).1).burst), VI (((c.takeP a7.begin a7.end_).1).rate)]]⟩, some ⟨1, [[VI (k : Int)]]⟩, some ⟨1, ((out ++ ([(k : Int)])).map cI)⟩]⟩) (by kernel_rfl) (by kernel_rfl) ?_
          refine thenL_norm ?_
          refine round_end (live := [1, 2, 5, 8, 9]) (src := [.old 5 true, .old 1 false, .old 2 false]) (es := []) (y := (fun (k : Nat) (c : Bucket) (out : List Int) => (⟨[(1, .lst 2 (asks.map Term.cs)), (2, .ref 1 4 0 0), (5, .ref 2 4 0 0), (8, .own 0 1 0 (List.length out)), (9, VI (k : Int))], [some ⟨1, (out.map cI)⟩, some ⟨4, [[VI c.level, VI c.now, VI c.burst, VI c.rate]]⟩, some ⟨4, [[VI 0, VI 0, VI 0, VI 0]]⟩]⟩ : L3)) (k + 1) ((c.takeP a7.begin a7.end_).1) (out ++ ([(k : Int)]))) ?_ ⟨⟨_, cI, (out ++ ([(k : Int)])), 1, by kernel_rfl, by intro y; kernel_rfl⟩, trivial⟩ ?_ ⟨(k + 1), ((c.takeP a7.begin a7.end_).1), (out ++ ([(k : Int)])), rfl, ?_, rfl⟩
          · kernel_rfl
          · omega
          · refine ⟨by omega, by omega, by (try simp) <;> omega, ?_⟩; rw [hs]; simp [Bucket.serveGo, *]
        · rw [h8]
          have g8 : ¬ (((c.takeP a7.begin a7.end_).2) = 0) := by simpa using h8
          refine EL.condF (by kernel_rfl) ?_
          refine EL.skip ?_
          refine inBlk_norm ?_
          refine thenL_norm ?_
          refine EL.reg0 ?_
          refine OW.run 3 (x' := ⟨[(9, VI (IntKind.i64.wrap ((k : Int) + 1))), (30, VI (IntKind.i64.wrap ((k : Int) + 1))), (29, VI (k : Int)), (47, .v (.bool false)), (10, .ref 3 4 0 0), (1, .lst 2 (asks.map Term.cs)), (2, .ref 1 4 0 0), (5, .ref 2 4 0 0), (8, .own 0 1 0 (List.length out))], [some ⟨1, (out.map cI)⟩, some ⟨4, [[VI c.level, VI c.now, VI c.burst, VI c.rate]]⟩, some ⟨4, [[VI 0, VI 0, VI 0, VI 0]]⟩, some ⟨4, [[VI (((c.takeP a7.begin a7.end_).1).level), VI (((c.takeP a7.begin a7.end_).1).now), VI (((c.takeP a7.begin a7.end_).1).burst), VI (((c.takeP a7.begin a7.end_).1).rate)]]⟩]⟩) (by kernel_rfl) ?_
          have e10 : IntKind.i64.wrap ((k : Int) + 1) = (k : Int) + 1 := wr64 (by omega)
          rw [e10]
          refine OW.end 0 (x' := ⟨[(9, VI ((k : Int) + 1)), (30, VI ((k : Int) + 1)), (29, VI (k : Int)), (47, .v (.bool false)), (10, .ref 3 4 0 0), (1, .lst 2 (asks.map Term.cs)), (2, .ref 1 4 0 0), (5, .ref 2 4 0 0), (8, .own 0 1 0 (List.length out))], [some ⟨1, (out.map cI)⟩, some ⟨4, [[VI c.level, VI c.now, VI c.burst, VI c.rate]]⟩, some ⟨4, [[VI 0, VI 0, VI 0, VI 0]]⟩, some ⟨4, [[VI (((c.takeP a7.begin a7.end_).1).level), VI (((c.takeP a7.begin a7.end_).1).now), VI (((c.takeP a7.begin a7.end_).1).burst), VI (((c.takeP a7.begin a7.end_).1).rate)]]⟩]⟩) (by kernel_rfl) (by kernel_rfl) ?_
          refine thenL_norm ?_
          refine round_end (live := [1, 2, 5, 8, 9]) (src := [.old 0 true, .old 1 false, .old 2 false]) (es := []) (y := (fun (k : Nat) (c : Bucket) (out : List Int) => (⟨[(1, .lst 2 (asks.map Term.cs)), (2, .ref 1 4 0 0), (5, .ref 2 4 0 0), (8, .own 0 1 0 (List.length out)), (9, VI (k : Int))], [some ⟨1, (out.map cI)⟩, some ⟨4, [[VI c.level, VI c.now, VI c.burst, VI c.rate]]⟩, some ⟨4, [[VI 0, VI 0, VI 0, VI 0]]⟩]⟩ : L3)) (k + 1) c out) ?_ ⟨⟨_, cI, out, 1, by kernel_rfl, by intro y; kernel_rfl⟩, trivial⟩ ?_ ⟨(k + 1), c, out, rfl, ?_, rfl⟩
          · kernel_rfl
          · omega
          · refine ⟨by omega, by omega, by (try simp) <;> omega, ?_⟩; rw [hs]; simp [Bucket.serveGo, *]
      · rw [h5]
        have g5 : ¬ ((k : Int) < (List.length asks : Int)) := of_decide_eq_false h5
        have n5 : ¬ ((k) < (List.length asks)) := by omega
        refine EL.condF (by kernel_rfl) ?_
        refine EL.exit ?_
        refine thenL_exit ?_
        refine thenL_exit ?_
        refine inBlk_hit ?_
        refine thenL_norm ?_
        refine EL.sdraw ?_
        refine DW.last 5 [4, 5, 6] (x' := ⟨[(6, VI 0), (4, .own 0 1 0 (List.length out)), (5, .ref 2 4 0 0)], [some ⟨1, (out.map cI)⟩, some ⟨4, [[VI c.level, VI c.now, VI c.burst, VI c.rate]]⟩, some ⟨4, [[VI c.level, VI c.now, VI c.burst, VI c.rate]]⟩]⟩) (by kernel_rfl) (by kernel_rfl) ?_
        refine EL.ret ?_
        refine ⟨.inr rfl, .tup [.lst 1 (out.map cI), .agg [VI c.level, VI c.now, VI c.burst, VI c.rate], VI 0], run_snap (r0 := .tup [.own 0 1 0 (List.length out), .agg [VI c.level, VI c.now, VI c.burst, VI c.rate], VI 0]) (by kernel_rfl) (snapR_tup (snapAs_cons (snapA_map cI out (by kernel_rfl) (by intro y; kernel_rfl) (by simp)) (snapAs_cons (by kernel_rfl) (snapAs_cons (by kernel_rfl) (snapAs_nil))))), Ale.of_eq ?_⟩
        first | (simp [Bucket.serveP, *]; done) | (have h64 : 64 < asks.length := (by omega); simp [Bucket.serveP, g1, h64]; done) | (have h64 : ¬ 64 < asks.length := (by omega); rw [List.drop_eq_nil_of_le (by omega)] at hs; simp [Bucket.serveP, Bucket.serveGo, g1, h64, hs]; done)
  · rw [h1]
    have g1 : ¬ (b.checkE = 0) := by simpa using h1
    refine OW.last 4 [1, 2, 5, 7, 20] (x' := ⟨[(20, .v (.bool false)), (7, VI b.checkE), (5, .ref 1 4 0 0), (2, .ref 0 4 0 0), (1, .lst 2 (asks.map Term.cs))], [some ⟨4, [[VI b.level, VI b.now, VI b.burst, VI b.rate]]⟩, some ⟨4, [[VI 0, VI 0, VI 0, VI 0]]⟩]⟩) (by kernel_rfl) (by kernel_rfl) ?_
    refine EL.condF (by kernel_rfl) ?_
    refine EL.skip ?_
    refine thenL_norm ?_
    refine EL.seq ?_
    refine EL.sreg ?_
    refine OW.last 2 [1, 2, 5, 7, 22] (x' := ⟨[(22, .v (.bool (b.checkE != 0))), (7, VI b.checkE), (5, .ref 1 4 0 0), (2, .ref 0 4 0 0), (1, .lst 2 (asks.map Term.cs))], [some ⟨4, [[VI b.level, VI b.now, VI b.burst, VI b.rate]]⟩, some ⟨4, [[VI 0, VI 0, VI 0, VI 0]]⟩]⟩) (by kernel_rfl) (by kernel_rfl) ?_
    have h11 : (b.checkE != 0) = true := (by show (!(b.checkE == 0)) = _; rw [h1]; rfl)
    rw [h11]
    refine EL.condT (by kernel_rfl) ?_
    refine EL.sreg ?_
    refine OW.last 5 [4, 5, 6] (x' := ⟨[(6, VI b.checkE), (4, .emp), (5, .ref 1 4 0 0)], [some ⟨4, [[VI b.level, VI b.now, VI b.burst, VI b.rate]]⟩, some ⟨4, [[VI 0, VI 0, VI 0, VI 0]]⟩]⟩) (by kernel_rfl) (by kernel_rfl) ?_
    refine EL.ret ?_
    refine thenL_ret ?_
    refine ⟨.inr rfl, .tup [.emp, .agg [VI 0, VI 0, VI 0, VI 0], VI b.checkE], by kernel_rfl, Ale.trans (b := .tup [.lst 1 [], .agg [VI 0, VI 0, VI 0, VI 0], VI b.checkE]) (Ale.tup (.cons (Ale.emp) (.cons (Ale.refl) (.cons (Ale.refl) (.nil))))) (Ale.of_eq ?_)⟩
    first | (simp [Bucket.serveP, *]; done) | (have h64 : 64 < asks.length := (by omega); simp [Bucket.serveP, g1, h64]; done) | (have h64 : ¬ 64 < asks.length := (by omega); rw [List.drop_eq_nil_of_le (by omega)] at hs; simp [Bucket.serveP, Bucket.serveGo, g1, h64, hs]; done)
theorem rready_fn (b : Bucket) (n : Int) : Fn Try.prog 14 [.agg [VI b.level, VI b.now, VI b.burst, VI b.rate], VI n] (.tup [VI ((b.readyP n).1), VI ((b.readyP n).2)]) := by
  refine fn_walkW F14_ok (of_decide_eq_true (by kernel_rfl)) ?_
  refine EL.sreg ?_
  refine OW.last 3 [1, 2] (x' := ⟨[(2, .ref 0 4 0 0), (1, VI n)], [some ⟨4, [[VI b.level, VI b.now, VI b.burst, VI b.rate]]⟩]⟩) (by kernel_rfl) (by kernel_rfl) ?_
  refine EL.sreg ?_
  refine OW.run 1 (x' := ⟨[(12, .agg [VI b.level, VI b.now, VI b.burst, VI b.rate]), (2, .ref 0 4 0 0), (1, VI n)], [some ⟨4, [[VI b.level, VI b.now, VI b.burst, VI b.rate]]⟩]⟩) (by kernel_rfl) ?_
  refine OW.fn (ar := [.agg [VI b.level, VI b.now, VI b.burst, VI b.rate]]) (x' := ⟨[(13, VI b.checkE), (12, .agg [VI b.level, VI b.now, VI b.burst, VI b.rate]), (2, .ref 0 4 0 0), (1, VI n)], [some ⟨4, [[VI b.level, VI b.now, VI b.burst, VI b.rate]]⟩]⟩) (by kernel_rfl) (by kernel_rfl) F17_call (rcheck_fn b) (by kernel_rfl) (by kernel_rfl) ?_
  refine OW.last 1 [1, 2, 6] (x' := ⟨[(6, VI b.checkE), (2, .ref 0 4 0 0), (1, VI n)], [some ⟨4, [[VI b.level, VI b.now, VI b.burst, VI b.rate]]⟩]⟩) (by kernel_rfl) (by kernel_rfl) ?_
  refine EL.seq ?_
  refine EL.sreg ?_
  refine OW.run 3 (x' := ⟨[(16, .v (.bool (b.checkE == 0))), (15, .v (.bool (b.checkE == 0))), (14, VI b.checkE), (6, VI b.checkE), (2, .ref 0 4 0 0), (1, VI n)], [some ⟨4, [[VI b.level, VI b.now, VI b.burst, VI b.rate]]⟩]⟩) (by kernel_rfl) ?_
  rcases Bool.eq_false_or_eq_true ((b.checkE == 0)) with h1 | h1
  · rw [h1]
    have g1 : (b.checkE = 0) := by simpa using h1
    refine OW.run 3 (x' := ⟨[(19, .v (.bool (decide (n < 0)))), (18, .v (.bool (decide (n < 0)))), (17, VI n), (16, .v (.bool true)), (15, .v (.bool true)), (14, VI b.checkE), (6, VI b.checkE), (2, .ref 0 4 0 0), (1, VI n)], [some ⟨4, [[VI b.level, VI b.now, VI b.burst, VI b.rate]]⟩]⟩) (by kernel_rfl) ?_
    rcases Bool.eq_false_or_eq_true (decide (n < 0)) with h2 | h2
    · rw [h2]
      have g2 : (n < 0) := of_decide_eq_true h2
      refine OW.last 6 [1, 2, 6, 25] (x' := ⟨[(25, .v (.bool true)), (6, VI b.checkE), (2, .ref 0 4 0 0), (1, VI n)], [some ⟨4, [[VI b.level, VI b.now, VI b.burst, VI b.rate]]⟩]⟩) (by kernel_rfl) (by kernel_rfl) ?_
      refine EL.condT (by kernel_rfl) ?_
      refine EL.reg0 ?_
      refine OW.end 1 (x' := ⟨[(6, VI 3), (25, .v (.bool true)), (2, .ref 0 4 0 0), (1, VI n)], [some ⟨4, [[VI b.level, VI b.now, VI b.burst, VI b.rate]]⟩]⟩) (by kernel_rfl) (by kernel_rfl) ?_
      refine thenL_norm ?_
      refine EL.seq ?_
      refine EL.sreg ?_
      refine OW.last 2 [1, 2, 6, 27] (x' := ⟨[(27, .v (.bool true)), (6, VI 3), (2, .ref 0 4 0 0), (1, VI n)], [some ⟨4, [[VI b.level, VI b.now, VI b.burst, VI b.rate]]⟩]⟩) (by kernel_rfl) (by kernel_rfl) ?_
      refine EL.condT (by kernel_rfl) ?_
      refine EL.sreg ?_
      refine OW.last 3 [4, 5] (x' := ⟨[(5, VI 3), (4, VI 0)], [some ⟨4, [[VI b.level, VI b.now, VI b.burst, VI b.rate]]⟩]⟩) (by kernel_rfl) (by kernel_rfl) ?_
      refine EL.ret ?_
      refine thenL_ret ?_
      refine ⟨.inr rfl, .tup [VI 0, VI 3], by kernel_rfl, Ale.of_eq ?_⟩
      first | (rw [Bucket.ready_char hb hn (lo := lo) ⟨h1', by omega⟩ h4' (fun hl => by have : lo = hi := (by omega); subst this; exact h5' hl)]; first | (rw [if_pos (by omega)]; done) | (rw [if_neg (by omega)]; done)) | (simp only [Bucket.readyP]; (repeat' split) <;> first | rfl | (exfalso; omega) | (rw [Bucket.check_3 ‹_›]; done) | (simp <;> omega))
    · rw [h2]
      have g2 : ¬ (n < 0) := of_decide_eq_false h2
      refine OW.last 6 [1, 2, 6, 25] (x' := ⟨[(25, .v (.bool (decide (n > b.burst)))), (6, VI b.checkE), (2, .ref 0 4 0 0), (1, VI n)], [some ⟨4, [[VI b.level, VI b.now, VI b.burst, VI b.rate]]⟩]⟩) (by kernel_rfl) (by kernel_rfl) ?_
      rcases Bool.eq_false_or_eq_true (decide (n > b.burst)) with h3 | h3
      · rw [h3]
        have g3 : (n > b.burst) := of_decide_eq_true h3
        refine EL.condT (by kernel_rfl) ?_
        refine EL.reg0 ?_
        refine OW.end 1 (x' := ⟨[(6, VI 3), (25, .v (.bool true)), (2, .ref 0 4 0 0), (1, VI n)], [some ⟨4, [[VI b.level, VI b.now, VI b.burst, VI b.rate]]⟩]⟩) (by kernel_rfl) (by kernel_rfl) ?_
        refine thenL_norm ?_
        refine EL.seq ?_
        refine EL.sreg ?_
        refine OW.last 2 [1, 2, 6, 27] (x' := ⟨[(27, .v (.bool true)), (6, VI 3), (2, .ref 0 4 0 0), (1, VI n)], [some ⟨4, [[VI b.level, VI b.now, VI b.burst, VI b.rate]]⟩]⟩) (by kernel_rfl) (by kernel_rfl) ?_
        refine EL.condT (by kernel_rfl) ?_
        refine EL.sreg ?_
        refine OW.last 3 [4, 5] (x' := ⟨[(5, VI 3), (4, VI 0)], [some ⟨4, [[VI b.level, VI b.now, VI b.burst, VI b.rate]]⟩]⟩) (by kernel_rfl) (by kernel_rfl) ?_
        refine EL.ret ?_
        refine thenL_ret ?_
        refine ⟨.inr rfl, .tup [VI 0, VI 3], by kernel_rfl, Ale.of_eq ?_⟩
        first | (rw [Bucket.ready_char hb hn (lo := lo) ⟨h1', by omega⟩ h4' (fun hl => by have : lo = hi := (by omega); subst this; exact h5' hl)]; first | (rw [if_pos (by omega)]; done) | (rw [if_neg (by omega)]; done)) | (simp only [Bucket.readyP]; (repeat' split) <;> first | rfl | (exfalso; omega) | (rw [Bucket.check_3 ‹_›]; done) | (simp <;> omega))
      · rw [h3]
        have g3 : ¬ (n > b.burst) := of_decide_eq_false h3
        refine EL.condF (by kernel_rfl) ?_
        refine EL.skip ?_
        refine thenL_norm ?_
        refine EL.seq ?_
        refine EL.sreg ?_
        refine OW.last 2 [1, 2, 6, 27] (x' := ⟨[(27, .v (.bool (b.checkE != 0))), (6, VI b.checkE), (2, .ref 0 4 0 0), (1, VI n)], [some ⟨4, [[VI b.level, VI b.now, VI b.burst, VI b.rate]]⟩]⟩) (by kernel_rfl) (by kernel_rfl) ?_
        have h4 : (b.checkE != 0) = false := (by show (!(b.checkE == 0)) = _; rw [h1]; rfl)
        rw [h4]
        refine EL.condF (by kernel_rfl) ?_
        refine EL.skip ?_
        refine thenL_norm ?_
        refine EL.sreg ?_
        refine OW.last 4 [1, 2, 7, 8] (x' := ⟨[(8, VI 1000001), (7, VI b.now), (2, .ref 0 4 0 0), (1, VI n)], [some ⟨4, [[VI b.level, VI b.now, VI b.burst, VI b.rate]]⟩]⟩) (by kernel_rfl) (by kernel_rfl) ?_
        refine EL.seq ?_
        refine EL.block ?_
        refine EL.loopN (fun m x => ∃ (lo : Int) (hi : Int), m = (hi - lo).toNat ∧ (b.okB ∧ (0 ≤ n ∧ n ≤ b.burst) ∧ b.now ≤ lo ∧ lo ≤ hi ∧ hi ≤ 1000001 ∧ (∀ t, b.now ≤ t → t < lo → (b.takeP t n).2 ≠ 0) ∧ (hi ≤ 1000000 → (b.takeP hi n).2 = 0)) ∧ x = ⟨[(1, VI n), (2, .ref 0 4 0 0), (7, VI lo), (8, VI hi)], [some ⟨4, [[VI b.level, VI b.now, VI b.burst, VI b.rate]]⟩]⟩) (y := (fun (lo : Int) (hi : Int) => (⟨[(1, VI n), (2, .ref 0 4 0 0), (7, VI lo), (8, VI hi)], [some ⟨4, [[VI b.level, VI b.now, VI b.burst, VI b.rate]]⟩]⟩ : L3)) b.now 1000001) [1, 2, 7, 8] [.old 0 false] [] (by kernel_rfl) trivial ⟨b.now, 1000001, rfl, by have hb := Bucket.check_0.1 ‹b.checkE = 0›; have := hb.2.2.1; exact ⟨hb, ⟨by omega, by omega⟩, by omega, by omega, by omega, fun t ht hl => by omega, fun h => by omega⟩, rfl⟩ ?_
        rintro _ _ ⟨lo, hi, rfl, hI5, rfl⟩
        obtain ⟨hb, hn, h1', h2', h3', h4', h5'⟩ := hI5
        have hnow := hb.2.2.1
        refine EL.seq ?_
        refine EL.sreg ?_
        refine OW.last 3 [1, 2, 7, 8, 33] (x' := ⟨[(33, .v (.bool (decide (lo < hi)))), (1, VI n), (2, .ref 0 4 0 0), (7, VI lo), (8, VI hi)], [some ⟨4, [[VI b.level, VI b.now, VI b.burst, VI b.rate]]⟩]⟩) (by kernel_rfl) (by kernel_rfl) ?_
        rcases Bool.eq_false_or_eq_true (decide (lo < hi)) with h6 | h6
        · rw [h6]
          have g6 : (lo < hi) := of_decide_eq_true h6
          refine EL.condT (by kernel_rfl) ?_
          refine EL.skip ?_
          refine thenL_norm ?_
          refine EL.block ?_
          refine EL.sreg ?_
          refine OW.run 5 (x' := ⟨[(9, VI (IntKind.i64.wrap ((IntKind.i64.wrap (lo + hi)).tdiv 2))), (37, VI (IntKind.i64.wrap ((IntKind.i64.wrap (lo + hi)).tdiv 2))), (36, VI (IntKind.i64.wrap (lo + hi))), (35, VI hi), (34, VI lo), (33, .v (.bool true)), (1, VI n), (2, .ref 0 4 0 0), (7, VI lo), (8, VI hi)], [some ⟨4, [[VI b.level, VI b.now, VI b.burst, VI b.rate]]⟩]⟩) (by kernel_rfl) ?_
          have e7 : IntKind.i64.wrap (lo + hi) = lo + hi := wr64 (by omega)
          rw [e7]
          have e8 : IntKind.i64.wrap ((lo + hi).tdiv 2) = (lo + hi) / 2 := quo64 (by omega)
          rw [e8]
          refine OW.last 0 [1, 2, 7, 8, 9] (x' := ⟨[(9, VI ((lo + hi) / 2)), (1, VI n), (2, .ref 0 4 0 0), (7, VI lo), (8, VI hi)], [some ⟨4, [[VI b.level, VI b.now, VI b.burst, VI b.rate]]⟩]⟩) (by kernel_rfl) (by kernel_rfl) ?_
          refine EL.sreg ?_
          refine OW.run 3 (x' := ⟨[(41, VI n), (40, VI ((lo + hi) / 2)), (39, .agg [VI b.level, VI b.now, VI b.burst, VI b.rate]), (9, VI ((lo + hi) / 2)), (1, VI n), (2, .ref 0 4 0 0), (7, VI lo), (8, VI hi)], [some ⟨4, [[VI b.level, VI b.now, VI b.burst, VI b.rate]]⟩]⟩) (by kernel_rfl) ?_
          refine OW.fn (ar := [.agg [VI b.level, VI b.now, VI b.burst, VI b.rate], VI ((lo + hi) / 2), VI n]) (x' := ⟨[(42, .tup [.agg [VI (((b.takeP ((lo + hi) / 2) n).1).level), VI (((b.takeP ((lo + hi) / 2) n).1).now), VI (((b.takeP ((lo + hi) / 2) n).1).burst), VI (((b.takeP ((lo + hi) / 2) n).1).rate)], VI ((b.takeP ((lo + hi) / 2) n).2)]), (41, VI n), (40, VI ((lo + hi) / 2)), (39, .agg [VI b.level, VI b.now, VI b.burst, VI b.rate]), (9, VI ((lo + hi) / 2)), (1, VI n), (2, .ref 0 4 0 0), (7, VI lo), (8, VI hi)], [some ⟨4, [[VI b.level, VI b.now, VI b.burst, VI b.rate]]⟩]⟩) (by kernel_rfl) (by kernel_rfl) F13_call (rtake_fn b ((lo + hi) / 2) n) (by kernel_rfl) (by kernel_rfl) ?_
          refine OW.last 6 [1, 2, 7, 8, 9, 11] (x' := ⟨[(11, VI ((b.takeP ((lo + hi) / 2) n).2)), (9, VI ((lo + hi) / 2)), (1, VI n), (2, .ref 0 4 0 0), (7, VI lo), (8, VI hi)], [some ⟨4, [[VI b.level, VI b.now, VI b.burst, VI b.rate]]⟩, some ⟨4, [[VI (((b.takeP ((lo + hi) / 2) n).1).level), VI (((b.takeP ((lo + hi) / 2) n).1).now), VI (((b.takeP ((lo + hi) / 2) n).1).burst), VI (((b.takeP ((lo + hi) / 2) n).1).rate)]]⟩]⟩) (by kernel_rfl) (by kernel_rfl) ?_
          refine EL.sreg ?_
          refine OW.last 2 [1, 2, 7, 8, 9, 46] (x' := ⟨[(46, .v (.bool (((b.takeP ((lo + hi) / 2) n).2) == 0))), (9, VI ((lo + hi) / 2)), (1, VI n), (2, .ref 0 4 0 0), (7, VI lo), (8, VI hi)], [some ⟨4, [[VI b.level, VI b.now, VI b.burst, VI b.rate]]⟩, some ⟨4, [[VI (((b.takeP ((lo + hi) / 2) n).1).level), VI (((b.takeP ((lo + hi) / 2) n).1).now), VI (((b.takeP ((lo + hi) / 2) n).1).burst), VI (((b.takeP ((lo + hi) / 2) n).1).rate)]]⟩]⟩) (by kernel_rfl) (by kernel_rfl) ?_
          rcases Bool.eq_false_or_eq_true ((((b.takeP ((lo + hi) / 2) n).2) == 0)) with h9 | h9
          · rw [h9]
            have g9 : (((b.takeP ((lo + hi) / 2) n).2) = 0) := by simpa using h9
            refine EL.condT (by kernel_rfl) ?_
            refine EL.reg0 ?_
            refine OW.end 2 (x' := ⟨[(8, VI ((lo + hi) / 2)), (47, VI ((lo + hi) / 2)), (46, .v (.bool true)), (9, VI ((lo + hi) / 2)), (1, VI n), (2, .ref 0 4 0 0), (7, VI lo)], [some ⟨4, [[VI b.level, VI b.now, VI b.burst, VI b.rate]]⟩, some ⟨4, [[VI (((b.takeP ((lo + hi) / 2) n).1).level), VI (((b.takeP ((lo + hi) / 2) n).1).now), VI (((b.takeP ((lo + hi) / 2) n).1).burst), VI (((b.takeP ((lo + hi) / 2) n).1).rate)]]⟩]⟩) (by kernel_rfl) (by kernel_rfl) ?_
            refine inBlk_norm ?_
            refine thenL_norm ?_
            refine round_end (live := [1, 2, 7, 8]) (src := [.old 0 false]) (es := []) (y := (fun (lo : Int) (hi : Int) => (⟨[(1, VI n), (2, .ref 0 4 0 0), (7, VI lo), (8, VI hi)], [some ⟨4, [[VI b.level, VI b.now, VI b.burst, VI b.rate]]⟩]⟩ : L3)) lo ((lo + hi) / 2)) ?_ trivial ?_ ⟨lo, ((lo + hi) / 2), rfl, ?_, rfl⟩
            · kernel_rfl
            · omega
            · first | exact ⟨hb, hn, h1', by omega, by omega, h4', fun _ => by simpa using ‹_›⟩ | (refine ⟨hb, hn, by omega, by omega, by omega, fun t ht hl hk => ?_, h5'⟩; have := Bucket.take_rises hk ht (u := (lo + hi) / 2) (by omega) (by omega) hb; first | contradiction | (simp_all; done))
          · rw [h9]
            have g9 : ¬ (((b.takeP ((lo + hi) / 2) n).2) = 0) := by simpa using h9
            refine EL.condF (by kernel_rfl) ?_
            refine EL.reg0 ?_
            refine OW.run 3 (x' := ⟨[(7, VI (IntKind.i64.wrap (((lo + hi) / 2) + 1))), (49, VI (IntKind.i64.wrap (((lo + hi) / 2) + 1))), (48, VI ((lo + hi) / 2)), (46, .v (.bool false)), (9, VI ((lo + hi) / 2)), (1, VI n), (2, .ref 0 4 0 0), (8, VI hi)], [some ⟨4, [[VI b.level, VI b.now, VI b.burst, VI b.rate]]⟩, some ⟨4, [[VI (((b.takeP ((lo + hi) / 2) n).1).level), VI (((b.takeP ((lo + hi) / 2) n).1).now), VI (((b.takeP ((lo + hi) / 2) n).1).burst), VI (((b.takeP ((lo + hi) / 2) n).1).rate)]]⟩]⟩) (by kernel_rfl) ?_
            have e10 : IntKind.i64.wrap (((lo + hi) / 2) + 1) = ((lo + hi) / 2) + 1 := wr64 (by omega)
            rw [e10]
            refine OW.end 0 (x' := ⟨[(7, VI (((lo + hi) / 2) + 1)), (49, VI (((lo + hi) / 2) + 1)), (48, VI ((lo + hi) / 2)), (46, .v (.bool false)), (9, VI ((lo + hi) / 2)), (1, VI n), (2, .ref 0 4 0 0), (8, VI hi)], [some ⟨4, [[VI b.level, VI b.now, VI b.burst, VI b.rate]]⟩, some ⟨4, [[VI (((b.takeP ((lo + hi) / 2) n).1).level), VI (((b.takeP ((lo + hi) / 2) n).1).now), VI (((b.takeP ((lo + hi) / 2) n).1).burst), VI (((b.takeP ((lo + hi) / 2) n).1).rate)]]⟩]⟩) (by kernel_rfl) (by kernel_rfl) ?_
            refine inBlk_norm ?_
            refine thenL_norm ?_
            refine round_end (live := [1, 2, 7, 8]) (src := [.old 0 false]) (es := []) (y := (fun (lo : Int) (hi : Int) => (⟨[(1, VI n), (2, .ref 0 4 0 0), (7, VI lo), (8, VI hi)], [some ⟨4, [[VI b.level, VI b.now, VI b.burst, VI b.rate]]⟩]⟩ : L3)) (((lo + hi) / 2) + 1) hi) ?_ trivial ?_ ⟨(((lo + hi) / 2) + 1), hi, rfl, ?_, rfl⟩
            · kernel_rfl
            · omega
            · first | exact ⟨hb, hn, h1', by omega, by omega, h4', fun _ => by simpa using ‹_›⟩ | (refine ⟨hb, hn, by omega, by omega, by omega, fun t ht hl hk => ?_, h5'⟩; have := Bucket.take_rises hk ht (u := (lo + hi) / 2) (by omega) (by omega) hb; first | contradiction | (simp_all; done))
        · rw [h6]
          have g6 : ¬ (lo < hi) := of_decide_eq_false h6
          refine EL.condF (by kernel_rfl) ?_
          refine EL.exit ?_
          refine thenL_exit ?_
          refine thenL_exit ?_
          refine inBlk_hit ?_
          refine thenL_norm ?_
          refine EL.seq ?_
          refine EL.sreg ?_
          refine OW.last 2 [7, 51] (x' := ⟨[(51, .v (.bool (decide (lo > 1000000)))), (7, VI lo)], [some ⟨4, [[VI b.level, VI b.now, VI b.burst, VI b.rate]]⟩]⟩) (by kernel_rfl) (by kernel_rfl) ?_
          rcases Bool.eq_false_or_eq_true (decide (lo > 1000000)) with h11 | h11
          · rw [h11]
            have g11 : (lo > 1000000) := of_decide_eq_true h11
            refine EL.condT (by kernel_rfl) ?_
            refine EL.sreg ?_
            refine OW.last 2 [4, 5] (x' := ⟨[(5, VI 5), (4, VI 0)], [some ⟨4, [[VI b.level, VI b.now, VI b.burst, VI b.rate]]⟩]⟩) (by kernel_rfl) (by kernel_rfl) ?_
            refine EL.ret ?_
            refine thenL_ret ?_
            refine ⟨.inr rfl, .tup [VI 0, VI 5], by kernel_rfl, Ale.of_eq ?_⟩
            first | (rw [Bucket.ready_char hb hn (lo := lo) ⟨h1', by omega⟩ h4' (fun hl => by have : lo = hi := (by omega); subst this; exact h5' hl)]; first | (rw [if_pos (by omega)]; done) | (rw [if_neg (by omega)]; done)) | (simp only [Bucket.readyP]; (repeat' split) <;> first | rfl | (exfalso; omega) | (rw [Bucket.check_3 ‹_›]; done) | (simp <;> omega))
          · rw [h11]
            have g11 : ¬ (lo > 1000000) := of_decide_eq_false h11
            refine EL.condF (by kernel_rfl) ?_
            refine EL.skip ?_
            refine thenL_norm ?_
            refine EL.sreg ?_
            refine OW.last 3 [4, 5] (x' := ⟨[(5, VI 0), (4, VI lo)], [some ⟨4, [[VI b.level, VI b.now, VI b.burst, VI b.rate]]⟩]⟩) (by kernel_rfl) (by kernel_rfl) ?_
            refine EL.ret ?_
            refine ⟨.inr rfl, .tup [VI lo, VI 0], by kernel_rfl, Ale.of_eq ?_⟩
            first | (rw [Bucket.ready_char hb hn (lo := lo) ⟨h1', by omega⟩ h4' (fun hl => by have : lo = hi := (by omega); subst this; exact h5' hl)]; first | (rw [if_pos (by omega)]; done) | (rw [if_neg (by omega)]; done)) | (simp only [Bucket.readyP]; (repeat' split) <;> first | rfl | (exfalso; omega) | (rw [Bucket.check_3 ‹_›]; done) | (simp <;> omega))
  · rw [h1]
    have g1 : ¬ (b.checkE = 0) := by simpa using h1
    refine OW.last 9 [1, 2, 6, 25] (x' := ⟨[(25, .v (.bool false)), (6, VI b.checkE), (2, .ref 0 4 0 0), (1, VI n)], [some ⟨4, [[VI b.level, VI b.now, VI b.burst, VI b.rate]]⟩]⟩) (by kernel_rfl) (by kernel_rfl) ?_
    refine EL.condF (by kernel_rfl) ?_
    refine EL.skip ?_
    refine thenL_norm ?_
    refine EL.seq ?_
    refine EL.sreg ?_
    refine OW.last 2 [1, 2, 6, 27] (x' := ⟨[(27, .v (.bool (b.checkE != 0))), (6, VI b.checkE), (2, .ref 0 4 0 0), (1, VI n)], [some ⟨4, [[VI b.level, VI b.now, VI b.burst, VI b.rate]]⟩]⟩) (by kernel_rfl) (by kernel_rfl) ?_
    have h12 : (b.checkE != 0) = true := (by show (!(b.checkE == 0)) = _; rw [h1]; rfl)
    rw [h12]
    refine EL.condT (by kernel_rfl) ?_
    refine EL.sreg ?_
    refine OW.last 3 [4, 5] (x' := ⟨[(5, VI b.checkE), (4, VI 0)], [some ⟨4, [[VI b.level, VI b.now, VI b.burst, VI b.rate]]⟩]⟩) (by kernel_rfl) (by kernel_rfl) ?_
    refine EL.ret ?_
    refine thenL_ret ?_
    refine ⟨.inr rfl, .tup [VI 0, VI b.checkE], by kernel_rfl, Ale.of_eq ?_⟩
    first | (rw [Bucket.ready_char hb hn (lo := lo) ⟨h1', by omega⟩ h4' (fun hl => by have : lo = hi := (by omega); subst this; exact h5' hl)]; first | (rw [if_pos (by omega)]; done) | (rw [if_neg (by omega)]; done)) | (simp only [Bucket.readyP]; (repeat' split) <;> first | rfl | (exfalso; omega) | (rw [Bucket.check_3 ‹_›]; done) | (simp <;> omega))
theorem serve_fn (b : Bucket) (asks : List Term) : Fn Try.prog 18 [.agg [VI b.level, VI b.now, VI b.burst, VI b.rate], .lst 2 (asks.map Term.cs)] (.tup [.lst 1 (((b.serveP asks).1).map cI), .agg [VI (((b.serveP asks).2.1).level), VI (((b.serveP asks).2.1).now), VI (((b.serveP asks).2.1).burst), VI (((b.serveP asks).2.1).rate)], VI ((b.serveP asks).2.2)]) := by
  refine fn_walkW F18_ok (of_decide_eq_true (by kernel_rfl)) ?_
  refine EL.sreg ?_
  refine OW.last 4 [1, 2, 5] (x' := ⟨[(5, .ref 1 4 0 0), (2, .ref 0 4 0 0), (1, .lst 2 (asks.map Term.cs))], [some ⟨4, [[VI b.level, VI b.now, VI b.burst, VI b.rate]]⟩, some ⟨4, [[VI 0, VI 0, VI 0, VI 0]]⟩]⟩) (by kernel_rfl) (by kernel_rfl) ?_
  refine EL.sreg ?_
  refine OW.run 1 (x' := ⟨[(10, .agg [VI b.level, VI b.now, VI b.burst, VI b.rate]), (5, .ref 1 4 0 0), (2, .ref 0 4 0 0), (1, .lst 2 (asks.map Term.cs))], [some ⟨4, [[VI b.level, VI b.now, VI b.burst, VI b.rate]]⟩, some ⟨4, [[VI 0, VI 0, VI 0, VI 0]]⟩]⟩) (by kernel_rfl) ?_
  refine OW.fn (ar := [.agg [VI b.level, VI b.now, VI b.burst, VI b.rate]]) (x' := ⟨[(11, VI b.checkE), (10, .agg [VI b.level, VI b.now, VI b.burst, VI b.rate]), (5, .ref 1 4 0 0), (2, .ref 0 4 0 0), (1, .lst 2 (asks.map Term.cs))], [some ⟨4, [[VI b.level, VI b.now, VI b.burst, VI b.rate]]⟩, some ⟨4, [[VI 0, VI 0, VI 0, VI 0]]⟩]⟩) (by kernel_rfl) (by kernel_rfl) F16_call (check_fn b) (by kernel_rfl) (by kernel_rfl) ?_
  refine OW.last 1 [1, 2, 5, 7] (x' := ⟨[(7, VI b.checkE), (5, .ref 1 4 0 0), (2, .ref 0 4 0 0), (1, .lst 2 (asks.map Term.cs))], [some ⟨4, [[VI b.level, VI b.now, VI b.burst, VI b.rate]]⟩, some ⟨4, [[VI 0, VI 0, VI 0, VI 0]]⟩]⟩) (by kernel_rfl) (by kernel_rfl) ?_
  refine EL.seq ?_
  refine EL.sreg ?_
  refine OW.run 3 (x' := ⟨[(14, .v (.bool (b.checkE == 0))), (13, .v (.bool (b.checkE == 0))), (12, VI b.checkE), (7, VI b.checkE), (5, .ref 1 4 0 0), (2, .ref 0 4 0 0), (1, .lst 2 (asks.map Term.cs))], [some ⟨4, [[VI b.level, VI b.now, VI b.burst, VI b.rate]]⟩, some ⟨4, [[VI 0, VI 0, VI 0, VI 0]]⟩]⟩) (by kernel_rfl) ?_
  rcases Bool.eq_false_or_eq_true ((b.checkE == 0)) with h1 | h1
  · rw [h1]
    have g1 : (b.checkE = 0) := by simpa using h1
    refine OW.run 1 (x' := ⟨[(15, .lst 2 (asks.map Term.cs)), (14, .v (.bool true)), (13, .v (.bool true)), (12, VI b.checkE), (7, VI b.checkE), (5, .ref 1 4 0 0), (2, .ref 0 4 0 0), (1, .lst 2 (asks.map Term.cs))], [some ⟨4, [[VI b.level, VI b.now, VI b.burst, VI b.rate]]⟩, some ⟨4, [[VI 0, VI 0, VI 0, VI 0]]⟩]⟩) (by kernel_rfl) ?_
    refine OW.ope (v := VI (List.length asks : Int)) (u := []) (acc := []) (x' := ⟨[(16, VI (List.length asks : Int)), (15, .lst 2 (asks.map Term.cs)), (14, .v (.bool true)), (13, .v (.bool true)), (12, VI b.checkE), (7, VI b.checkE), (5, .ref 1 4 0 0), (2, .ref 0 4 0 0), (1, .lst 2 (asks.map Term.cs))], [some ⟨4, [[VI b.level, VI b.now, VI b.burst, VI b.rate]]⟩, some ⟨4, [[VI 0, VI 0, VI 0, VI 0]]⟩]⟩) (by kernel_rfl) (opE_len Term.cs asks (.s 15) 2 (by kernel_rfl) (by kernel_rfl) (.inl rfl)) (by kernel_rfl) ?_
    refine OW.last 2 [1, 2, 5, 7, 18] (x' := ⟨[(18, .v (.bool (decide ((List.length asks : Int) > 64)))), (7, VI b.checkE), (5, .ref 1 4 0 0), (2, .ref 0 4 0 0), (1, .lst 2 (asks.map Term.cs))], [some ⟨4, [[VI b.level, VI b.now, VI b.burst, VI b.rate]]⟩, some ⟨4, [[VI 0, VI 0, VI 0, VI 0]]⟩]⟩) (by kernel_rfl) (by kernel_rfl) ?_
    rcases Bool.eq_false_or_eq_true (decide ((List.length asks : Int) > 64)) with h2 | h2
    · rw [h2]
      have g2 : ((List.length asks : Int) > 64) := of_decide_eq_true h2
      have n2 : ((List.length asks) > 64) := by omega
      refine EL.condT (by kernel_rfl) ?_
      refine EL.reg0 ?_
      refine OW.end 1 (x' := ⟨[(7, VI 2), (18, .v (.bool true)), (5, .ref 1 4 0 0), (2, .ref 0 4 0 0), (1, .lst 2 (asks.map Term.cs))], [some ⟨4, [[VI b.level, VI b.now, VI b.burst, VI b.rate]]⟩, some ⟨4, [[VI 0, VI 0, VI 0, VI 0]]⟩]⟩) (by kernel_rfl) (by kernel_rfl) ?_
      refine thenL_norm ?_
      refine EL.seq ?_
      refine EL.sreg ?_
      refine OW.last 2 [1, 2, 5, 7, 20] (x' := ⟨[(20, .v (.bool true)), (7, VI 2), (5, .ref 1 4 0 0), (2, .ref 0 4 0 0), (1, .lst 2 (asks.map Term.cs))], [some ⟨4, [[VI b.level, VI b.now, VI b.burst, VI b.rate]]⟩, some ⟨4, [[VI 0, VI 0, VI 0, VI 0]]⟩]⟩) (by kernel_rfl) (by kernel_rfl) ?_
      refine EL.condT (by kernel_rfl) ?_
      refine EL.sreg ?_
      refine OW.last 5 [4, 5, 6] (x' := ⟨[(6, VI 2), (4, .emp), (5, .ref 1 4 0 0)], [some ⟨4, [[VI b.level, VI b.now, VI b.burst, VI b.rate]]⟩, some ⟨4, [[VI 0, VI 0, VI 0, VI 0]]⟩]⟩) (by kernel_rfl) (by kernel_rfl) ?_
      refine EL.ret ?_
      refine thenL_ret ?_
      refine ⟨.inr rfl, .tup [.emp, .agg [VI 0, VI 0, VI 0, VI 0], VI 2], by kernel_rfl, Ale.trans (b := .tup [.lst 1 [], .agg [VI 0, VI 0, VI 0, VI 0], VI 2]) (Ale.tup (.cons (Ale.emp) (.cons (Ale.refl) (.cons (Ale.refl) (.nil))))) (Ale.of_eq ?_)⟩
      first | (simp [Bucket.serveP, *]; done) | (have h64 : 64 < asks.length := (by omega); simp [Bucket.serveP, h64, *]; done) | (have h64 : ¬ 64 < asks.length := (by omega); simp [Bucket.serveP, h64, *]; done)
    · rw [h2]
      have g2 : ¬ ((List.length asks : Int) > 64) := of_decide_eq_false h2
      have n2 : ¬ ((List.length asks) > 64) := by omega
      refine EL.condF (by kernel_rfl) ?_
      refine EL.skip ?_
      refine thenL_norm ?_
      refine EL.seq ?_
      refine EL.sreg ?_
      refine OW.last 2 [1, 2, 5, 7, 20] (x' := ⟨[(20, .v (.bool (b.checkE != 0))), (7, VI b.checkE), (5, .ref 1 4 0 0), (2, .ref 0 4 0 0), (1, .lst 2 (asks.map Term.cs))], [some ⟨4, [[VI b.level, VI b.now, VI b.burst, VI b.rate]]⟩, some ⟨4, [[VI 0, VI 0, VI 0, VI 0]]⟩]⟩) (by kernel_rfl) (by kernel_rfl) ?_
      have h3 : (b.checkE != 0) = false := (by show (!(b.checkE == 0)) = _; rw [h1]; rfl)
      rw [h3]
      refine EL.condF (by kernel_rfl) ?_
      refine EL.skip ?_
      refine thenL_norm ?_
      refine EL.sreg ?_
      refine OW.last 1 [1, 2, 5, 8] (x' := ⟨[(8, .ref 2 1 0 0), (5, .ref 1 4 0 0), (2, .ref 0 4 0 0), (1, .lst 2 (asks.map Term.cs))], [some ⟨4, [[VI b.level, VI b.now, VI b.burst, VI b.rate]]⟩, some ⟨4, [[VI 0, VI 0, VI 0, VI 0]]⟩, some ⟨1, [[.emp]]⟩]⟩) (by kernel_rfl) (by kernel_rfl) ?_
      refine EL.seq ?_
      refine EL.sreg ?_
      refine OW.run 1 (x' := ⟨[(23, .lst 2 (asks.map Term.cs)), (8, .ref 2 1 0 0), (5, .ref 1 4 0 0), (2, .ref 0 4 0 0), (1, .lst 2 (asks.map Term.cs))], [some ⟨4, [[VI b.level, VI b.now, VI b.burst, VI b.rate]]⟩, some ⟨4, [[VI 0, VI 0, VI 0, VI 0]]⟩, some ⟨1, [[.emp]]⟩]⟩) (by kernel_rfl) ?_
      refine OW.fi (ar := [.ref 0 4 0 0, .lst 2 (asks.map Term.cs)]) (r := .fn 24 [.ref 3 1 0 0, .ref 4 1 0 0]) (m' := [some ⟨4, [[VI b.level, VI b.now, VI b.burst, VI b.rate]]⟩, some ⟨4, [[VI 0, VI 0, VI 0, VI 0]]⟩, some ⟨1, [[.emp]]⟩, some ⟨1, [[.lst 2 (asks.map Term.cs)]]⟩, some ⟨1, [[.ref 0 4 0 0]]⟩]) (x' := ⟨[(24, .fn 24 [.ref 3 1 0 0, .ref 4 1 0 0]), (23, .lst 2 (asks.map Term.cs)), (8, .ref 2 1 0 0), (5, .ref 1 4 0 0), (2, .ref 0 4 0 0), (1, .lst 2 (asks.map Term.cs))], [some ⟨4, [[VI b.level, VI b.now, VI b.burst, VI b.rate]]⟩, some ⟨4, [[VI 0, VI 0, VI 0, VI 0]]⟩, some ⟨1, [[.emp]]⟩, some ⟨1, [[.lst 2 (asks.map Term.cs)]]⟩, some ⟨1, [[.ref 0 4 0 0]]⟩]⟩) (by kernel_rfl) (by kernel_rfl) F23_call ?_ (by kernel_rfl) ?_
      · refine fi_walkW F23_ok (of_decide_eq_true (by kernel_rfl)) ?_
        refine EL.sreg ?_
        refine OW.last 3 [2, 3] (x' := ⟨[(3, .ref 4 1 0 0), (2, .ref 3 1 0 0)], [some ⟨4, [[VI b.level, VI b.now, VI b.burst, VI b.rate]]⟩, some ⟨4, [[VI 0, VI 0, VI 0, VI 0]]⟩, some ⟨1, [[.emp]]⟩, some ⟨1, [[.ref 0 4 0 0]]⟩, some ⟨1, [[.lst 2 (asks.map Term.cs)]]⟩]⟩) (by kernel_rfl) (by kernel_rfl) ?_
        refine EL.sreg ?_
        refine OW.last 2 [4] (x' := ⟨[(4, .fn 24 [.ref 4 1 0 0, .ref 3 1 0 0])], [some ⟨4, [[VI b.level, VI b.now, VI b.burst, VI b.rate]]⟩, some ⟨4, [[VI 0, VI 0, VI 0, VI 0]]⟩, some ⟨1, [[.emp]]⟩, some ⟨1, [[.ref 0 4 0 0]]⟩, some ⟨1, [[.lst 2 (asks.map Term.cs)]]⟩]⟩) (by kernel_rfl) (by kernel_rfl) ?_
        refine EL.ret ?_
        refine ⟨.inr rfl, ⟨[(4, .fn 24 [.ref 3 1 0 0, .ref 4 1 0 0])], [some ⟨4, [[VI b.level, VI b.now, VI b.burst, VI b.rate]]⟩, some ⟨4, [[VI 0, VI 0, VI 0, VI 0]]⟩, some ⟨1, [[.emp]]⟩, some ⟨1, [[.lst 2 (asks.map Term.cs)]]⟩, some ⟨1, [[.ref 0 4 0 0]]⟩]⟩, norm_le (live := [4]) (src := [.old 0 false, .old 1 false, .old 2 false, .old 4 false, .old 3 false]) (es := []) (by kernel_rfl) trivial, by kernel_rfl, rfl⟩
      refine OW.last 0 [2, 5, 8, 24] (x' := ⟨[(24, .fn 24 [.ref 3 1 0 0, .ref 4 1 0 0]), (8, .ref 2 1 0 0), (5, .ref 1 4 0 0), (2, .ref 0 4 0 0)], [some ⟨4, [[VI b.level, VI b.now, VI b.burst, VI b.rate]]⟩, some ⟨4, [[VI 0, VI 0, VI 0, VI 0]]⟩, some ⟨1, [[.emp]]⟩, some ⟨1, [[.lst 2 (asks.map Term.cs)]]⟩, some ⟨1, [[.ref 0 4 0 0]]⟩]⟩) (by kernel_rfl) (by kernel_rfl) ?_
      refine EL.block ?_
      refine EL.cellOwn 2 0 0 1 (x' := ⟨[(24, .fn 24 [.ref 3 1 0 0, .ref 4 1 0 0]), (8, .ref 2 1 0 0), (5, .ref 1 4 0 0), (2, .ref 0 4 0 0)], [some ⟨4, [[VI b.level, VI b.now, VI b.burst, VI b.rate]]⟩, some ⟨4, [[VI 0, VI 0, VI 0, VI 0]]⟩, some ⟨1, [[.own 5 1 0 0]]⟩, some ⟨1, [[.lst 2 (asks.map Term.cs)]]⟩, some ⟨1, [[.ref 0 4 0 0]]⟩, some ⟨1, []⟩]⟩) (by kernel_rfl) ?_
      refine EL.eqv (x' := ⟨[(24, .fn 24 [.ref 3 1 0 0, .ref 4 1 0 0]), (8, .ref 2 1 0 0), (5, .ref 1 4 0 0), (2, .ref 0 4 0 0)], [some ⟨4, [[VI b.level, VI b.now, VI b.burst, VI b.rate]]⟩, some ⟨4, [[VI 0, VI 0, VI 0, VI 0]]⟩, some ⟨1, [[.own 5 1 0 (List.length ([] : List Int))]]⟩, some ⟨1, [[.lst 2 (asks.map Term.cs)]]⟩, some ⟨1, [[.ref 0 4 0 0]]⟩, some ⟨1, (([] : List Int).map cI)⟩]⟩) (by kernel_rfl) ?_
      refine EL.rng 5 (res := .tup []) (f := 24) (caps := [.ref 3 1 0 0, .ref 4 1 0 0]) (cs := [.dead, .dead, .ref 0 4 0 0, .dead, .dead, .ref 1 4 0 0, .dead, .dead, .ref 2 1 0 0, .dead, .dead, .dead, .dead, .dead, .dead, .dead, .dead, .dead, .dead, .dead, .dead, .dead, .dead, .dead, .fn 24 [.ref 3 1 0 0, .ref 4 1 0 0], .dead, .dead, .dead, .dead, .dead, .dead, .dead]) (m' := [some ⟨4, [[VI (((b.serveGo 0 asks []).2).level), VI (((b.serveGo 0 asks []).2).now), VI (((b.serveGo 0 asks []).2).burst), VI (((b.serveGo 0 asks []).2).rate)]]⟩, some ⟨4, [[VI 0, VI 0, VI 0, VI 0]]⟩, some ⟨1, [[.own 5 1 0 (List.length ((b.serveGo 0 asks []).1))]]⟩, some ⟨1, [[.lst 2 (asks.map Term.cs)]]⟩, some ⟨1, [[.ref 0 4 0 0]]⟩, some ⟨1, (((b.serveGo 0 asks []).1).map cI)⟩]) (by kernel_rfl) (by kernel_rfl) F24_call (by kernel_rfl) (⟨.inl (by kernel_rfl), ⟨.inl (by kernel_rfl), ⟨.inl (by kernel_rfl), ⟨.inl (by kernel_rfl), ⟨.inl (by kernel_rfl), ⟨.inr ⟨_, cI, ((b.serveGo 0 asks []).1), by kernel_rfl, by intro y; kernel_rfl⟩, trivial⟩⟩⟩⟩⟩⟩) ?_ ?_
      · intro r r1 r2 r3 r4 r5
        have HY : ∀ (c : Bucket) (out : List Int) (i : Int) (hl : out.length ≤ 64), Yd Try.prog 5 r [.dead, .dead, .ref 0 4 0 0, .dead, .dead, .ref 1 4 0 0, .dead, .dead, .ref 2 1 0 0, .dead, .dead, .dead, .dead, .dead, .dead, .dead, .dead, .dead, .dead, .dead, .dead, .dead, .dead, .dead, .fn 24 [.ref 3 1 0 0, .ref 4 1 0 0], .dead, .dead, .dead, .dead, .dead, .dead, .dead] [VI i] (look [some ⟨4, [[VI c.level, VI c.now, VI c.burst, VI c.rate]]⟩, some ⟨4, [[VI 0, VI 0, VI 0, VI 0]]⟩, some ⟨1, [[.own 5 1 0 (List.length out)]]⟩, some ⟨1, [[.lst 2 (asks.map Term.cs)]]⟩, some ⟨1, [[.ref 0 4 0 0]]⟩, some ⟨1, (out.map cI)⟩]) 6 (look [some ⟨4, [[VI c.level, VI c.now, VI c.burst, VI c.rate]]⟩, some ⟨4, [[VI 0, VI 0, VI 0, VI 0]]⟩, some ⟨1, [[.own 5 1 0 (List.length (out ++ [i]))]]⟩, some ⟨1, [[.lst 2 (asks.map Term.cs)]]⟩, some ⟨1, [[.ref 0 4 0 0]]⟩, some ⟨1, ((out ++ [i]).map cI)⟩]) 6 := by
          intro c out i hl
          refine yd_walk (n := F18.n) (m := [some ⟨4, [[VI c.level, VI c.now, VI c.burst, VI c.rate]]⟩, some ⟨4, [[VI 0, VI 0, VI 0, VI 0]]⟩, some ⟨1, [[.own 5 1 0 (List.length out)]]⟩, some ⟨1, [[.lst 2 (asks.map Term.cs)]]⟩, some ⟨1, [[.ref 0 4 0 0]]⟩, some ⟨1, (out.map cI)⟩]) (m' := [some ⟨4, [[VI c.level, VI c.now, VI c.burst, VI c.rate]]⟩, some ⟨4, [[VI 0, VI 0, VI 0, VI 0]]⟩, some ⟨1, [[.own 5 1 0 (List.length (out ++ [i]))]]⟩, some ⟨1, [[.lst 2 (asks.map Term.cs)]]⟩, some ⟨1, [[.ref 0 4 0 0]]⟩, some ⟨1, ((out ++ [i]).map cI)⟩]) r1 r2 r3 r4 r5 (by kernel_rfl) ?_
          refine EL.reg0 ?_
          refine OW.end 1 (x' := ⟨[(9, VI i), (25, VI i), (0, .dead), (1, .dead), (2, .ref 0 4 0 0), (3, .dead), (4, .dead), (5, .ref 1 4 0 0), (6, .dead), (7, .dead), (8, .ref 2 1 0 0), (10, .dead), (11, .dead), (12, .dead), (13, .dead), (14, .dead), (15, .dead), (16, .dead), (17, .dead), (18, .dead), (19, .dead), (20, .dead), (21, .dead), (22, .dead), (23, .dead), (24, .fn 24 [.ref 3 1 0 0, .ref 4 1 0 0]), (26, .dead), (27, .dead), (28, .dead), (29, .dead), (30, .dead), (31, .dead)], [some ⟨4, [[VI c.level, VI c.now, VI c.burst, VI c.rate]]⟩, some ⟨4, [[VI 0, VI 0, VI 0, VI 0]]⟩, some ⟨1, [[.own 5 1 0 (List.length out)]]⟩, some ⟨1, [[.lst 2 (asks.map Term.cs)]]⟩, some ⟨1, [[.ref 0 4 0 0]]⟩, some ⟨1, (out.map cI)⟩]⟩) (by kernel_rfl) (by kernel_rfl) ?_
          refine ⟨rfl, by kernel_rfl, (⟨.inl (by kernel_rfl), ⟨.inl (by kernel_rfl), ⟨.inl (by kernel_rfl), ⟨.inl (by kernel_rfl), ⟨.inl (by kernel_rfl), ⟨.inr ⟨_, cI, out, by kernel_rfl, by intro y; kernel_rfl⟩, trivial⟩⟩⟩⟩⟩⟩), ?_⟩
          refine EL.block ?_
          refine EL.reg0 ?_
          refine OW.run 3 (x' := ⟨[(28, .own 6 1 0 1), (27, VI i), (26, .own 5 1 0 (List.length out)), (9, VI i), (25, VI i), (0, .dead), (1, .dead), (2, .ref 0 4 0 0), (3, .dead), (4, .dead), (5, .ref 1 4 0 0), (6, .dead), (7, .dead), (8, .ref 2 1 0 0), (10, .dead), (11, .dead), (12, .dead), (13, .dead), (14, .dead), (15, .dead), (16, .dead), (17, .dead), (18, .dead), (19, .dead), (20, .dead), (21, .dead), (22, .dead), (23, .dead), (24, .fn 24 [.ref 3 1 0 0, .ref 4 1 0 0]), (29, .dead), (30, .dead), (31, .dead)], [some ⟨4, [[VI c.level, VI c.now, VI c.burst, VI c.rate]]⟩, some ⟨4, [[VI 0, VI 0, VI 0, VI 0]]⟩, some ⟨1, [[.own 5 1 0 (List.length out)]]⟩, some ⟨1, [[.lst 2 (asks.map Term.cs)]]⟩, some ⟨1, [[.ref 0 4 0 0]]⟩, some ⟨1, (out.map cI)⟩, some ⟨1, [[VI i]]⟩]⟩) (by kernel_rfl) ?_
          refine OW.ope (v := .own 7 1 0 (List.length (out ++ ([i])))) (u := [(5, none), (7, some ⟨1, ((out ++ ([i])).map cI)⟩)]) (acc := [6, 5]) (x' := ⟨[(29, .own 7 1 0 (List.length (out ++ ([i])))), (28, .own 6 1 0 1), (27, VI i), (26, .own 5 1 0 (List.length out)), (9, VI i), (25, VI i), (0, .dead), (1, .dead), (2, .ref 0 4 0 0), (3, .dead), (4, .dead), (5, .ref 1 4 0 0), (6, .dead), (7, .dead), (8, .ref 2 1 0 0), (10, .dead), (11, .dead), (12, .dead), (13, .dead), (14, .dead), (15, .dead), (16, .dead), (17, .dead), (18, .dead), (19, .dead), (20, .dead), (21, .dead), (22, .dead), (23, .dead), (24, .fn 24 [.ref 3 1 0 0, .ref 4 1 0 0]), (30, .dead), (31, .dead)], [some ⟨4, [[VI c.level, VI c.now, VI c.burst, VI c.rate]]⟩, some ⟨4, [[VI 0, VI 0, VI 0, VI 0]]⟩, some ⟨1, [[.own 5 1 0 (List.length out)]]⟩, some ⟨1, [[.lst 2 (asks.map Term.cs)]]⟩, some ⟨1, [[.ref 0 4 0 0]]⟩, none, some ⟨1, [[VI i]]⟩, some ⟨1, ((out ++ ([i])).map cI)⟩]⟩) (by kernel_rfl) (opE_appO cI out ([i]) (.s 26) (.s 28) 1 8 5 (.own 6 1 0 1) _ (by kernel_rfl) (by kernel_rfl) rfl (by kernel_rfl) rfl (.own (els := [[VI i]]) (by kernel_rfl) (by kernel_rfl) (of_decide_eq_true (by kernel_rfl))) (by simp; omega)) (by kernel_rfl) ?_
          refine OW.end 1 (x' := ⟨[(29, .own 7 1 0 (List.length (out ++ ([i])))), (28, .own 6 1 0 1), (27, VI i), (26, .own 5 1 0 (List.length out)), (9, VI i), (25, VI i), (0, .dead), (1, .dead), (2, .ref 0 4 0 0), (3, .dead), (4, .dead), (5, .ref 1 4 0 0), (6, .dead), (7, .dead), (8, .ref 2 1 0 0), (10, .dead), (11, .dead), (12, .dead), (13, .dead), (14, .dead), (15, .dead), (16, .dead), (17, .dead), (18, .dead), (19, .dead), (20, .dead), (21, .dead), (22, .dead), (23, .dead), (24, .fn 24 [.ref 3 1 0 0, .ref 4 1 0 0]), (30, .dead), (31, .dead)], [some ⟨4, [[VI c.level, VI c.now, VI c.burst, VI c.rate]]⟩, some ⟨4, [[VI 0, VI 0, VI 0, VI 0]]⟩, some ⟨1, [[.own 7 1 0 (List.length (out ++ ([i])))]]⟩, some ⟨1, [[.lst 2 (asks.map Term.cs)]]⟩, some ⟨1, [[.ref 0 4 0 0]]⟩, none, some ⟨1, [[VI i]]⟩, some ⟨1, ((out ++ ([i])).map cI)⟩]⟩) (by kernel_rfl) (by kernel_rfl) ?_
          refine inBlk_norm ?_
          refine ⟨rfl, ⟨[], [some ⟨4, [[VI c.level, VI c.now, VI c.burst, VI c.rate]]⟩, some ⟨4, [[VI 0, VI 0, VI 0, VI 0]]⟩, some ⟨1, [[.own 5 1 0 (List.length (out ++ [i]))]]⟩, some ⟨1, [[.lst 2 (asks.map Term.cs)]]⟩, some ⟨1, [[.ref 0 4 0 0]]⟩, some ⟨1, ((out ++ [i]).map cI)⟩]⟩, norm_le (live := []) (src := [.old 0 false, .old 1 false, .old 2 false, .old 3 false, .old 4 false, .old 7 true]) (es := []) (by kernel_rfl) ⟨⟨_, cI, (out ++ ([i])), 1, by kernel_rfl, by intro y; kernel_rfl⟩, trivial⟩, (⟨.inl (by kernel_rfl), ⟨.inl (by kernel_rfl), ⟨.inl (by kernel_rfl), ⟨.inl (by kernel_rfl), ⟨.inl (by kernel_rfl), ⟨.inr ⟨_, cI, (out ++ [i]), by kernel_rfl, by intro y; kernel_rfl⟩, trivial⟩⟩⟩⟩⟩⟩), rfl⟩
        refine fib_walk (m := [some ⟨4, [[VI b.level, VI b.now, VI b.burst, VI b.rate]]⟩, some ⟨4, [[VI 0, VI 0, VI 0, VI 0]]⟩, some ⟨1, [[.own 5 1 0 (List.length ([] : List Int))]]⟩, some ⟨1, [[.lst 2 (asks.map Term.cs)]]⟩, some ⟨1, [[.ref 0 4 0 0]]⟩, some ⟨1, (([] : List Int).map cI)⟩]) (m' := [some ⟨4, [[VI (((b.serveGo 0 asks []).2).level), VI (((b.serveGo 0 asks []).2).now), VI (((b.serveGo 0 asks []).2).burst), VI (((b.serveGo 0 asks []).2).rate)]]⟩, some ⟨4, [[VI 0, VI 0, VI 0, VI 0]]⟩, some ⟨1, [[.own 5 1 0 (List.length ((b.serveGo 0 asks []).1))]]⟩, some ⟨1, [[.lst 2 (asks.map Term.cs)]]⟩, some ⟨1, [[.ref 0 4 0 0]]⟩, some ⟨1, (((b.serveGo 0 asks []).1).map cI)⟩]) (kb := 5) F24_ok (of_decide_eq_true (by kernel_rfl)) ?_
        refine EL.sreg ?_
        refine OW.run 1 (x' := ⟨[(8, .lst 2 (asks.map Term.cs)), (0, .yld r [.dead, .dead, .ref 0 4 0 0, .dead, .dead, .ref 1 4 0 0, .dead, .dead, .ref 2 1 0 0, .dead, .dead, .dead, .dead, .dead, .dead, .dead, .dead, .dead, .dead, .dead, .dead, .dead, .dead, .dead, .fn 24 [.ref 3 1 0 0, .ref 4 1 0 0], .dead, .dead, .dead, .dead, .dead, .dead, .dead]), (1, .ref 3 1 0 0), (2, .ref 4 1 0 0)], [some ⟨4, [[VI b.level, VI b.now, VI b.burst, VI b.rate]]⟩, some ⟨4, [[VI 0, VI 0, VI 0, VI 0]]⟩, some ⟨1, [[.own 5 1 0 (List.length ([] : List Int))]]⟩, some ⟨1, [[.lst 2 (asks.map Term.cs)]]⟩, some ⟨1, [[.ref 0 4 0 0]]⟩, some ⟨1, (([] : List Int).map cI)⟩]⟩) (by kernel_rfl) ?_
        refine OW.ope (v := VI (List.length asks : Int)) (u := []) (acc := []) (x' := ⟨[(9, VI (List.length asks : Int)), (8, .lst 2 (asks.map Term.cs)), (0, .yld r [.dead, .dead, .ref 0 4 0 0, .dead, .dead, .ref 1 4 0 0, .dead, .dead, .ref 2 1 0 0, .dead, .dead, .dead, .dead, .dead, .dead, .dead, .dead, .dead, .dead, .dead, .dead, .dead, .dead, .dead, .fn 24 [.ref 3 1 0 0, .ref 4 1 0 0], .dead, .dead, .dead, .dead, .dead, .dead, .dead]), (1, .ref 3 1 0 0), (2, .ref 4 1 0 0)], [some ⟨4, [[VI b.level, VI b.now, VI b.burst, VI b.rate]]⟩, some ⟨4, [[VI 0, VI 0, VI 0, VI 0]]⟩, some ⟨1, [[.own 5 1 0 (List.length ([] : List Int))]]⟩, some ⟨1, [[.lst 2 (asks.map Term.cs)]]⟩, some ⟨1, [[.ref 0 4 0 0]]⟩, some ⟨1, (([] : List Int).map cI)⟩]⟩) (by kernel_rfl) (opE_len Term.cs asks (.s 8) 2 (by kernel_rfl) (by kernel_rfl) (.inl rfl)) (by kernel_rfl) ?_
        refine OW.last 1 [0, 2, 8, 9, 10] (x' := ⟨[(10, VI 0), (9, VI (List.length asks : Int)), (8, .lst 2 (asks.map Term.cs)), (0, .yld r [.dead, .dead, .ref 0 4 0 0, .dead, .dead, .ref 1 4 0 0, .dead, .dead, .ref 2 1 0 0, .dead, .dead, .dead, .dead, .dead, .dead, .dead, .dead, .dead, .dead, .dead, .dead, .dead, .dead, .dead, .fn 24 [.ref 3 1 0 0, .ref 4 1 0 0], .dead, .dead, .dead, .dead, .dead, .dead, .dead]), (2, .ref 4 1 0 0)], [some ⟨4, [[VI b.level, VI b.now, VI b.burst, VI b.rate]]⟩, some ⟨4, [[VI 0, VI 0, VI 0, VI 0]]⟩, some ⟨1, [[.own 5 1 0 (List.length ([] : List Int))]]⟩, some ⟨1, [[.lst 2 (asks.map Term.cs)]]⟩, some ⟨1, [[.ref 0 4 0 0]]⟩, some ⟨1, (([] : List Int).map cI)⟩]⟩) (by kernel_rfl) (by kernel_rfl) ?_
        refine EL.block ?_
        refine EL.loopN (fun m x => ∃ (k : Nat) (c : Bucket) (out : List Int), m = asks.length - k ∧ (k ≤ asks.length ∧ asks.length ≤ 64 ∧ out.length ≤ k ∧ b.serveGo 0 asks [] = c.serveGo k (asks.drop k) out) ∧ x = ⟨[(0, .yld r [.dead, .dead, .ref 0 4 0 0, .dead, .dead, .ref 1 4 0 0, .dead, .dead, .ref 2 1 0 0, .dead, .dead, .dead, .dead, .dead, .dead, .dead, .dead, .dead, .dead, .dead, .dead, .dead, .dead, .dead, .fn 24 [.ref 3 1 0 0, .ref 4 1 0 0], .dead, .dead, .dead, .dead, .dead, .dead, .dead]), (2, .ref 4 1 0 0), (8, .lst 2 (asks.map Term.cs)), (9, VI (List.length asks : Int)), (10, VI (k : Int))], [some ⟨4, [[VI c.level, VI c.now, VI c.burst, VI c.rate]]⟩, some ⟨4, [[VI 0, VI 0, VI 0, VI 0]]⟩, some ⟨1, [[.own 5 1 0 (List.length out)]]⟩, some ⟨1, [[.lst 2 (asks.map Term.cs)]]⟩, some ⟨1, [[.ref 0 4 0 0]]⟩, some ⟨1, (out.map cI)⟩]⟩) (y := (fun (k : Nat) (c : Bucket) (out : List Int) => (⟨[(0, .yld r [.dead, .dead, .ref 0 4 0 0, .dead, .dead, .ref 1 4 0 0, .dead, .dead, .ref 2 1 0 0, .dead, .dead, .dead, .dead, .dead, .dead, .dead, .dead, .dead, .dead, .dead, .dead, .dead, .dead, .dead, .fn 24 [.ref 3 1 0 0, .ref 4 1 0 0], .dead, .dead, .dead, .dead, .dead, .dead, .dead]), (2, .ref 4 1 0 0), (8, .lst 2 (asks.map Term.cs)), (9, VI (List.length asks : Int)), (10, VI (k : Int))], [some ⟨4, [[VI c.level, VI c.now, VI c.burst, VI c.rate]]⟩, some ⟨4, [[VI 0, VI 0, VI 0, VI 0]]⟩, some ⟨1, [[.own 5 1 0 (List.length out)]]⟩, some ⟨1, [[.lst 2 (asks.map Term.cs)]]⟩, some ⟨1, [[.ref 0 4 0 0]]⟩, some ⟨1, (out.map cI)⟩]⟩ : L3)) 0 b []) [0, 2, 8, 9, 10] [.old 0 false, .old 1 false, .old 2 false, .old 3 false, .old 4 false, .old 5 true] [] (by kernel_rfl) ⟨⟨_, cI, ([] : List Int), 1, by kernel_rfl, by intro y; kernel_rfl⟩, trivial⟩ ⟨0, b, [], rfl, by simp; omega, rfl⟩ ?_
        rintro _ _ ⟨k, c, out, rfl, hI4, rfl⟩
        obtain ⟨hk, hl, ho, hs⟩ := hI4
        refine EL.sreg ?_
        refine OW.last 1 [0, 2, 8, 9, 10, 11] (x' := ⟨[(11, .v (.bool (decide ((k : Int) < (List.length asks : Int))))), (0, .yld r [.dead, .dead, .ref 0 4 0 0, .dead, .dead, .ref 1 4 0 0, .dead, .dead, .ref 2 1 0 0, .dead, .dead, .dead, .dead, .dead, .dead, .dead, .dead, .dead, .dead, .dead, .dead, .dead, .dead, .dead, .fn 24 [.ref 3 1 0 0, .ref 4 1 0 0], .dead, .dead, .dead, .dead, .dead, .dead, .dead]), (2, .ref 4 1 0 0), (8, .lst 2 (asks.map Term.cs)), (9, VI (List.length asks : Int)), (10, VI (k : Int))], [some ⟨4, [[VI c.level, VI c.now, VI c.burst, VI c.rate]]⟩, some ⟨4, [[VI 0, VI 0, VI 0, VI 0]]⟩, some ⟨1, [[.own 5 1 0 (List.length out)]]⟩, some ⟨1, [[.lst 2 (asks.map Term.cs)]]⟩, some ⟨1, [[.ref 0 4 0 0]]⟩, some ⟨1, (out.map cI)⟩]⟩) (by kernel_rfl) (by kernel_rfl) ?_
        refine EL.seq ?_
        rcases Bool.eq_false_or_eq_true (decide ((k : Int) < (List.length asks : Int))) with h5 | h5
        · rw [h5]
          have g5 : ((k : Int) < (List.length asks : Int)) := of_decide_eq_true h5
          have n5 : ((k) < (List.length asks)) := by omega
          refine EL.condT (by kernel_rfl) ?_
          refine EL.skip ?_
          refine thenL_norm ?_
          refine EL.seq ?_
          refine EL.block ?_
          refine EL.sreg ?_
          refine OW.run 1 (x' := ⟨[(12, VI (k : Int)), (11, .v (.bool true)), (0, .yld r [.dead, .dead, .ref 0 4 0 0, .dead, .dead, .ref 1 4 0 0, .dead, .dead, .ref 2 1 0 0, .dead, .dead, .dead, .dead, .dead, .dead, .dead, .dead, .dead, .dead, .dead, .dead, .dead, .dead, .dead, .fn 24 [.ref 3 1 0 0, .ref 4 1 0 0], .dead, .dead, .dead, .dead, .dead, .dead, .dead]), (2, .ref 4 1 0 0), (8, .lst 2 (asks.map Term.cs)), (9, VI (List.length asks : Int)), (10, VI (k : Int))], [some ⟨4, [[VI c.level, VI c.now, VI c.burst, VI c.rate]]⟩, some ⟨4, [[VI 0, VI 0, VI 0, VI 0]]⟩, some ⟨1, [[.own 5 1 0 (List.length out)]]⟩, some ⟨1, [[.lst 2 (asks.map Term.cs)]]⟩, some ⟨1, [[.ref 0 4 0 0]]⟩, some ⟨1, (out.map cI)⟩]⟩) (by kernel_rfl) ?_
          obtain ⟨a7, ha7⟩ : ∃ y, asks[((k : Int) : Int).toNat]? = some y := idx_ex ⟨by omega, by omega⟩
          have iha7 : asks[k]? = some a7 := by simpa using ha7
          have dha7 := drop_get iha7
          refine OW.ope (v := .pim [VI a7.begin, VI a7.end_] 0) (u := []) (acc := []) (x' := ⟨[(13, .pim [VI a7.begin, VI a7.end_] 0), (12, VI (k : Int)), (11, .v (.bool true)), (0, .yld r [.dead, .dead, .ref 0 4 0 0, .dead, .dead, .ref 1 4 0 0, .dead, .dead, .ref 2 1 0 0, .dead, .dead, .dead, .dead, .dead, .dead, .dead, .dead, .dead, .dead, .dead, .dead, .dead, .dead, .dead, .fn 24 [.ref 3 1 0 0, .ref 4 1 0 0], .dead, .dead, .dead, .dead, .dead, .dead, .dead]), (2, .ref 4 1 0 0), (8, .lst 2 (asks.map Term.cs)), (9, VI (List.length asks : Int)), (10, VI (k : Int))], [some ⟨4, [[VI c.level, VI c.now, VI c.burst, VI c.rate]]⟩, some ⟨4, [[VI 0, VI 0, VI 0, VI 0]]⟩, some ⟨1, [[.own 5 1 0 (List.length out)]]⟩, some ⟨1, [[.lst 2 (asks.map Term.cs)]]⟩, some ⟨1, [[.ref 0 4 0 0]]⟩, some ⟨1, (out.map cI)⟩]⟩) (by kernel_rfl) (opE_iad Term.cs asks (.s 8) (.s 10) 2 .i64 (k : Int) a7 (by kernel_rfl) (by kernel_rfl) (.inl rfl) rfl (by omega) ha7) (by kernel_rfl) ?_
          refine OW.last 4 [0, 2, 4, 5, 8, 9, 10] (x' := ⟨[(4, VI (k : Int)), (5, .ref 6 2 0 0), (0, .yld r [.dead, .dead, .ref 0 4 0 0, .dead, .dead, .ref 1 4 0 0, .dead, .dead, .ref 2 1 0 0, .dead, .dead, .dead, .dead, .dead, .dead, .dead, .dead, .dead, .dead, .dead, .dead, .dead, .dead, .dead, .fn 24 [.ref 3 1 0 0, .ref 4 1 0 0], .dead, .dead, .dead, .dead, .dead, .dead, .dead]), (2, .ref 4 1 0 0), (8, .lst 2 (asks.map Term.cs)), (9, VI (List.length asks : Int)), (10, VI (k : Int))], [some ⟨4, [[VI c.level, VI c.now, VI c.burst, VI c.rate]]⟩, some ⟨4, [[VI 0, VI 0, VI 0, VI 0]]⟩, some ⟨1, [[.own 5 1 0 (List.length out)]]⟩, some ⟨1, [[.lst 2 (asks.map Term.cs)]]⟩, some ⟨1, [[.ref 0 4 0 0]]⟩, some ⟨1, (out.map cI)⟩, some ⟨2, [[VI a7.begin, VI a7.end_]]⟩]⟩) (by kernel_rfl) (by kernel_rfl) ?_
          refine EL.sdraw ?_
          refine DW.run 7 (x' := ⟨[(22, VI a7.end_), (21, .ref 6 2 0 1), (20, VI a7.begin), (19, .ref 6 2 0 0), (18, .agg [VI c.level, VI c.now, VI c.burst, VI c.rate]), (17, .ref 0 4 0 0), (16, .ref 0 4 0 0), (4, VI (k : Int)), (5, .ref 6 2 0 0), (0, .yld r [.dead, .dead, .ref 0 4 0 0, .dead, .dead, .ref 1 4 0 0, .dead, .dead, .ref 2 1 0 0, .dead, .dead, .dead, .dead, .dead, .dead, .dead, .dead, .dead, .dead, .dead, .dead, .dead, .dead, .dead, .fn 24 [.ref 3 1 0 0, .ref 4 1 0 0], .dead, .dead, .dead, .dead, .dead, .dead, .dead]), (2, .ref 4 1 0 0), (8, .lst 2 (asks.map Term.cs)), (9, VI (List.length asks : Int)), (10, VI (k : Int))], [some ⟨4, [[VI c.level, VI c.now, VI c.burst, VI c.rate]]⟩, some ⟨4, [[VI 0, VI 0, VI 0, VI 0]]⟩, some ⟨1, [[.own 5 1 0 (List.length out)]]⟩, some ⟨1, [[.lst 2 (asks.map Term.cs)]]⟩, some ⟨1, [[.ref 0 4 0 0]]⟩, some ⟨1, (out.map cI)⟩, some ⟨2, [[VI a7.begin, VI a7.end_]]⟩]⟩) (by kernel_rfl) ?_
          refine DW.fn (ar := [.agg [VI c.level, VI c.now, VI c.burst, VI c.rate], VI a7.begin, VI a7.end_]) (x' := ⟨[(23, .tup [.agg [VI (((c.takeP a7.begin a7.end_).1).level), VI (((c.takeP a7.begin a7.end_).1).now), VI (((c.takeP a7.begin a7.end_).1).burst), VI (((c.takeP a7.begin a7.end_).1).rate)], VI ((c.takeP a7.begin a7.end_).2)]), (22, VI a7.end_), (21, .ref 6 2 0 1), (20, VI a7.begin), (19, .ref 6 2 0 0), (18, .agg [VI c.level, VI c.now, VI c.burst, VI c.rate]), (17, .ref 0 4 0 0), (16, .ref 0 4 0 0), (4, VI (k : Int)), (5, .ref 6 2 0 0), (0, .yld r [.dead, .dead, .ref 0 4 0 0, .dead, .dead, .ref 1 4 0 0, .dead, .dead, .ref 2 1 0 0, .dead, .dead, .dead, .dead, .dead, .dead, .dead, .dead, .dead, .dead, .dead, .dead, .dead, .dead, .dead, .fn 24 [.ref 3 1 0 0, .ref 4 1 0 0], .dead, .dead, .dead, .dead, .dead, .dead, .dead]), (2, .ref 4 1 0 0), (8, .lst 2 (asks.map Term.cs)), (9, VI (List.length asks : Int)), (10, VI (k : Int))], [some ⟨4, [[VI c.level, VI c.now, VI c.burst, VI c.rate]]⟩, some ⟨4, [[VI 0, VI 0, VI 0, VI 0]]⟩, some ⟨1, [[.own 5 1 0 (List.length out)]]⟩, some ⟨1, [[.lst 2 (asks.map Term.cs)]]⟩, some ⟨1, [[.ref 0 4 0 0]]⟩, some ⟨1, (out.map cI)⟩, some ⟨2, [[VI a7.begin, VI a7.end_]]⟩]⟩) (by kernel_rfl) (by kernel_rfl) F10_call (take_fn c a7.begin a7.end_) (by kernel_rfl) (by kernel_rfl) ?_
          refine DW.last 6 [0, 2, 4, 6, 7, 8, 9, 10] (x' := ⟨[(7, VI ((c.takeP a7.begin a7.end_).2)), (6, .ref 7 4 0 0), (4, VI (k : Int)), (0, .yld r [.dead, .dead, .ref 0 4 0 0, .dead, .dead, .ref 1 4 0 0, .dead, .dead, .ref 2 1 0 0, .dead, .dead, .dead, .dead, .dead, .dead, .dead, .dead, .dead, .dead, .dead, .dead, .dead, .dead, .dead, .fn 24 [.ref 3 1 0 0, .ref 4 1 0 0], .dead, .dead, .dead, .dead, .dead, .dead, .dead]), (2, .ref 4 1 0 0), (8, .lst 2 (asks.map Term.cs)), (9, VI (List.length asks : Int)), (10, VI (k : Int))], [some ⟨4, [[VI c.level, VI c.now, VI c.burst, VI c.rate]]⟩, some ⟨4, [[VI 0, VI 0, VI 0, VI 0]]⟩, some ⟨1, [[.own 5 1 0 (List.length out)]]⟩, some ⟨1, [[.lst 2 (asks.map Term.cs)]]⟩, some ⟨1, [[.ref 0 4 0 0]]⟩, some ⟨1, (out.map cI)⟩, some ⟨2, [[VI a7.begin, VI a7.end_]]⟩, some ⟨4, [[VI (((c.takeP a7.begin a7.end_).1).level), VI (((c.takeP a7.begin a7.end_).1).now), VI (((c.takeP a7.begin a7.end_).1).burst), VI (((c.takeP a7.begin a7.end_).1).rate)]]⟩]⟩) (by kernel_rfl) (by kernel_rfl) ?_
          refine EL.seq ?_
          refine EL.sreg ?_
          refine OW.last 2 [0, 2, 4, 6, 8, 9, 10, 27] (x' := ⟨[(27, .v (.bool (((c.takeP a7.begin a7.end_).2) != 0))), (6, .ref 7 4 0 0), (4, VI (k : Int)), (0, .yld r [.dead, .dead, .ref 0 4 0 0, .dead, .dead, .ref 1 4 0 0, .dead, .dead, .ref 2 1 0 0, .dead, .dead, .dead, .dead, .dead, .dead, .dead, .dead, .dead, .dead, .dead, .dead, .dead, .dead, .dead, .fn 24 [.ref 3 1 0 0, .ref 4 1 0 0], .dead, .dead, .dead, .dead, .dead, .dead, .dead]), (2, .ref 4 1 0 0), (8, .lst 2 (asks.map Term.cs)), (9, VI (List.length asks : Int)), (10, VI (k : Int))], [some ⟨4, [[VI c.level, VI c.now, VI c.burst, VI c.rate]]⟩, some ⟨4, [[VI 0, VI 0, VI 0, VI 0]]⟩, some ⟨1, [[.own 5 1 0 (List.length out)]]⟩, some ⟨1, [[.lst 2 (asks.map Term.cs)]]⟩, some ⟨1, [[.ref 0 4 0 0]]⟩, some ⟨1, (out.map cI)⟩, some ⟨2, [[VI a7.begin, VI a7.end_]]⟩, some ⟨4, [[VI (((c.takeP a7.begin a7.end_).1).level), VI (((c.takeP a7.begin a7.end_).1).now), VI (((c.takeP a7.begin a7.end_).1).burst), VI (((c.takeP a7.begin a7.end_).1).rate)]]⟩]⟩) (by kernel_rfl) (by kernel_rfl) ?_
          rcases Bool.eq_false_or_eq_true ((((c.takeP a7.begin a7.end_).2) != 0)) with h8 | h8
          · rw [h8]
            have g8 : ¬ (((c.takeP a7.begin a7.end_).2) = 0) := by simpa using h8
            refine EL.condT (by kernel_rfl) ?_
            refine EL.exit ?_
            refine thenL_exit ?_
            refine inBlk_hit ?_
            refine thenL_norm ?_
            refine EL.reg0 ?_
            refine OW.run 2 (x' := ⟨[(10, VI (IntKind.i64.wrap ((k : Int) + 1))), (35, VI (IntKind.i64.wrap ((k : Int) + 1))), (27, .v (.bool true)), (6, .ref 7 4 0 0), (4, VI (k : Int)), (0, .yld r [.dead, .dead, .ref 0 4 0 0, .dead, .dead, .ref 1 4 0 0, .dead, .dead, .ref 2 1 0 0, .dead, .dead, .dead, .dead, .dead, .dead, .dead, .dead, .dead, .dead, .dead, .dead, .dead, .dead, .dead, .fn 24 [.ref 3 1 0 0, .ref 4 1 0 0], .dead, .dead, .dead, .dead, .dead, .dead, .dead]), (2, .ref 4 1 0 0), (8, .lst 2 (asks.map Term.cs)), (9, VI (List.length asks : Int))], [some ⟨4, [[VI c.level, VI c.now, VI c.burst, VI c.rate]]⟩, some ⟨4, [[VI 0, VI 0, VI 0, VI 0]]⟩, some ⟨1, [[.own 5 1 0 (List.length out)]]⟩, some ⟨1, [[.lst 2 (asks.map Term.cs)]]⟩, some ⟨1, [[.ref 0 4 0 0]]⟩, some ⟨1, (out.map cI)⟩, some ⟨2, [[VI a7.begin, VI a7.end_]]⟩, some ⟨4, [[VI (((c.takeP a7.begin a7.end_).1).level), VI (((c.takeP a7.begin a7.end_).1).now), VI (((c.takeP a7.begin a7.end_).1).burst), VI (((c.takeP a7.begin a7.end_).1).rate)]]⟩]⟩) (by kernel_rfl) ?_
            have e9 : IntKind.i64.wrap ((k : Int) + 1) = (k : Int) + 1 := wr64 (by omega)
            rw [e9]
            refine OW.end 0 (x' := ⟨[(10, VI ((k : Int) + 1)), (35, VI ((k : Int) + 1)), (27, .v (.bool true)), (6, .ref 7 4 0 0), (4, VI (k : Int)), (0, .yld r [.dead, .dead, .ref 0 4 0 0, .dead, .dead, .ref 1 4 0 0, .dead, .dead, .ref 2 1 0 0, .dead, .dead, .dead, .dead, .dead, .dead, .dead, .dead, .dead, .dead, .dead, .dead, .dead, .dead, .dead, .fn 24 [.ref 3 1 0 0, .ref 4 1 0 0], .dead, .dead, .dead, .dead, .dead, .dead, .dead]), (2, .ref 4 1 0 0), (8, .lst 2 (asks.map Term.cs)), (9, VI (List.length asks : Int))], [some ⟨4, [[VI c.level, VI c.now, VI c.burst, VI c.rate]]⟩, some ⟨4, [[VI 0, VI 0, VI 0, VI 0]]⟩, some ⟨1, [[.own 5 1 0 (List.length out)]]⟩, some ⟨1, [[.lst 2 (asks.map Term.cs)]]⟩, some ⟨1, [[.ref 0 4 0 0]]⟩, some ⟨1, (out.map cI)⟩, some ⟨2, [[VI a7.begin, VI a7.end_]]⟩, some ⟨4, [[VI (((c.takeP a7.begin a7.end_).1).level), VI (((c.takeP a7.begin a7.end_).1).now), VI (((c.takeP a7.begin a7.end_).1).burst), VI (((c.takeP a7.begin a7.end_).1).rate)]]⟩]⟩) (by kernel_rfl) (by kernel_rfl) ?_
            refine thenL_norm ?_
            refine round_end (live := [0, 2, 8, 9, 10]) (src := [.old 0 false, .old 1 false, .old 2 false, .old 3 false, .old 4 false, .old 5 true]) (es := []) (y := (fun (k : Nat) (c : Bucket) (out : List Int) => (⟨[(0, .yld r [.dead, .dead, .ref 0 4 0 0, .dead, .dead, .ref 1 4 0 0, .dead, .dead, .ref 2 1 0 0, .dead, .dead, .dead, .dead, .dead, .dead, .dead, .dead, .dead, .dead, .dead, .dead, .dead, .dead, .dead, .fn 24 [.ref 3 1 0 0, .ref 4 1 0 0], .dead, .dead, .dead, .dead, .dead, .dead, .dead]), (2, .ref 4 1 0 0), (8, .lst 2 (asks.map Term.cs)), (9, VI (List.length asks : Int)), (10, VI (k : Int))], [some ⟨4, [[VI c.level, VI c.now, VI c.burst, VI c.rate]]⟩, some ⟨4, [[VI 0, VI 0, VI 0, VI 0]]⟩, some ⟨1, [[.own 5 1 0 (List.length out)]]⟩, some ⟨1, [[.lst 2 (asks.map Term.cs)]]⟩, some ⟨1, [[.ref 0 4 0 0]]⟩, some ⟨1, (out.map cI)⟩]⟩ : L3)) (k + 1) c out) ?_ ⟨⟨_, cI, out, 1, by kernel_rfl, by intro y; kernel_rfl⟩, trivial⟩ ?_ ⟨(k + 1), c, out, rfl, ?_, rfl⟩
            · kernel_rfl
            · omega
            · refine ⟨by omega, by omega, by (try simp) <;> omega, ?_⟩; rw [hs]; simp [Bucket.serveGo, *]
          · rw [h8]
            have g8 : (((c.takeP a7.begin a7.end_).2) = 0) := by simpa using h8
            refine EL.condF (by kernel_rfl) ?_
            refine EL.skip ?_
            refine thenL_norm ?_
            refine EL.sreg ?_
            refine OW.last 4 [0, 2, 4, 8, 9, 10] (x' := ⟨[(4, VI (k : Int)), (0, .yld r [.dead, .dead, .ref 0 4 0 0, .dead, .dead, .ref 1 4 0 0, .dead, .dead, .ref 2 1 0 0, .dead, .dead, .dead, .dead, .dead, .dead, .dead, .dead, .dead, .dead, .dead, .dead, .dead, .dead, .dead, .fn 24 [.ref 3 1 0 0, .ref 4 1 0 0], .dead, .dead, .dead, .dead, .dead, .dead, .dead]), (2, .ref 4 1 0 0), (8, .lst 2 (asks.map Term.cs)), (9, VI (List.length asks : Int)), (10, VI (k : Int))], [some ⟨4, [[VI (((c.takeP a7.begin a7.end_).1).level), VI (((c.takeP a7.begin a7.end_).1).now), VI (((c.takeP a7.begin a7.end_).1).burst), VI (((c.takeP a7.begin a7.end_).1).rate)]]⟩, some ⟨4, [[VI 0, VI 0, VI 0, VI 0]]⟩, some ⟨1, [[.own 5 1 0 (List.length out)]]⟩, some ⟨1, [[.lst 2 (asks.map Term.cs)]]⟩, some ⟨1, [[.ref 0 4 0 0]]⟩, some ⟨1, (out.map cI)⟩, some ⟨2, [[VI a7.begin, VI a7.end_]]⟩, some ⟨4, [[VI (((c.takeP a7.begin a7.end_).1).level), VI (((c.takeP a7.begin a7.end_).1).now), VI (((c.takeP a7.begin a7.end_).1).burst), VI (((c.takeP a7.begin a7.end_).1).rate)]]⟩]⟩) (by kernel_rfl) (by kernel_rfl) ?_
            refine EL.norm [4, 0, 2, 8, 9, 10] [.old 0 false, .old 1 false, .old 2 false, .old 3 false, .old 4 false, .old 5 true] [] (y := ⟨[(4, VI (k : Int)), (0, .yld r [.dead, .dead, .ref 0 4 0 0, .dead, .dead, .ref 1 4 0 0, .dead, .dead, .ref 2 1 0 0, .dead, .dead, .dead, .dead, .dead, .dead, .dead, .dead, .dead, .dead, .dead, .dead, .dead, .dead, .dead, .fn 24 [.ref 3 1 0 0, .ref 4 1 0 0], .dead, .dead, .dead, .dead, .dead, .dead, .dead]), (2, .ref 4 1 0 0), (8, .lst 2 (asks.map Term.cs)), (9, VI (List.length asks : Int)), (10, VI (k : Int))], [some ⟨4, [[VI (((c.takeP a7.begin a7.end_).1).level), VI (((c.takeP a7.begin a7.end_).1).now), VI (((c.takeP a7.begin a7.end_).1).burst), VI (((c.takeP a7.begin a7.end_).1).rate)]]⟩, some ⟨4, [[VI 0, VI 0, VI 0, VI 0]]⟩, some ⟨1, [[.own 5 1 0 (List.length out)]]⟩, some ⟨1, [[.lst 2 (asks.map Term.cs)]]⟩, some ⟨1, [[.ref 0 4 0 0]]⟩, some ⟨1, (out.map cI)⟩]⟩) (by kernel_rfl) ⟨⟨_, cI, out, 1, by kernel_rfl, by intro y; kernel_rfl⟩, trivial⟩ ?_
            refine EL.sreg ?_
            refine OW.run 2 (x' := ⟨[(32, VI (k : Int)), (31, .yld r [.dead, .dead, .ref 0 4 0 0, .dead, .dead, .ref 1 4 0 0, .dead, .dead, .ref 2 1 0 0, .dead, .dead, .dead, .dead, .dead, .dead, .dead, .dead, .dead, .dead, .dead, .dead, .dead, .dead, .dead, .fn 24 [.ref 3 1 0 0, .ref 4 1 0 0], .dead, .dead, .dead, .dead, .dead, .dead, .dead]), (4, VI (k : Int)), (0, .yld r [.dead, .dead, .ref 0 4 0 0, .dead, .dead, .ref 1 4 0 0, .dead, .dead, .ref 2 1 0 0, .dead, .dead, .dead, .dead, .dead, .dead, .dead, .dead, .dead, .dead, .dead, .dead, .dead, .dead, .dead, .fn 24 [.ref 3 1 0 0, .ref 4 1 0 0], .dead, .dead, .dead, .dead, .dead, .dead, .dead]), (2, .ref 4 1 0 0), (8, .lst 2 (asks.map Term.cs)), (9, VI (List.length asks : Int)), (10, VI (k : Int))], [some ⟨4, [[VI (((c.takeP a7.begin a7.end_).1).level), VI (((c.takeP a7.begin a7.end_).1).now), VI (((c.takeP a7.begin a7.end_).1).burst), VI (((c.takeP a7.begin a7.end_).1).rate)]]⟩, some ⟨4, [[VI 0, VI 0, VI 0, VI 0]]⟩, some ⟨1, [[.own 5 1 0 (List.length out)]]⟩, some ⟨1, [[.lst 2 (asks.map Term.cs)]]⟩, some ⟨1, [[.ref 0 4 0 0]]⟩, some ⟨1, (out.map cI)⟩]⟩) (by kernel_rfl) ?_
            refine OW.yld (a := (.s 31)) (args := [(.s 32)]) (aa := [VI (k : Int)]) (kb := 5) (m' := [some ⟨4, [[VI (((c.takeP a7.begin a7.end_).1).level), VI (((c.takeP a7.begin a7.end_).1).now), VI (((c.takeP a7.begin a7.end_).1).burst), VI (((c.takeP a7.begin a7.end_).1).rate)]]⟩, some ⟨4, [[VI 0, VI 0, VI 0, VI 0]]⟩, some ⟨1, [[.own 5 1 0 (List.length (out ++ [(k : Int)]))]]⟩, some ⟨1, [[.lst 2 (asks.map Term.cs)]]⟩, some ⟨1, [[.ref 0 4 0 0]]⟩, some ⟨1, ((out ++ [(k : Int)]).map cI)⟩]) (x' := ⟨[(33, .v (.bool true)), (32, VI (k : Int)), (31, .yld r [.dead, .dead, .ref 0 4 0 0, .dead, .dead, .ref 1 4 0 0, .dead, .dead, .ref 2 1 0 0, .dead, .dead, .dead, .dead, .dead, .dead, .dead, .dead, .dead, .dead, .dead, .dead, .dead, .dead, .dead, .fn 24 [.ref 3 1 0 0, .ref 4 1 0 0], .dead, .dead, .dead, .dead, .dead, .dead, .dead]), (4, VI (k : Int)), (0, .yld r [.dead, .dead, .ref 0 4 0 0, .dead, .dead, .ref 1 4 0 0, .dead, .dead, .ref 2 1 0 0, .dead, .dead, .dead, .dead, .dead, .dead, .dead, .dead, .dead, .dead, .dead, .dead, .dead, .dead, .dead, .fn 24 [.ref 3 1 0 0, .ref 4 1 0 0], .dead, .dead, .dead, .dead, .dead, .dead, .dead]), (2, .ref 4 1 0 0), (8, .lst 2 (asks.map Term.cs)), (9, VI (List.length asks : Int)), (10, VI (k : Int))], [some ⟨4, [[VI (((c.takeP a7.begin a7.end_).1).level), VI (((c.takeP a7.begin a7.end_).1).now), VI (((c.takeP a7.begin a7.end_).1).burst), VI (((c.takeP a7.begin a7.end_).1).rate)]]⟩, some ⟨4, [[VI 0, VI 0, VI 0, VI 0]]⟩, some ⟨1, [[.own 5 1 0 (List.length (out ++ [(k : Int)]))]]⟩, some ⟨1, [[.lst 2 (asks.map Term.cs)]]⟩, some ⟨1, [[.ref 0 4 0 0]]⟩, some ⟨1, ((out ++ [(k : Int)]).map cI)⟩]⟩) (by kernel_rfl) (by kernel_rfl) (by kernel_rfl) (by kernel_rfl) (by kernel_rfl) (by kernel_rfl) (HY ((c.takeP a7.begin a7.end_).1) out (k : Int) (by omega)) (by kernel_rfl) ?_
            refine OW.last 1 [0, 2, 8, 9, 10, 34] (x' := ⟨[(34, .v (.bool false)), (0, .yld r [.dead, .dead, .ref 0 4 0 0, .dead, .dead, .ref 1 4 0 0, .dead, .dead, .ref 2 1 0 0, .dead, .dead, .dead, .dead, .dead, .dead, .dead, .dead, .dead, .dead, .dead, .dead, .dead, .dead, .dead, .fn 24 [.ref 3 1 0 0, .ref 4 1 0 0], .dead, .dead, .dead, .dead, .dead, .dead, .dead]), (2, .ref 4 1 0 0), (8, .lst 2 (asks.map Term.cs)), (9, VI (List.length asks : Int)), (10, VI (k : Int))], [some ⟨4, [[VI (((c.takeP a7.begin a7.end_).1).level), VI (((c.takeP a7.begin a7.end_).1).now), VI (((c.takeP a7.begin a7.end_).1).burst), VI (((c.takeP a7.begin a7.end_).1).rate)]]⟩, some ⟨4, [[VI 0, VI 0, VI 0, VI 0]]⟩, some ⟨1, [[.own 5 1 0 (List.length (out ++ [(k : Int)]))]]⟩, some ⟨1, [[.lst 2 (asks.map Term.cs)]]⟩, some ⟨1, [[.ref 0 4 0 0]]⟩, some ⟨1, ((out ++ [(k : Int)]).map cI)⟩]⟩) (by kernel_rfl) (by kernel_rfl) ?_
            refine EL.condF (by kernel_rfl) ?_
            refine EL.skip ?_
            refine inBlk_norm ?_
            refine thenL_norm ?_
            refine EL.reg0 ?_
            refine OW.run 2 (x' := ⟨[(10, VI (IntKind.i64.wrap ((k : Int) + 1))), (35, VI (IntKind.i64.wrap ((k : Int) + 1))), (34, .v (.bool false)), (0, .yld r [.dead, .dead, .ref 0 4 0 0, .dead, .dead, .ref 1 4 0 0, .dead, .dead, .ref 2 1 0 0, .dead, .dead, .dead, .dead, .dead, .dead, .dead, .dead, .dead, .dead, .dead, .dead, .dead, .dead, .dead, .fn 24 [.ref 3 1 0 0, .ref 4 1 0 0], .dead, .dead, .dead, .dead, .dead, .dead, .dead]), (2, .ref 4 1 0 0), (8, .lst 2 (asks.map Term.cs)), (9, VI (List.length asks : Int))], [some ⟨4, [[VI (((c.takeP a7.begin a7.end_).1).level), VI (((c.takeP a7.begin a7.end_).1).now), VI (((c.takeP a7.begin a7.end_).1).burst), VI (((c.takeP a7.begin a7.end_).1).rate)]]⟩, some ⟨4, [[VI 0, VI 0, VI 0, VI 0]]⟩, some ⟨1, [[.own 5 1 0 (List.length (out ++ [(k : Int)]))]]⟩, some ⟨1, [[.lst 2 (asks.map Term.cs)]]⟩, some ⟨1, [[.ref 0 4 0 0]]⟩, some ⟨1, ((out ++ [(k : Int)]).map cI)⟩]⟩) (by kernel_rfl) ?_
            have e10 : IntKind.i64.wrap ((k : Int) + 1) = (k : Int) + 1 := wr64 (by omega)
            rw [e10]
            refine OW.end 0 (x' := ⟨[(10, VI ((k : Int) + 1)), (35, VI ((k : Int) + 1)), (34, .v (.bool false)), (0, .yld r [.dead, .dead, .ref 0 4 0 0, .dead, .dead, .ref 1 4 0 0, .dead, .dead, .ref 2 1 0 0, .dead, .dead, .dead, .dead, .dead, .dead, .dead, .dead, .dead, .dead, .dead, .dead, .dead, .dead, .dead, .fn 24 [.ref 3 1 0 0, .ref 4 1 0 0], .dead, .dead, .dead, .dead, .dead, .dead, .dead]), (2, .ref 4 1 0 0), (8, .lst 2 (asks.map Term.cs)), (9, VI (List.length asks : Int))], [some ⟨4, [[VI (((c.takeP a7.begin a7.end_).1).level), VI (((c.takeP a7.begin a7.end_).1).now), VI (((c.takeP a7.begin a7.end_).1).burst), VI (((c.takeP a7.begin a7.end_).1).rate)]]⟩, some ⟨4, [[VI 0, VI 0, VI 0, VI 0]]⟩, some ⟨1, [[.own 5 1 0 (List.length (out ++ [(k : Int)]))]]⟩, some ⟨1, [[.lst 2 (asks.map Term.cs)]]⟩, some ⟨1, [[.ref 0 4 0 0]]⟩, some ⟨1, ((out ++ [(k : Int)]).map cI)⟩]⟩) (by kernel_rfl) (by kernel_rfl) ?_
            refine thenL_norm ?_
            refine round_end (live := [0, 2, 8, 9, 10]) (src := [.old 0 false, .old 1 false, .old 2 false, .old 3 false, .old 4 false, .old 5 true]) (es := []) (y := (fun (k : Nat) (c : Bucket) (out : List Int) => (⟨[(0, .yld r [.dead, .dead, .ref 0 4 0 0, .dead, .dead, .ref 1 4 0 0, .dead, .dead, .ref 2 1 0 0, .dead, .dead, .dead, .dead, .dead, .dead, .dead, .dead, .dead, .dead, .dead, .dead, .dead, .dead, .dead, .fn 24 [.ref 3 1 0 0, .ref 4 1 0 0], .dead, .dead, .dead, .dead, .dead, .dead, .dead]), (2, .ref 4 1 0 0), (8, .lst 2 (asks.map Term.cs)), (9, VI (List.length asks : Int)), (10, VI (k : Int))], [some ⟨4, [[VI c.level, VI c.now, VI c.burst, VI c.rate]]⟩, some ⟨4, [[VI 0, VI 0, VI 0, VI 0]]⟩, some ⟨1, [[.own 5 1 0 (List.length out)]]⟩, some ⟨1, [[.lst 2 (asks.map Term.cs)]]⟩, some ⟨1, [[.ref 0 4 0 0]]⟩, some ⟨1, (out.map cI)⟩]⟩ : L3)) (k + 1) ((c.takeP a7.begin a7.end_).1) (out ++ [(k : Int)])) ?_ ⟨⟨_, cI, (out ++ [(k : Int)]), 1, by kernel_rfl, by intro y; kernel_rfl⟩, trivial⟩ ?_ ⟨(k + 1), ((c.takeP a7.begin a7.end_).1), (out ++ [(k : Int)]), rfl, ?_, rfl⟩
            · kernel_rfl
            · omega
            · refine ⟨by omega, by omega, by (try simp) <;> omega, ?_⟩; rw [hs]; simp [Bucket.serveGo, *]
        · rw [h5]
          have g5 : ¬ ((k : Int) < (List.length asks : Int)) := of_decide_eq_false h5
          have n5 : ¬ ((k) < (List.length asks)) := by omega
          refine EL.condF (by kernel_rfl) ?_
          refine EL.exit ?_
          refine thenL_exit ?_
          refine thenL_exit ?_
          refine inBlk_hit ?_
          refine ⟨.inl rfl, ⟨[], [some ⟨4, [[VI c.level, VI c.now, VI c.burst, VI c.rate]]⟩, some ⟨4, [[VI 0, VI 0, VI 0, VI 0]]⟩, some ⟨1, [[.own 5 1 0 (List.length out)]]⟩, some ⟨1, [[.lst 2 (asks.map Term.cs)]]⟩, some ⟨1, [[.ref 0 4 0 0]]⟩, some ⟨1, (out.map cI)⟩]⟩, norm_le (live := []) (src := [.old 0 false, .old 1 false, .old 2 false, .old 3 false, .old 4 false, .old 5 true]) (es := []) (by kernel_rfl) ⟨⟨_, cI, out, 1, by kernel_rfl, by intro y; kernel_rfl⟩, trivial⟩, by kernel_rfl, ?_⟩
          (rw [List.drop_eq_nil_of_le (by omega)] at hs; simp [hs, Bucket.serveGo])
      · skip
        refine inBlk_norm ?_
        refine thenL_norm ?_
        refine EL.sdraw ?_
        refine DW.last 5 [4, 5, 6] (x' := ⟨[(6, VI 0), (4, .own 5 1 0 (List.length ((b.serveGo 0 asks []).1))), (5, .ref 1 4 0 0)], [some ⟨4, [[VI (((b.serveGo 0 asks []).2).level), VI (((b.serveGo 0 asks []).2).now), VI (((b.serveGo 0 asks []).2).burst), VI (((b.serveGo 0 asks []).2).rate)]]⟩, some ⟨4, [[VI (((b.serveGo 0 asks []).2).level), VI (((b.serveGo 0 asks []).2).now), VI (((b.serveGo 0 asks []).2).burst), VI (((b.serveGo 0 asks []).2).rate)]]⟩, some ⟨1, [[.own 5 1 0 (List.length ((b.serveGo 0 asks []).1))]]⟩, some ⟨1, [[.lst 2 (asks.map Term.cs)]]⟩, some ⟨1, [[.ref 0 4 0 0]]⟩, some ⟨1, (((b.serveGo 0 asks []).1).map cI)⟩]⟩) (by kernel_rfl) (by kernel_rfl) ?_
        refine EL.ret ?_
        refine ⟨.inr rfl, .tup [.lst 1 (((b.serveGo 0 asks []).1).map cI), .agg [VI (((b.serveGo 0 asks []).2).level), VI (((b.serveGo 0 asks []).2).now), VI (((b.serveGo 0 asks []).2).burst), VI (((b.serveGo 0 asks []).2).rate)], VI 0], run_snap (r0 := .tup [.own 5 1 0 (List.length ((b.serveGo 0 asks []).1)), .agg [VI (((b.serveGo 0 asks []).2).level), VI (((b.serveGo 0 asks []).2).now), VI (((b.serveGo 0 asks []).2).burst), VI (((b.serveGo 0 asks []).2).rate)], VI 0]) (by kernel_rfl) (snapR_tup (snapAs_cons (snapA_map cI ((b.serveGo 0 asks []).1) (by kernel_rfl) (by intro y; kernel_rfl) (by simp)) (snapAs_cons (by kernel_rfl) (snapAs_cons (by kernel_rfl) (snapAs_nil))))), Ale.of_eq ?_⟩
        first | (simp [Bucket.serveP, *]; done) | (have h64 : 64 < asks.length := (by omega); simp [Bucket.serveP, h64, *]; done) | (have h64 : ¬ 64 < asks.length := (by omega); simp [Bucket.serveP, h64, *]; done)
  · rw [h1]
    have g1 : ¬ (b.checkE = 0) := by simpa using h1
    refine OW.last 4 [1, 2, 5, 7, 18] (x' := ⟨[(18, .v (.bool false)), (7, VI b.checkE), (5, .ref 1 4 0 0), (2, .ref 0 4 0 0), (1, .lst 2 (asks.map Term.cs))], [some ⟨4, [[VI b.level, VI b.now, VI b.burst, VI b.rate]]⟩, some ⟨4, [[VI 0, VI 0, VI 0, VI 0]]⟩]⟩) (by kernel_rfl) (by kernel_rfl) ?_
    refine EL.condF (by kernel_rfl) ?_
    refine EL.skip ?_
    refine thenL_norm ?_
    refine EL.seq ?_
    refine EL.sreg ?_
    refine OW.last 2 [1, 2, 5, 7, 20] (x' := ⟨[(20, .v (.bool (b.checkE != 0))), (7, VI b.checkE), (5, .ref 1 4 0 0), (2, .ref 0 4 0 0), (1, .lst 2 (asks.map Term.cs))], [some ⟨4, [[VI b.level, VI b.now, VI b.burst, VI b.rate]]⟩, some ⟨4, [[VI 0, VI 0, VI 0, VI 0]]⟩]⟩) (by kernel_rfl) (by kernel_rfl) ?_
    have h11 : (b.checkE != 0) = true := (by show (!(b.checkE == 0)) = _; rw [h1]; rfl)
    rw [h11]
    refine EL.condT (by kernel_rfl) ?_
    refine EL.sreg ?_
    refine OW.last 5 [4, 5, 6] (x' := ⟨[(6, VI b.checkE), (4, .emp), (5, .ref 1 4 0 0)], [some ⟨4, [[VI b.level, VI b.now, VI b.burst, VI b.rate]]⟩, some ⟨4, [[VI 0, VI 0, VI 0, VI 0]]⟩]⟩) (by kernel_rfl) (by kernel_rfl) ?_
    refine EL.ret ?_
    refine thenL_ret ?_
    refine ⟨.inr rfl, .tup [.emp, .agg [VI 0, VI 0, VI 0, VI 0], VI b.checkE], by kernel_rfl, Ale.trans (b := .tup [.lst 1 [], .agg [VI 0, VI 0, VI 0, VI 0], VI b.checkE]) (Ale.tup (.cons (Ale.emp) (.cons (Ale.refl) (.cons (Ale.refl) (.nil))))) (Ale.of_eq ?_)⟩
    first | (simp [Bucket.serveP, *]; done) | (have h64 : 64 < asks.length := (by omega); simp [Bucket.serveP, h64, *]; done) | (have h64 : ¬ 64 < asks.length := (by omega); simp [Bucket.serveP, h64, *]; done)
theorem begun_fn : Fn Try.prog 15 [] (.v (.bool true)) := by
  refine fn_walkW F15_ok (of_decide_eq_true (by kernel_rfl)) ?_
  refine EL.sreg ?_
  refine OW.last 1 [] (x' := ⟨[], []⟩) (by kernel_rfl) (by kernel_rfl) ?_
  refine EL.sreg ?_
  refine OW.last 3 [1] (x' := ⟨[(1, .ref 0 4 0 0)], [some ⟨4, [[VI 5, VI 0, VI 10, VI 2]]⟩]⟩) (by kernel_rfl) (by kernel_rfl) ?_
  refine EL.sreg ?_
  refine OW.run 1 (x' := ⟨[(15, .agg [VI 5, VI 0, VI 10, VI 2]), (1, .ref 0 4 0 0)], [some ⟨4, [[VI 5, VI 0, VI 10, VI 2]]⟩]⟩) (by kernel_rfl) ?_
  refine OW.fn (ar := [.agg [VI 5, VI 0, VI 10, VI 2], VI 2]) (x' := ⟨[(16, .tup [VI (((⟨5, 0, 10, 2⟩ : Bucket).levelP 2).1), VI (((⟨5, 0, 10, 2⟩ : Bucket).levelP 2).2)]), (15, .agg [VI 5, VI 0, VI 10, VI 2]), (1, .ref 0 4 0 0)], [some ⟨4, [[VI 5, VI 0, VI 10, VI 2]]⟩]⟩) (by kernel_rfl) (by kernel_rfl) F9_call (level_fn (⟨5, 0, 10, 2⟩ : Bucket) 2) (by kernel_rfl) (by kernel_rfl) ?_
  refine OW.last 5 [1, 2, 3] (x' := ⟨[(3, VI (((⟨5, 0, 10, 2⟩ : Bucket).levelP 2).2)), (2, VI (((⟨5, 0, 10, 2⟩ : Bucket).levelP 2).1)), (1, .ref 0 4 0 0)], [some ⟨4, [[VI 5, VI 0, VI 10, VI 2]]⟩]⟩) (by kernel_rfl) (by kernel_rfl) ?_
  refine EL.sreg ?_
  refine OW.run 1 (x' := ⟨[(20, .agg [VI 5, VI 0, VI 10, VI 2]), (3, VI (((⟨5, 0, 10, 2⟩ : Bucket).levelP 2).2)), (2, VI (((⟨5, 0, 10, 2⟩ : Bucket).levelP 2).1)), (1, .ref 0 4 0 0)], [some ⟨4, [[VI 5, VI 0, VI 10, VI 2]]⟩]⟩) (by kernel_rfl) ?_
  refine OW.fn (ar := [.agg [VI 5, VI 0, VI 10, VI 2], VI 1, VI 7]) (x' := ⟨[(21, .tup [.agg [VI ((((⟨5, 0, 10, 2⟩ : Bucket).takeP 1 7).1).level), VI ((((⟨5, 0, 10, 2⟩ : Bucket).takeP 1 7).1).now), VI ((((⟨5, 0, 10, 2⟩ : Bucket).takeP 1 7).1).burst), VI ((((⟨5, 0, 10, 2⟩ : Bucket).takeP 1 7).1).rate)], VI (((⟨5, 0, 10, 2⟩ : Bucket).takeP 1 7).2)]), (20, .agg [VI 5, VI 0, VI 10, VI 2]), (3, VI (((⟨5, 0, 10, 2⟩ : Bucket).levelP 2).2)), (2, VI (((⟨5, 0, 10, 2⟩ : Bucket).levelP 2).1)), (1, .ref 0 4 0 0)], [some ⟨4, [[VI 5, VI 0, VI 10, VI 2]]⟩]⟩) (by kernel_rfl) (by kernel_rfl) F10_call (take_fn (⟨5, 0, 10, 2⟩ : Bucket) 1 7) (by kernel_rfl) (by kernel_rfl) ?_
  refine OW.last 6 [1, 2, 3, 4, 5] (x' := ⟨[(5, VI (((⟨5, 0, 10, 2⟩ : Bucket).takeP 1 7).2)), (4, .ref 1 4 0 0), (3, VI (((⟨5, 0, 10, 2⟩ : Bucket).levelP 2).2)), (2, VI (((⟨5, 0, 10, 2⟩ : Bucket).levelP 2).1)), (1, .ref 0 4 0 0)], [some ⟨4, [[VI 5, VI 0, VI 10, VI 2]]⟩, some ⟨4, [[VI ((((⟨5, 0, 10, 2⟩ : Bucket).takeP 1 7).1).level), VI ((((⟨5, 0, 10, 2⟩ : Bucket).takeP 1 7).1).now), VI ((((⟨5, 0, 10, 2⟩ : Bucket).takeP 1 7).1).burst), VI ((((⟨5, 0, 10, 2⟩ : Bucket).takeP 1 7).1).rate)]]⟩]⟩) (by kernel_rfl) (by kernel_rfl) ?_
  refine EL.sreg ?_
  refine OW.run 1 (x' := ⟨[(25, .agg [VI 5, VI 0, VI 10, VI 2]), (5, VI (((⟨5, 0, 10, 2⟩ : Bucket).takeP 1 7).2)), (4, .ref 1 4 0 0), (3, VI (((⟨5, 0, 10, 2⟩ : Bucket).levelP 2).2)), (2, VI (((⟨5, 0, 10, 2⟩ : Bucket).levelP 2).1)), (1, .ref 0 4 0 0)], [some ⟨4, [[VI 5, VI 0, VI 10, VI 2]]⟩, some ⟨4, [[VI ((((⟨5, 0, 10, 2⟩ : Bucket).takeP 1 7).1).level), VI ((((⟨5, 0, 10, 2⟩ : Bucket).takeP 1 7).1).now), VI ((((⟨5, 0, 10, 2⟩ : Bucket).takeP 1 7).1).burst), VI ((((⟨5, 0, 10, 2⟩ : Bucket).takeP 1 7).1).rate)]]⟩]⟩) (by kernel_rfl) ?_
  refine OW.fn (ar := [.agg [VI 5, VI 0, VI 10, VI 2], VI 1, VI 8]) (x' := ⟨[(26, .tup [.agg [VI ((((⟨5, 0, 10, 2⟩ : Bucket).takeP 1 8).1).level), VI ((((⟨5, 0, 10, 2⟩ : Bucket).takeP 1 8).1).now), VI ((((⟨5, 0, 10, 2⟩ : Bucket).takeP 1 8).1).burst), VI ((((⟨5, 0, 10, 2⟩ : Bucket).takeP 1 8).1).rate)], VI (((⟨5, 0, 10, 2⟩ : Bucket).takeP 1 8).2)]), (25, .agg [VI 5, VI 0, VI 10, VI 2]), (5, VI (((⟨5, 0, 10, 2⟩ : Bucket).takeP 1 7).2)), (4, .ref 1 4 0 0), (3, VI (((⟨5, 0, 10, 2⟩ : Bucket).levelP 2).2)), (2, VI (((⟨5, 0, 10, 2⟩ : Bucket).levelP 2).1)), (1, .ref 0 4 0 0)], [some ⟨4, [[VI 5, VI 0, VI 10, VI 2]]⟩, some ⟨4, [[VI ((((⟨5, 0, 10, 2⟩ : Bucket).takeP 1 7).1).level), VI ((((⟨5, 0, 10, 2⟩ : Bucket).takeP 1 7).1).now), VI ((((⟨5, 0, 10, 2⟩ : Bucket).takeP 1 7).1).burst), VI ((((⟨5, 0, 10, 2⟩ : Bucket).takeP 1 7).1).rate)]]⟩]⟩) (by kernel_rfl) (by kernel_rfl) F10_call (take_fn (⟨5, 0, 10, 2⟩ : Bucket) 1 8) (by kernel_rfl) (by kernel_rfl) ?_
  refine OW.last 6 [1, 2, 3, 4, 5, 7] (x' := ⟨[(7, VI (((⟨5, 0, 10, 2⟩ : Bucket).takeP 1 8).2)), (5, VI (((⟨5, 0, 10, 2⟩ : Bucket).takeP 1 7).2)), (4, .ref 1 4 0 0), (3, VI (((⟨5, 0, 10, 2⟩ : Bucket).levelP 2).2)), (2, VI (((⟨5, 0, 10, 2⟩ : Bucket).levelP 2).1)), (1, .ref 0 4 0 0)], [some ⟨4, [[VI 5, VI 0, VI 10, VI 2]]⟩, some ⟨4, [[VI ((((⟨5, 0, 10, 2⟩ : Bucket).takeP 1 7).1).level), VI ((((⟨5, 0, 10, 2⟩ : Bucket).takeP 1 7).1).now), VI ((((⟨5, 0, 10, 2⟩ : Bucket).takeP 1 7).1).burst), VI ((((⟨5, 0, 10, 2⟩ : Bucket).takeP 1 7).1).rate)]]⟩, some ⟨4, [[VI ((((⟨5, 0, 10, 2⟩ : Bucket).takeP 1 8).1).level), VI ((((⟨5, 0, 10, 2⟩ : Bucket).takeP 1 8).1).now), VI ((((⟨5, 0, 10, 2⟩ : Bucket).takeP 1 8).1).burst), VI ((((⟨5, 0, 10, 2⟩ : Bucket).takeP 1 8).1).rate)]]⟩]⟩) (by kernel_rfl) (by kernel_rfl) ?_
  refine EL.sreg ?_
  refine OW.run 1 (x' := ⟨[(30, .agg [VI ((((⟨5, 0, 10, 2⟩ : Bucket).takeP 1 7).1).level), VI ((((⟨5, 0, 10, 2⟩ : Bucket).takeP 1 7).1).now), VI ((((⟨5, 0, 10, 2⟩ : Bucket).takeP 1 7).1).burst), VI ((((⟨5, 0, 10, 2⟩ : Bucket).takeP 1 7).1).rate)]), (7, VI (((⟨5, 0, 10, 2⟩ : Bucket).takeP 1 8).2)), (5, VI (((⟨5, 0, 10, 2⟩ : Bucket).takeP 1 7).2)), (4, .ref 1 4 0 0), (3, VI (((⟨5, 0, 10, 2⟩ : Bucket).levelP 2).2)), (2, VI (((⟨5, 0, 10, 2⟩ : Bucket).levelP 2).1)), (1, .ref 0 4 0 0)], [some ⟨4, [[VI 5, VI 0, VI 10, VI 2]]⟩, some ⟨4, [[VI ((((⟨5, 0, 10, 2⟩ : Bucket).takeP 1 7).1).level), VI ((((⟨5, 0, 10, 2⟩ : Bucket).takeP 1 7).1).now), VI ((((⟨5, 0, 10, 2⟩ : Bucket).takeP 1 7).1).burst), VI ((((⟨5, 0, 10, 2⟩ : Bucket).takeP 1 7).1).rate)]]⟩, some ⟨4, [[VI ((((⟨5, 0, 10, 2⟩ : Bucket).takeP 1 8).1).level), VI ((((⟨5, 0, 10, 2⟩ : Bucket).takeP 1 8).1).now), VI ((((⟨5, 0, 10, 2⟩ : Bucket).takeP 1 8).1).burst), VI ((((⟨5, 0, 10, 2⟩ : Bucket).takeP 1 8).1).rate)]]⟩]⟩) (by kernel_rfl) ?_
  refine OW.fn (ar := [.agg [VI ((((⟨5, 0, 10, 2⟩ : Bucket).takeP 1 7).1).level), VI ((((⟨5, 0, 10, 2⟩ : Bucket).takeP 1 7).1).now), VI ((((⟨5, 0, 10, 2⟩ : Bucket).takeP 1 7).1).burst), VI ((((⟨5, 0, 10, 2⟩ : Bucket).takeP 1 7).1).rate)], VI 3]) (x' := ⟨[(31, .tup [VI (((((⟨5, 0, 10, 2⟩ : Bucket).takeP 1 7).1).readyP 3).1), VI (((((⟨5, 0, 10, 2⟩ : Bucket).takeP 1 7).1).readyP 3).2)]), (30, .agg [VI ((((⟨5, 0, 10, 2⟩ : Bucket).takeP 1 7).1).level), VI ((((⟨5, 0, 10, 2⟩ : Bucket).takeP 1 7).1).now), VI ((((⟨5, 0, 10, 2⟩ : Bucket).takeP 1 7).1).burst), VI ((((⟨5, 0, 10, 2⟩ : Bucket).takeP 1 7).1).rate)]), (7, VI (((⟨5, 0, 10, 2⟩ : Bucket).takeP 1 8).2)), (5, VI (((⟨5, 0, 10, 2⟩ : Bucket).takeP 1 7).2)), (4, .ref 1 4 0 0), (3, VI (((⟨5, 0, 10, 2⟩ : Bucket).levelP 2).2)), (2, VI (((⟨5, 0, 10, 2⟩ : Bucket).levelP 2).1)), (1, .ref 0 4 0 0)], [some ⟨4, [[VI 5, VI 0, VI 10, VI 2]]⟩, some ⟨4, [[VI ((((⟨5, 0, 10, 2⟩ : Bucket).takeP 1 7).1).level), VI ((((⟨5, 0, 10, 2⟩ : Bucket).takeP 1 7).1).now), VI ((((⟨5, 0, 10, 2⟩ : Bucket).takeP 1 7).1).burst), VI ((((⟨5, 0, 10, 2⟩ : Bucket).takeP 1 7).1).rate)]]⟩, some ⟨4, [[VI ((((⟨5, 0, 10, 2⟩ : Bucket).takeP 1 8).1).level), VI ((((⟨5, 0, 10, 2⟩ : Bucket).takeP 1 8).1).now), VI ((((⟨5, 0, 10, 2⟩ : Bucket).takeP 1 8).1).burst), VI ((((⟨5, 0, 10, 2⟩ : Bucket).takeP 1 8).1).rate)]]⟩]⟩) (by kernel_rfl) (by kernel_rfl) F11_call (ready_fn (((⟨5, 0, 10, 2⟩ : Bucket).takeP 1 7).1) 3) (by kernel_rfl) (by kernel_rfl) ?_
  refine OW.last 5 [1, 2, 3, 4, 5, 7, 8, 9] (x' := ⟨[(9, VI (((((⟨5, 0, 10, 2⟩ : Bucket).takeP 1 7).1).readyP 3).2)), (8, VI (((((⟨5, 0, 10, 2⟩ : Bucket).takeP 1 7).1).readyP 3).1)), (7, VI (((⟨5, 0, 10, 2⟩ : Bucket).takeP 1 8).2)), (5, VI (((⟨5, 0, 10, 2⟩ : Bucket).takeP 1 7).2)), (4, .ref 1 4 0 0), (3, VI (((⟨5, 0, 10, 2⟩ : Bucket).levelP 2).2)), (2, VI (((⟨5, 0, 10, 2⟩ : Bucket).levelP 2).1)), (1, .ref 0 4 0 0)], [some ⟨4, [[VI 5, VI 0, VI 10, VI 2]]⟩, some ⟨4, [[VI ((((⟨5, 0, 10, 2⟩ : Bucket).takeP 1 7).1).level), VI ((((⟨5, 0, 10, 2⟩ : Bucket).takeP 1 7).1).now), VI ((((⟨5, 0, 10, 2⟩ : Bucket).takeP 1 7).1).burst), VI ((((⟨5, 0, 10, 2⟩ : Bucket).takeP 1 7).1).rate)]]⟩, some ⟨4, [[VI ((((⟨5, 0, 10, 2⟩ : Bucket).takeP 1 8).1).level), VI ((((⟨5, 0, 10, 2⟩ : Bucket).takeP 1 8).1).now), VI ((((⟨5, 0, 10, 2⟩ : Bucket).takeP 1 8).1).burst), VI ((((⟨5, 0, 10, 2⟩ : Bucket).takeP 1 8).1).rate)]]⟩]⟩) (by kernel_rfl) (by kernel_rfl) ?_
  refine EL.sreg ?_
  refine OW.run 5 (x' := ⟨[(39, .own 3 2 0 3), (38, .agg [VI 2, VI 4]), (37, .agg [VI 1, VI 3]), (36, .agg [VI 0, VI 5]), (35, .agg [VI 5, VI 0, VI 10, VI 2]), (9, VI (((((⟨5, 0, 10, 2⟩ : Bucket).takeP 1 7).1).readyP 3).2)), (8, VI (((((⟨5, 0, 10, 2⟩ : Bucket).takeP 1 7).1).readyP 3).1)), (7, VI (((⟨5, 0, 10, 2⟩ : Bucket).takeP 1 8).2)), (5, VI (((⟨5, 0, 10, 2⟩ : Bucket).takeP 1 7).2)), (4, .ref 1 4 0 0), (3, VI (((⟨5, 0, 10, 2⟩ : Bucket).levelP 2).2)), (2, VI (((⟨5, 0, 10, 2⟩ : Bucket).levelP 2).1)), (1, .ref 0 4 0 0)], [some ⟨4, [[VI 5, VI 0, VI 10, VI 2]]⟩, some ⟨4, [[VI ((((⟨5, 0, 10, 2⟩ : Bucket).takeP 1 7).1).level), VI ((((⟨5, 0, 10, 2⟩ : Bucket).takeP 1 7).1).now), VI ((((⟨5, 0, 10, 2⟩ : Bucket).takeP 1 7).1).burst), VI ((((⟨5, 0, 10, 2⟩ : Bucket).takeP 1 7).1).rate)]]⟩, some ⟨4, [[VI ((((⟨5, 0, 10, 2⟩ : Bucket).takeP 1 8).1).level), VI ((((⟨5, 0, 10, 2⟩ : Bucket).takeP 1 8).1).now), VI ((((⟨5, 0, 10, 2⟩ : Bucket).takeP 1 8).1).burst), VI ((((⟨5, 0, 10, 2⟩ : Bucket).takeP 1 8).1).rate)]]⟩, some ⟨2, [[VI 0, VI 5], [VI 1, VI 3], [VI 2, VI 4]]⟩]⟩) (by kernel_rfl) ?_
  refine OW.fn (ar := [.agg [VI 5, VI 0, VI 10, VI 2], .own 3 2 0 3]) (x' := ⟨[(40, .tup [.lst 1 ((((⟨5, 0, 10, 2⟩ : Bucket).serveP ([(⟨0, 5⟩ : Term), (⟨1, 3⟩ : Term), (⟨2, 4⟩ : Term)])).1).map cI), .agg [VI ((((⟨5, 0, 10, 2⟩ : Bucket).serveP ([(⟨0, 5⟩ : Term), (⟨1, 3⟩ : Term), (⟨2, 4⟩ : Term)])).2.1).level), VI ((((⟨5, 0, 10, 2⟩ : Bucket).serveP ([(⟨0, 5⟩ : Term), (⟨1, 3⟩ : Term), (⟨2, 4⟩ : Term)])).2.1).now), VI ((((⟨5, 0, 10, 2⟩ : Bucket).serveP ([(⟨0, 5⟩ : Term), (⟨1, 3⟩ : Term), (⟨2, 4⟩ : Term)])).2.1).burst), VI ((((⟨5, 0, 10, 2⟩ : Bucket).serveP ([(⟨0, 5⟩ : Term), (⟨1, 3⟩ : Term), (⟨2, 4⟩ : Term)])).2.1).rate)], VI (((⟨5, 0, 10, 2⟩ : Bucket).serveP ([(⟨0, 5⟩ : Term), (⟨1, 3⟩ : Term), (⟨2, 4⟩ : Term)])).2.2)]), (39, .own 3 2 0 3), (38, .agg [VI 2, VI 4]), (37, .agg [VI 1, VI 3]), (36, .agg [VI 0, VI 5]), (35, .agg [VI 5, VI 0, VI 10, VI 2]), (9, VI (((((⟨5, 0, 10, 2⟩ : Bucket).takeP 1 7).1).readyP 3).2)), (8, VI (((((⟨5, 0, 10, 2⟩ : Bucket).takeP 1 7).1).readyP 3).1)), (7, VI (((⟨5, 0, 10, 2⟩ : Bucket).takeP 1 8).2)), (5, VI (((⟨5, 0, 10, 2⟩ : Bucket).takeP 1 7).2)), (4, .ref 1 4 0 0), (3, VI (((⟨5, 0, 10, 2⟩ : Bucket).levelP 2).2)), (2, VI (((⟨5, 0, 10, 2⟩ : Bucket).levelP 2).1)), (1, .ref 0 4 0 0)], [some ⟨4, [[VI 5, VI 0, VI 10, VI 2]]⟩, some ⟨4, [[VI ((((⟨5, 0, 10, 2⟩ : Bucket).takeP 1 7).1).level), VI ((((⟨5, 0, 10, 2⟩ : Bucket).takeP 1 7).1).now), VI ((((⟨5, 0, 10, 2⟩ : Bucket).takeP 1 7).1).burst), VI ((((⟨5, 0, 10, 2⟩ : Bucket).takeP 1 7).1).rate)]]⟩, some ⟨4, [[VI ((((⟨5, 0, 10, 2⟩ : Bucket).takeP 1 8).1).level), VI ((((⟨5, 0, 10, 2⟩ : Bucket).takeP 1 8).1).now), VI ((((⟨5, 0, 10, 2⟩ : Bucket).takeP 1 8).1).burst), VI ((((⟨5, 0, 10, 2⟩ : Bucket).takeP 1 8).1).rate)]]⟩, none]⟩) (by kernel_rfl) (by kernel_rfl) F18_call (serve_fn (⟨5, 0, 10, 2⟩ : Bucket) ([(⟨0, 5⟩ : Term), (⟨1, 3⟩ : Term), (⟨2, 4⟩ : Term)])) (by kernel_rfl) (by kernel_rfl) ?_
  refine OW.last 8 [2, 3, 4, 5, 7, 8, 9, 10, 11, 12] (x' := ⟨[(12, VI (((⟨5, 0, 10, 2⟩ : Bucket).serveP ([(⟨0, 5⟩ : Term), (⟨1, 3⟩ : Term), (⟨2, 4⟩ : Term)])).2.2)), (10, .lst 1 ((((⟨5, 0, 10, 2⟩ : Bucket).serveP ([(⟨0, 5⟩ : Term), (⟨1, 3⟩ : Term), (⟨2, 4⟩ : Term)])).1).map cI)), (11, .ref 4 4 0 0), (9, VI (((((⟨5, 0, 10, 2⟩ : Bucket).takeP 1 7).1).readyP 3).2)), (8, VI (((((⟨5, 0, 10, 2⟩ : Bucket).takeP 1 7).1).readyP 3).1)), (7, VI (((⟨5, 0, 10, 2⟩ : Bucket).takeP 1 8).2)), (5, VI (((⟨5, 0, 10, 2⟩ : Bucket).takeP 1 7).2)), (4, .ref 1 4 0 0), (3, VI (((⟨5, 0, 10, 2⟩ : Bucket).levelP 2).2)), (2, VI (((⟨5, 0, 10, 2⟩ : Bucket).levelP 2).1))], [some ⟨4, [[VI 5, VI 0, VI 10, VI 2]]⟩, some ⟨4, [[VI ((((⟨5, 0, 10, 2⟩ : Bucket).takeP 1 7).1).level), VI ((((⟨5, 0, 10, 2⟩ : Bucket).takeP 1 7).1).now), VI ((((⟨5, 0, 10, 2⟩ : Bucket).takeP 1 7).1).burst), VI ((((⟨5, 0, 10, 2⟩ : Bucket).takeP 1 7).1).rate)]]⟩, some ⟨4, [[VI ((((⟨5, 0, 10, 2⟩ : Bucket).takeP 1 8).1).level), VI ((((⟨5, 0, 10, 2⟩ : Bucket).takeP 1 8).1).now), VI ((((⟨5, 0, 10, 2⟩ : Bucket).takeP 1 8).1).burst), VI ((((⟨5, 0, 10, 2⟩ : Bucket).takeP 1 8).1).rate)]]⟩, none, some ⟨4, [[VI ((((⟨5, 0, 10, 2⟩ : Bucket).serveP ([(⟨0, 5⟩ : Term), (⟨1, 3⟩ : Term), (⟨2, 4⟩ : Term)])).2.1).level), VI ((((⟨5, 0, 10, 2⟩ : Bucket).serveP ([(⟨0, 5⟩ : Term), (⟨1, 3⟩ : Term), (⟨2, 4⟩ : Term)])).2.1).now), VI ((((⟨5, 0, 10, 2⟩ : Bucket).serveP ([(⟨0, 5⟩ : Term), (⟨1, 3⟩ : Term), (⟨2, 4⟩ : Term)])).2.1).burst), VI ((((⟨5, 0, 10, 2⟩ : Bucket).serveP ([(⟨0, 5⟩ : Term), (⟨1, 3⟩ : Term), (⟨2, 4⟩ : Term)])).2.1).rate)]]⟩]⟩) (by kernel_rfl) (by kernel_rfl) ?_
  refine EL.sreg ?_
  refine OW.run 3 (x' := ⟨[(46, .v (.bool ((((⟨5, 0, 10, 2⟩ : Bucket).levelP 2).1) == 9))), (45, .v (.bool ((((⟨5, 0, 10, 2⟩ : Bucket).levelP 2).1) == 9))), (44, VI (((⟨5, 0, 10, 2⟩ : Bucket).levelP 2).1)), (12, VI (((⟨5, 0, 10, 2⟩ : Bucket).serveP ([(⟨0, 5⟩ : Term), (⟨1, 3⟩ : Term), (⟨2, 4⟩ : Term)])).2.2)), (10, .lst 1 ((((⟨5, 0, 10, 2⟩ : Bucket).serveP ([(⟨0, 5⟩ : Term), (⟨1, 3⟩ : Term), (⟨2, 4⟩ : Term)])).1).map cI)), (11, .ref 4 4 0 0), (9, VI (((((⟨5, 0, 10, 2⟩ : Bucket).takeP 1 7).1).readyP 3).2)), (8, VI (((((⟨5, 0, 10, 2⟩ : Bucket).takeP 1 7).1).readyP 3).1)), (7, VI (((⟨5, 0, 10, 2⟩ : Bucket).takeP 1 8).2)), (5, VI (((⟨5, 0, 10, 2⟩ : Bucket).takeP 1 7).2)), (4, .ref 1 4 0 0), (3, VI (((⟨5, 0, 10, 2⟩ : Bucket).levelP 2).2)), (2, VI (((⟨5, 0, 10, 2⟩ : Bucket).levelP 2).1))], [some ⟨4, [[VI 5, VI 0, VI 10, VI 2]]⟩, some ⟨4, [[VI ((((⟨5, 0, 10, 2⟩ : Bucket).takeP 1 7).1).level), VI ((((⟨5, 0, 10, 2⟩ : Bucket).takeP 1 7).1).now), VI ((((⟨5, 0, 10, 2⟩ : Bucket).takeP 1 7).1).burst), VI ((((⟨5, 0, 10, 2⟩ : Bucket).takeP 1 7).1).rate)]]⟩, some ⟨4, [[VI ((((⟨5, 0, 10, 2⟩ : Bucket).takeP 1 8).1).level), VI ((((⟨5, 0, 10, 2⟩ : Bucket).takeP 1 8).1).now), VI ((((⟨5, 0, 10, 2⟩ : Bucket).takeP 1 8).1).burst), VI ((((⟨5, 0, 10, 2⟩ : Bucket).takeP 1 8).1).rate)]]⟩, none, some ⟨4, [[VI ((((⟨5, 0, 10, 2⟩ : Bucket).serveP ([(⟨0, 5⟩ : Term), (⟨1, 3⟩ : Term), (⟨2, 4⟩ : Term)])).2.1).level), VI ((((⟨5, 0, 10, 2⟩ : Bucket).serveP ([(⟨0, 5⟩ : Term), (⟨1, 3⟩ : Term), (⟨2, 4⟩ : Term)])).2.1).now), VI ((((⟨5, 0, 10, 2⟩ : Bucket).serveP ([(⟨0, 5⟩ : Term), (⟨1, 3⟩ : Term), (⟨2, 4⟩ : Term)])).2.1).burst), VI ((((⟨5, 0, 10, 2⟩ : Bucket).serveP ([(⟨0, 5⟩ : Term), (⟨1, 3⟩ : Term), (⟨2, 4⟩ : Term)])).2.1).rate)]]⟩]⟩) (by kernel_rfl) ?_
  have h1 : ((((⟨5, 0, 10, 2⟩ : Bucket).levelP 2).1) == 9) = true := by decide
  rw [h1]
  refine OW.run 4 (x' := ⟨[(50, .v (.bool ((((⟨5, 0, 10, 2⟩ : Bucket).levelP 2).2) == 0))), (49, .v (.bool ((((⟨5, 0, 10, 2⟩ : Bucket).levelP 2).2) == 0))), (48, .v (.bool ((((⟨5, 0, 10, 2⟩ : Bucket).levelP 2).2) == 0))), (47, VI (((⟨5, 0, 10, 2⟩ : Bucket).levelP 2).2)), (46, .v (.bool true)), (45, .v (.bool true)), (44, VI (((⟨5, 0, 10, 2⟩ : Bucket).levelP 2).1)), (12, VI (((⟨5, 0, 10, 2⟩ : Bucket).serveP ([(⟨0, 5⟩ : Term), (⟨1, 3⟩ : Term), (⟨2, 4⟩ : Term)])).2.2)), (10, .lst 1 ((((⟨5, 0, 10, 2⟩ : Bucket).serveP ([(⟨0, 5⟩ : Term), (⟨1, 3⟩ : Term), (⟨2, 4⟩ : Term)])).1).map cI)), (11, .ref 4 4 0 0), (9, VI (((((⟨5, 0, 10, 2⟩ : Bucket).takeP 1 7).1).readyP 3).2)), (8, VI (((((⟨5, 0, 10, 2⟩ : Bucket).takeP 1 7).1).readyP 3).1)), (7, VI (((⟨5, 0, 10, 2⟩ : Bucket).takeP 1 8).2)), (5, VI (((⟨5, 0, 10, 2⟩ : Bucket).takeP 1 7).2)), (4, .ref 1 4 0 0), (3, VI (((⟨5, 0, 10, 2⟩ : Bucket).levelP 2).2)), (2, VI (((⟨5, 0, 10, 2⟩ : Bucket).levelP 2).1))], [some ⟨4, [[VI 5, VI 0, VI 10, VI 2]]⟩, some ⟨4, [[VI ((((⟨5, 0, 10, 2⟩ : Bucket).takeP 1 7).1).level), VI ((((⟨5, 0, 10, 2⟩ : Bucket).takeP 1 7).1).now), VI ((((⟨5, 0, 10, 2⟩ : Bucket).takeP 1 7).1).burst), VI ((((⟨5, 0, 10, 2⟩ : Bucket).takeP 1 7).1).rate)]]⟩, some ⟨4, [[VI ((((⟨5, 0, 10, 2⟩ : Bucket).takeP 1 8).1).level), VI ((((⟨5, 0, 10, 2⟩ : Bucket).takeP 1 8).1).now), VI ((((⟨5, 0, 10, 2⟩ : Bucket).takeP 1 8).1).burst), VI ((((⟨5, 0, 10, 2⟩ : Bucket).takeP 1 8).1).rate)]]⟩, none, some ⟨4, [[VI ((((⟨5, 0, 10, 2⟩ : Bucket).serveP ([(⟨0, 5⟩ : Term), (⟨1, 3⟩ : Term), (⟨2, 4⟩ : Term)])).2.1).level), VI ((((⟨5, 0, 10, 2⟩ : Bucket).serveP ([(⟨0, 5⟩ : Term), (⟨1, 3⟩ : Term), (⟨2, 4⟩ : Term)])).2.1).now), VI ((((⟨5, 0, 10, 2⟩ : Bucket).serveP ([(⟨0, 5⟩ : Term), (⟨1, 3⟩ : Term), (⟨2, 4⟩ : Term)])).2.1).burst), VI ((((⟨5, 0, 10, 2⟩ : Bucket).serveP ([(⟨0, 5⟩ : Term), (⟨1, 3⟩ : Term), (⟨2, 4⟩ : Term)])).2.1).rate)]]⟩]⟩) (by kernel_rfl) ?_
  have h2 : ((((⟨5, 0, 10, 2⟩ : Bucket).levelP 2).2) == 0) = true := by decide
  rw [h2]
  refine OW.run 5 (x' := ⟨[(55, .v (.bool ((((((⟨5, 0, 10, 2⟩ : Bucket).takeP 1 7).1).level) == 0) && ((((((⟨5, 0, 10, 2⟩ : Bucket).takeP 1 7).1).now) == 1) && ((((((⟨5, 0, 10, 2⟩ : Bucket).takeP 1 7).1).burst) == 10) && ((((((⟨5, 0, 10, 2⟩ : Bucket).takeP 1 7).1).rate) == 2) && true)))))), (54, .v (.bool ((((((⟨5, 0, 10, 2⟩ : Bucket).takeP 1 7).1).level) == 0) && ((((((⟨5, 0, 10, 2⟩ : Bucket).takeP 1 7).1).now) == 1) && ((((((⟨5, 0, 10, 2⟩ : Bucket).takeP 1 7).1).burst) == 10) && ((((((⟨5, 0, 10, 2⟩ : Bucket).takeP 1 7).1).rate) == 2) && true)))))), (53, .v (.bool ((((((⟨5, 0, 10, 2⟩ : Bucket).takeP 1 7).1).level) == 0) && ((((((⟨5, 0, 10, 2⟩ : Bucket).takeP 1 7).1).now) == 1) && ((((((⟨5, 0, 10, 2⟩ : Bucket).takeP 1 7).1).burst) == 10) && ((((((⟨5, 0, 10, 2⟩ : Bucket).takeP 1 7).1).rate) == 2) && true)))))), (52, .agg [VI 0, VI 1, VI 10, VI 2]), (51, .agg [VI ((((⟨5, 0, 10, 2⟩ : Bucket).takeP 1 7).1).level), VI ((((⟨5, 0, 10, 2⟩ : Bucket).takeP 1 7).1).now), VI ((((⟨5, 0, 10, 2⟩ : Bucket).takeP 1 7).1).burst), VI ((((⟨5, 0, 10, 2⟩ : Bucket).takeP 1 7).1).rate)]), (50, .v (.bool true)), (49, .v (.bool true)), (48, .v (.bool true)), (47, VI (((⟨5, 0, 10, 2⟩ : Bucket).levelP 2).2)), (46, .v (.bool true)), (45, .v (.bool true)), (44, VI (((⟨5, 0, 10, 2⟩ : Bucket).levelP 2).1)), (12, VI (((⟨5, 0, 10, 2⟩ : Bucket).serveP ([(⟨0, 5⟩ : Term), (⟨1, 3⟩ : Term), (⟨2, 4⟩ : Term)])).2.2)), (10, .lst 1 ((((⟨5, 0, 10, 2⟩ : Bucket).serveP ([(⟨0, 5⟩ : Term), (⟨1, 3⟩ : Term), (⟨2, 4⟩ : Term)])).1).map cI)), (11, .ref 4 4 0 0), (9, VI (((((⟨5, 0, 10, 2⟩ : Bucket).takeP 1 7).1).readyP 3).2)), (8, VI (((((⟨5, 0, 10, 2⟩ : Bucket).takeP 1 7).1).readyP 3).1)), (7, VI (((⟨5, 0, 10, 2⟩ : Bucket).takeP 1 8).2)), (5, VI (((⟨5, 0, 10, 2⟩ : Bucket).takeP 1 7).2)), (4, .ref 1 4 0 0), (3, VI (((⟨5, 0, 10, 2⟩ : Bucket).levelP 2).2)), (2, VI (((⟨5, 0, 10, 2⟩ : Bucket).levelP 2).1))], [some ⟨4, [[VI 5, VI 0, VI 10, VI 2]]⟩, some ⟨4, [[VI ((((⟨5, 0, 10, 2⟩ : Bucket).takeP 1 7).1).level), VI ((((⟨5, 0, 10, 2⟩ : Bucket).takeP 1 7).1).now), VI ((((⟨5, 0, 10, 2⟩ : Bucket).takeP 1 7).1).burst), VI ((((⟨5, 0, 10, 2⟩ : Bucket).takeP 1 7).1).rate)]]⟩, some ⟨4, [[VI ((((⟨5, 0, 10, 2⟩ : Bucket).takeP 1 8).1).level), VI ((((⟨5, 0, 10, 2⟩ : Bucket).takeP 1 8).1).now), VI ((((⟨5, 0, 10, 2⟩ : Bucket).takeP 1 8).1).burst), VI ((((⟨5, 0, 10, 2⟩ : Bucket).takeP 1 8).1).rate)]]⟩, none, some ⟨4, [[VI ((((⟨5, 0, 10, 2⟩ : Bucket).serveP ([(⟨0, 5⟩ : Term), (⟨1, 3⟩ : Term), (⟨2, 4⟩ : Term)])).2.1).level), VI ((((⟨5, 0, 10, 2⟩ : Bucket).serveP ([(⟨0, 5⟩ : Term), (⟨1, 3⟩ : Term), (⟨2, 4⟩ : Term)])).2.1).now), VI ((((⟨5, 0, 10, 2⟩ : Bucket).serveP ([(⟨0, 5⟩ : Term), (⟨1, 3⟩ : Term), (⟨2, 4⟩ : Term)])).2.1).burst), VI ((((⟨5, 0, 10, 2⟩ : Bucket).serveP ([(⟨0, 5⟩ : Term), (⟨1, 3⟩ : Term), (⟨2, 4⟩ : Term)])).2.1).rate)]]⟩]⟩) (by kernel_rfl) ?_
  have h3 : ((((((⟨5, 0, 10, 2⟩ : Bucket).takeP 1 7).1).level) == 0) && ((((((⟨5, 0, 10, 2⟩ : Bucket).takeP 1 7).1).now) == 1) && ((((((⟨5, 0, 10, 2⟩ : Bucket).takeP 1 7).1).burst) == 10) && ((((((⟨5, 0, 10, 2⟩ : Bucket).takeP 1 7).1).rate) == 2) && true)))) = true := by decide
  rw [h3]
  refine OW.run 4 (x' := ⟨[(59, .v (.bool ((((⟨5, 0, 10, 2⟩ : Bucket).takeP 1 7).2) == 0))), (58, .v (.bool ((((⟨5, 0, 10, 2⟩ : Bucket).takeP 1 7).2) == 0))), (57, .v (.bool ((((⟨5, 0, 10, 2⟩ : Bucket).takeP 1 7).2) == 0))), (56, VI (((⟨5, 0, 10, 2⟩ : Bucket).takeP 1 7).2)), (55, .v (.bool true)), (54, .v (.bool true)), (53, .v (.bool true)), (52, .agg [VI 0, VI 1, VI 10, VI 2]), (51, .agg [VI ((((⟨5, 0, 10, 2⟩ : Bucket).takeP 1 7).1).level), VI ((((⟨5, 0, 10, 2⟩ : Bucket).takeP 1 7).1).now), VI ((((⟨5, 0, 10, 2⟩ : Bucket).takeP 1 7).1).burst), VI ((((⟨5, 0, 10, 2⟩ : Bucket).takeP 1 7).1).rate)]), (50, .v (.bool true)), (49, .v (.bool true)), (48, .v (.bool true)), (47, VI (((⟨5, 0, 10, 2⟩ : Bucket).levelP 2).2)), (46, .v (.bool true)), (45, .v (.bool true)), (44, VI (((⟨5, 0, 10, 2⟩ : Bucket).levelP 2).1)), (12, VI (((⟨5, 0, 10, 2⟩ : Bucket).serveP ([(⟨0, 5⟩ : Term), (⟨1, 3⟩ : Term), (⟨2, 4⟩ : Term)])).2.2)), (10, .lst 1 ((((⟨5, 0, 10, 2⟩ : Bucket).serveP ([(⟨0, 5⟩ : Term), (⟨1, 3⟩ : Term), (⟨2, 4⟩ : Term)])).1).map cI)), (11, .ref 4 4 0 0), (9, VI (((((⟨5, 0, 10, 2⟩ : Bucket).takeP 1 7).1).readyP 3).2)), (8, VI (((((⟨5, 0, 10, 2⟩ : Bucket).takeP 1 7).1).readyP 3).1)), (7, VI (((⟨5, 0, 10, 2⟩ : Bucket).takeP 1 8).2)), (5, VI (((⟨5, 0, 10, 2⟩ : Bucket).takeP 1 7).2)), (4, .ref 1 4 0 0), (3, VI (((⟨5, 0, 10, 2⟩ : Bucket).levelP 2).2)), (2, VI (((⟨5, 0, 10, 2⟩ : Bucket).levelP 2).1))], [some ⟨4, [[VI 5, VI 0, VI 10, VI 2]]⟩, some ⟨4, [[VI ((((⟨5, 0, 10, 2⟩ : Bucket).takeP 1 7).1).level), VI ((((⟨5, 0, 10, 2⟩ : Bucket).takeP 1 7).1).now), VI ((((⟨5, 0, 10, 2⟩ : Bucket).takeP 1 7).1).burst), VI ((((⟨5, 0, 10, 2⟩ : Bucket).takeP 1 7).1).rate)]]⟩, some ⟨4, [[VI ((((⟨5, 0, 10, 2⟩ : Bucket).takeP 1 8).1).level), VI ((((⟨5, 0, 10, 2⟩ : Bucket).takeP 1 8).1).now), VI ((((⟨5, 0, 10, 2⟩ : Bucket).takeP 1 8).1).burst), VI ((((⟨5, 0, 10, 2⟩ : Bucket).takeP 1 8).1).rate)]]⟩, none, some ⟨4, [[VI ((((⟨5, 0, 10, 2⟩ : Bucket).serveP ([(⟨0, 5⟩ : Term), (⟨1, 3⟩ : Term), (⟨2, 4⟩ : Term)])).2.1).level), VI ((((⟨5, 0, 10, 2⟩ : Bucket).serveP ([(⟨0, 5⟩ : Term), (⟨1, 3⟩ : Term), (⟨2, 4⟩ : Term)])).2.1).now), VI ((((⟨5, 0, 10, 2⟩ : Bucket).serveP ([(⟨0, 5⟩ : Term), (⟨1, 3⟩ : Term), (⟨2, 4⟩ : Term)])).2.1).burst), VI ((((⟨5, 0, 10, 2⟩ : Bucket).serveP ([(⟨0, 5⟩ : Term), (⟨1, 3⟩ : Term), (⟨2, 4⟩ : Term)])).2.1).rate)]]⟩]⟩) (by kernel_rfl) ?_
  have h4 : ((((⟨5, 0, 10, 2⟩ : Bucket).takeP 1 7).2) == 0) = true := by decide
  rw [h4]
  refine OW.run 4 (x' := ⟨[(63, .v (.bool ((((⟨5, 0, 10, 2⟩ : Bucket).takeP 1 8).2) == 8))), (62, .v (.bool ((((⟨5, 0, 10, 2⟩ : Bucket).takeP 1 8).2) == 8))), (61, .v (.bool ((((⟨5, 0, 10, 2⟩ : Bucket).takeP 1 8).2) == 8))), (60, VI (((⟨5, 0, 10, 2⟩ : Bucket).takeP 1 8).2)), (59, .v (.bool true)), (58, .v (.bool true)), (57, .v (.bool true)), (56, VI (((⟨5, 0, 10, 2⟩ : Bucket).takeP 1 7).2)), (55, .v (.bool true)), (54, .v (.bool true)), (53, .v (.bool true)), (52, .agg [VI 0, VI 1, VI 10, VI 2]), (51, .agg [VI ((((⟨5, 0, 10, 2⟩ : Bucket).takeP 1 7).1).level), VI ((((⟨5, 0, 10, 2⟩ : Bucket).takeP 1 7).1).now), VI ((((⟨5, 0, 10, 2⟩ : Bucket).takeP 1 7).1).burst), VI ((((⟨5, 0, 10, 2⟩ : Bucket).takeP 1 7).1).rate)]), (50, .v (.bool true)), (49, .v (.bool true)), (48, .v (.bool true)), (47, VI (((⟨5, 0, 10, 2⟩ : Bucket).levelP 2).2)), (46, .v (.bool true)), (45, .v (.bool true)), (44, VI (((⟨5, 0, 10, 2⟩ : Bucket).levelP 2).1)), (12, VI (((⟨5, 0, 10, 2⟩ : Bucket).serveP ([(⟨0, 5⟩ : Term), (⟨1, 3⟩ : Term), (⟨2, 4⟩ : Term)])).2.2)), (10, .lst 1 ((((⟨5, 0, 10, 2⟩ : Bucket).serveP ([(⟨0, 5⟩ : Term), (⟨1, 3⟩ : Term), (⟨2, 4⟩ : Term)])).1).map cI)), (11, .ref 4 4 0 0), (9, VI (((((⟨5, 0, 10, 2⟩ : Bucket).takeP 1 7).1).readyP 3).2)), (8, VI (((((⟨5, 0, 10, 2⟩ : Bucket).takeP 1 7).1).readyP 3).1)), (7, VI (((⟨5, 0, 10, 2⟩ : Bucket).takeP 1 8).2)), (5, VI (((⟨5, 0, 10, 2⟩ : Bucket).takeP 1 7).2)), (4, .ref 1 4 0 0), (3, VI (((⟨5, 0, 10, 2⟩ : Bucket).levelP 2).2)), (2, VI (((⟨5, 0, 10, 2⟩ : Bucket).levelP 2).1))], [some ⟨4, [[VI 5, VI 0, VI 10, VI 2]]⟩, some ⟨4, [[VI ((((⟨5, 0, 10, 2⟩ : Bucket).takeP 1 7).1).level), VI ((((⟨5, 0, 10, 2⟩ : Bucket).takeP 1 7).1).now), VI ((((⟨5, 0, 10, 2⟩ : Bucket).takeP 1 7).1).burst), VI ((((⟨5, 0, 10, 2⟩ : Bucket).takeP 1 7).1).rate)]]⟩, some ⟨4, [[VI ((((⟨5, 0, 10, 2⟩ : Bucket).takeP 1 8).1).level), VI ((((⟨5, 0, 10, 2⟩ : Bucket).takeP 1 8).1).now), VI ((((⟨5, 0, 10, 2⟩ : Bucket).takeP 1 8).1).burst), VI ((((⟨5, 0, 10, 2⟩ : Bucket).takeP 1 8).1).rate)]]⟩, none, some ⟨4, [[VI ((((⟨5, 0, 10, 2⟩ : Bucket).serveP ([(⟨0, 5⟩ : Term), (⟨1, 3⟩ : Term), (⟨2, 4⟩ : Term)])).2.1).level), VI ((((⟨5, 0, 10, 2⟩ : Bucket).serveP ([(⟨0, 5⟩ : Term), (⟨1, 3⟩ : Term), (⟨2, 4⟩ : Term)])).2.1).now), VI ((((⟨5, 0, 10, 2⟩ : Bucket).serveP ([(⟨0, 5⟩ : Term), (⟨1, 3⟩ : Term), (⟨2, 4⟩ : Term)])).2.1).burst), VI ((((⟨5, 0, 10, 2⟩ : Bucket).serveP ([(⟨0, 5⟩ : Term), (⟨1, 3⟩ : Term), (⟨2, 4⟩ : Term)])).2.1).rate)]]⟩]⟩) (by kernel_rfl) ?_
  have h5 : ((((⟨5, 0, 10, 2⟩ : Bucket).takeP 1 8).2) == 8) = true := by decide
  rw [h5]
  refine OW.run 4 (x' := ⟨[(67, .v (.bool ((((((⟨5, 0, 10, 2⟩ : Bucket).takeP 1 7).1).readyP 3).1) == 3))), (66, .v (.bool ((((((⟨5, 0, 10, 2⟩ : Bucket).takeP 1 7).1).readyP 3).1) == 3))), (65, .v (.bool ((((((⟨5, 0, 10, 2⟩ : Bucket).takeP 1 7).1).readyP 3).1) == 3))), (64, VI (((((⟨5, 0, 10, 2⟩ : Bucket).takeP 1 7).1).readyP 3).1)), (63, .v (.bool true)), (62, .v (.bool true)), (61, .v (.bool true)), (60, VI (((⟨5, 0, 10, 2⟩ : Bucket).takeP 1 8).2)), (59, .v (.bool true)), (58, .v (.bool true)), (57, .v (.bool true)), (56, VI (((⟨5, 0, 10, 2⟩ : Bucket).takeP 1 7).2)), (55, .v (.bool true)), (54, .v (.bool true)), (53, .v (.bool true)), (52, .agg [VI 0, VI 1, VI 10, VI 2]), (51, .agg [VI ((((⟨5, 0, 10, 2⟩ : Bucket).takeP 1 7).1).level), VI ((((⟨5, 0, 10, 2⟩ : Bucket).takeP 1 7).1).now), VI ((((⟨5, 0, 10, 2⟩ : Bucket).takeP 1 7).1).burst), VI ((((⟨5, 0, 10, 2⟩ : Bucket).takeP 1 7).1).rate)]), (50, .v (.bool true)), (49, .v (.bool true)), (48, .v (.bool true)), (47, VI (((⟨5, 0, 10, 2⟩ : Bucket).levelP 2).2)), (46, .v (.bool true)), (45, .v (.bool true)), (44, VI (((⟨5, 0, 10, 2⟩ : Bucket).levelP 2).1)), (12, VI (((⟨5, 0, 10, 2⟩ : Bucket).serveP ([(⟨0, 5⟩ : Term), (⟨1, 3⟩ : Term), (⟨2, 4⟩ : Term)])).2.2)), (10, .lst 1 ((((⟨5, 0, 10, 2⟩ : Bucket).serveP ([(⟨0, 5⟩ : Term), (⟨1, 3⟩ : Term), (⟨2, 4⟩ : Term)])).1).map cI)), (11, .ref 4 4 0 0), (9, VI (((((⟨5, 0, 10, 2⟩ : Bucket).takeP 1 7).1).readyP 3).2)), (8, VI (((((⟨5, 0, 10, 2⟩ : Bucket).takeP 1 7).1).readyP 3).1)), (7, VI (((⟨5, 0, 10, 2⟩ : Bucket).takeP 1 8).2)), (5, VI (((⟨5, 0, 10, 2⟩ : Bucket).takeP 1 7).2)), (4, .ref 1 4 0 0), (3, VI (((⟨5, 0, 10, 2⟩ : Bucket).levelP 2).2)), (2, VI (((⟨5, 0, 10, 2⟩ : Bucket).levelP 2).1))], [some ⟨4, [[VI 5, VI 0, VI 10, VI 2]]⟩, some ⟨4, [[VI ((((⟨5, 0, 10, 2⟩ : Bucket).takeP 1 7).1).level), VI ((((⟨5, 0, 10, 2⟩ : Bucket).takeP 1 7).1).now), VI ((((⟨5, 0, 10, 2⟩ : Bucket).takeP 1 7).1).burst), VI ((((⟨5, 0, 10, 2⟩ : Bucket).takeP 1 7).1).rate)]]⟩, some ⟨4, [[VI ((((⟨5, 0, 10, 2⟩ : Bucket).takeP 1 8).1).level), VI ((((⟨5, 0, 10, 2⟩ : Bucket).takeP 1 8).1).now), VI ((((⟨5, 0, 10, 2⟩ : Bucket).takeP 1 8).1).burst), VI ((((⟨5, 0, 10, 2⟩ : Bucket).takeP 1 8).1).rate)]]⟩, none, some ⟨4, [[VI ((((⟨5, 0, 10, 2⟩ : Bucket).serveP ([(⟨0, 5⟩ : Term), (⟨1, 3⟩ : Term), (⟨2, 4⟩ : Term)])).2.1).level), VI ((((⟨5, 0, 10, 2⟩ : Bucket).serveP ([(⟨0, 5⟩ : Term), (⟨1, 3⟩ : Term), (⟨2, 4⟩ : Term)])).2.1).now), VI ((((⟨5, 0, 10, 2⟩ : Bucket).serveP ([(⟨0, 5⟩ : Term), (⟨1, 3⟩ : Term), (⟨2, 4⟩ : Term)])).2.1).burst), VI ((((⟨5, 0, 10, 2⟩ : Bucket).serveP ([(⟨0, 5⟩ : Term), (⟨1, 3⟩ : Term), (⟨2, 4⟩ : Term)])).2.1).rate)]]⟩]⟩) (by kernel_rfl) ?_
  have h6 : ((((((⟨5, 0, 10, 2⟩ : Bucket).takeP 1 7).1).readyP 3).1) == 3) = true := by decide
  rw [h6]
  refine OW.run 4 (x' := ⟨[(71, .v (.bool ((((((⟨5, 0, 10, 2⟩ : Bucket).takeP 1 7).1).readyP 3).2) == 0))), (70, .v (.bool ((((((⟨5, 0, 10, 2⟩ : Bucket).takeP 1 7).1).readyP 3).2) == 0))), (69, .v (.bool ((((((⟨5, 0, 10, 2⟩ : Bucket).takeP 1 7).1).readyP 3).2) == 0))), (68, VI (((((⟨5, 0, 10, 2⟩ : Bucket).takeP 1 7).1).readyP 3).2)), (67, .v (.bool true)), (66, .v (.bool true)), (65, .v (.bool true)), (64, VI (((((⟨5, 0, 10, 2⟩ : Bucket).takeP 1 7).1).readyP 3).1)), (63, .v (.bool true)), (62, .v (.bool true)), (61, .v (.bool true)), (60, VI (((⟨5, 0, 10, 2⟩ : Bucket).takeP 1 8).2)), (59, .v (.bool true)), (58, .v (.bool true)), (57, .v (.bool true)), (56, VI (((⟨5, 0, 10, 2⟩ : Bucket).takeP 1 7).2)), (55, .v (.bool true)), (54, .v (.bool true)), (53, .v (.bool true)), (52, .agg [VI 0, VI 1, VI 10, VI 2]), (51, .agg [VI ((((⟨5, 0, 10, 2⟩ : Bucket).takeP 1 7).1).level), VI ((((⟨5, 0, 10, 2⟩ : Bucket).takeP 1 7).1).now), VI ((((⟨5, 0, 10, 2⟩ : Bucket).takeP 1 7).1).burst), VI ((((⟨5, 0, 10, 2⟩ : Bucket).takeP 1 7).1).rate)]), (50, .v (.bool true)), (49, .v (.bool true)), (48, .v (.bool true)), (47, VI (((⟨5, 0, 10, 2⟩ : Bucket).levelP 2).2)), (46, .v (.bool true)), (45, .v (.bool true)), (44, VI (((⟨5, 0, 10, 2⟩ : Bucket).levelP 2).1)), (12, VI (((⟨5, 0, 10, 2⟩ : Bucket).serveP ([(⟨0, 5⟩ : Term), (⟨1, 3⟩ : Term), (⟨2, 4⟩ : Term)])).2.2)), (10, .lst 1 ((((⟨5, 0, 10, 2⟩ : Bucket).serveP ([(⟨0, 5⟩ : Term), (⟨1, 3⟩ : Term), (⟨2, 4⟩ : Term)])).1).map cI)), (11, .ref 4 4 0 0), (9, VI (((((⟨5, 0, 10, 2⟩ : Bucket).takeP 1 7).1).readyP 3).2)), (8, VI (((((⟨5, 0, 10, 2⟩ : Bucket).takeP 1 7).1).readyP 3).1)), (7, VI (((⟨5, 0, 10, 2⟩ : Bucket).takeP 1 8).2)), (5, VI (((⟨5, 0, 10, 2⟩ : Bucket).takeP 1 7).2)), (4, .ref 1 4 0 0), (3, VI (((⟨5, 0, 10, 2⟩ : Bucket).levelP 2).2)), (2, VI (((⟨5, 0, 10, 2⟩ : Bucket).levelP 2).1))], [some ⟨4, [[VI 5, VI 0, VI 10, VI 2]]⟩, some ⟨4, [[VI ((((⟨5, 0, 10, 2⟩ : Bucket).takeP 1 7).1).level), VI ((((⟨5, 0, 10, 2⟩ : Bucket).takeP 1 7).1).now), VI ((((⟨5, 0, 10, 2⟩ : Bucket).takeP 1 7).1).burst), VI ((((⟨5, 0, 10, 2⟩ : Bucket).takeP 1 7).1).rate)]]⟩, some ⟨4, [[VI ((((⟨5, 0, 10, 2⟩ : Bucket).takeP 1 8).1).level), VI ((((⟨5, 0, 10, 2⟩ : Bucket).takeP 1 8).1).now), VI ((((⟨5, 0, 10, 2⟩ : Bucket).takeP 1 8).1).burst), VI ((((⟨5, 0, 10, 2⟩ : Bucket).takeP 1 8).1).rate)]]⟩, none, some ⟨4, [[VI ((((⟨5, 0, 10, 2⟩ : Bucket).serveP ([(⟨0, 5⟩ : Term), (⟨1, 3⟩ : Term), (⟨2, 4⟩ : Term)])).2.1).level), VI ((((⟨5, 0, 10, 2⟩ : Bucket).serveP ([(⟨0, 5⟩ : Term), (⟨1, 3⟩ : Term), (⟨2, 4⟩ : Term)])).2.1).now), VI ((((⟨5, 0, 10, 2⟩ : Bucket).serveP ([(⟨0, 5⟩ : Term), (⟨1, 3⟩ : Term), (⟨2, 4⟩ : Term)])).2.1).burst), VI ((((⟨5, 0, 10, 2⟩ : Bucket).serveP ([(⟨0, 5⟩ : Term), (⟨1, 3⟩ : Term), (⟨2, 4⟩ : Term)])).2.1).rate)]]⟩]⟩) (by kernel_rfl) ?_
  have h7 : ((((((⟨5, 0, 10, 2⟩ : Bucket).takeP 1 7).1).readyP 3).2) == 0) = true := by decide
  rw [h7]
  refine OW.run 4 (x' := ⟨[(75, .v (.bool ((((⟨5, 0, 10, 2⟩ : Bucket).serveP ([(⟨0, 5⟩ : Term), (⟨1, 3⟩ : Term), (⟨2, 4⟩ : Term)])).2.2) == 0))), (74, .v (.bool ((((⟨5, 0, 10, 2⟩ : Bucket).serveP ([(⟨0, 5⟩ : Term), (⟨1, 3⟩ : Term), (⟨2, 4⟩ : Term)])).2.2) == 0))), (73, .v (.bool ((((⟨5, 0, 10, 2⟩ : Bucket).serveP ([(⟨0, 5⟩ : Term), (⟨1, 3⟩ : Term), (⟨2, 4⟩ : Term)])).2.2) == 0))), (72, VI (((⟨5, 0, 10, 2⟩ : Bucket).serveP ([(⟨0, 5⟩ : Term), (⟨1, 3⟩ : Term), (⟨2, 4⟩ : Term)])).2.2)), (71, .v (.bool true)), (70, .v (.bool true)), (69, .v (.bool true)), (68, VI (((((⟨5, 0, 10, 2⟩ : Bucket).takeP 1 7).1).readyP 3).2)), (67, .v (.bool true)), (66, .v (.bool true)), (65, .v (.bool true)), (64, VI (((((⟨5, 0, 10, 2⟩ : Bucket).takeP 1 7).1).readyP 3).1)), (63, .v (.bool true)), (62, .v (.bool true)), (61, .v (.bool true)), (60, VI (((⟨5, 0, 10, 2⟩ : Bucket).takeP 1 8).2)), (59, .v (.bool true)), (58, .v (.bool true)), (57, .v (.bool true)), (56, VI (((⟨5, 0, 10, 2⟩ : Bucket).takeP 1 7).2)), (55, .v (.bool true)), (54, .v (.bool true)), (53, .v (.bool true)), (52, .agg [VI 0, VI 1, VI 10, VI 2]), (51, .agg [VI ((((⟨5, 0, 10, 2⟩ : Bucket).takeP 1 7).1).level), VI ((((⟨5, 0, 10, 2⟩ : Bucket).takeP 1 7).1).now), VI ((((⟨5, 0, 10, 2⟩ : Bucket).takeP 1 7).1).burst), VI ((((⟨5, 0, 10, 2⟩ : Bucket).takeP 1 7).1).rate)]), (50, .v (.bool true)), (49, .v (.bool true)), (48, .v (.bool true)), (47, VI (((⟨5, 0, 10, 2⟩ : Bucket).levelP 2).2)), (46, .v (.bool true)), (45, .v (.bool true)), (44, VI (((⟨5, 0, 10, 2⟩ : Bucket).levelP 2).1)), (12, VI (((⟨5, 0, 10, 2⟩ : Bucket).serveP ([(⟨0, 5⟩ : Term), (⟨1, 3⟩ : Term), (⟨2, 4⟩ : Term)])).2.2)), (10, .lst 1 ((((⟨5, 0, 10, 2⟩ : Bucket).serveP ([(⟨0, 5⟩ : Term), (⟨1, 3⟩ : Term), (⟨2, 4⟩ : Term)])).1).map cI)), (11, .ref 4 4 0 0), (9, VI (((((⟨5, 0, 10, 2⟩ : Bucket).takeP 1 7).1).readyP 3).2)), (8, VI (((((⟨5, 0, 10, 2⟩ : Bucket).takeP 1 7).1).readyP 3).1)), (7, VI (((⟨5, 0, 10, 2⟩ : Bucket).takeP 1 8).2)), (5, VI (((⟨5, 0, 10, 2⟩ : Bucket).takeP 1 7).2)), (4, .ref 1 4 0 0), (3, VI (((⟨5, 0, 10, 2⟩ : Bucket).levelP 2).2)), (2, VI (((⟨5, 0, 10, 2⟩ : Bucket).levelP 2).1))], [some ⟨4, [[VI 5, VI 0, VI 10, VI 2]]⟩, some ⟨4, [[VI ((((⟨5, 0, 10, 2⟩ : Bucket).takeP 1 7).1).level), VI ((((⟨5, 0, 10, 2⟩ : Bucket).takeP 1 7).1).now), VI ((((⟨5, 0, 10, 2⟩ : Bucket).takeP 1 7).1).burst), VI ((((⟨5, 0, 10, 2⟩ : Bucket).takeP 1 7).1).rate)]]⟩, some ⟨4, [[VI ((((⟨5, 0, 10, 2⟩ : Bucket).takeP 1 8).1).level), VI ((((⟨5, 0, 10, 2⟩ : Bucket).takeP 1 8).1).now), VI ((((⟨5, 0, 10, 2⟩ : Bucket).takeP 1 8).1).burst), VI ((((⟨5, 0, 10, 2⟩ : Bucket).takeP 1 8).1).rate)]]⟩, none, some ⟨4, [[VI ((((⟨5, 0, 10, 2⟩ : Bucket).serveP ([(⟨0, 5⟩ : Term), (⟨1, 3⟩ : Term), (⟨2, 4⟩ : Term)])).2.1).level), VI ((((⟨5, 0, 10, 2⟩ : Bucket).serveP ([(⟨0, 5⟩ : Term), (⟨1, 3⟩ : Term), (⟨2, 4⟩ : Term)])).2.1).now), VI ((((⟨5, 0, 10, 2⟩ : Bucket).serveP ([(⟨0, 5⟩ : Term), (⟨1, 3⟩ : Term), (⟨2, 4⟩ : Term)])).2.1).burst), VI ((((⟨5, 0, 10, 2⟩ : Bucket).serveP ([(⟨0, 5⟩ : Term), (⟨1, 3⟩ : Term), (⟨2, 4⟩ : Term)])).2.1).rate)]]⟩]⟩) (by kernel_rfl) ?_
  have h8 : ((((⟨5, 0, 10, 2⟩ : Bucket).serveP ([(⟨0, 5⟩ : Term), (⟨1, 3⟩ : Term), (⟨2, 4⟩ : Term)])).2.2) == 0) = true := by decide
  rw [h8]
  refine OW.run 2 (x' := ⟨[(77, .own 5 1 0 2), (76, .lst 1 ((((⟨5, 0, 10, 2⟩ : Bucket).serveP ([(⟨0, 5⟩ : Term), (⟨1, 3⟩ : Term), (⟨2, 4⟩ : Term)])).1).map cI)), (75, .v (.bool true)), (74, .v (.bool true)), (73, .v (.bool true)), (72, VI (((⟨5, 0, 10, 2⟩ : Bucket).serveP ([(⟨0, 5⟩ : Term), (⟨1, 3⟩ : Term), (⟨2, 4⟩ : Term)])).2.2)), (71, .v (.bool true)), (70, .v (.bool true)), (69, .v (.bool true)), (68, VI (((((⟨5, 0, 10, 2⟩ : Bucket).takeP 1 7).1).readyP 3).2)), (67, .v (.bool true)), (66, .v (.bool true)), (65, .v (.bool true)), (64, VI (((((⟨5, 0, 10, 2⟩ : Bucket).takeP 1 7).1).readyP 3).1)), (63, .v (.bool true)), (62, .v (.bool true)), (61, .v (.bool true)), (60, VI (((⟨5, 0, 10, 2⟩ : Bucket).takeP 1 8).2)), (59, .v (.bool true)), (58, .v (.bool true)), (57, .v (.bool true)), (56, VI (((⟨5, 0, 10, 2⟩ : Bucket).takeP 1 7).2)), (55, .v (.bool true)), (54, .v (.bool true)), (53, .v (.bool true)), (52, .agg [VI 0, VI 1, VI 10, VI 2]), (51, .agg [VI ((((⟨5, 0, 10, 2⟩ : Bucket).takeP 1 7).1).level), VI ((((⟨5, 0, 10, 2⟩ : Bucket).takeP 1 7).1).now), VI ((((⟨5, 0, 10, 2⟩ : Bucket).takeP 1 7).1).burst), VI ((((⟨5, 0, 10, 2⟩ : Bucket).takeP 1 7).1).rate)]), (50, .v (.bool true)), (49, .v (.bool true)), (48, .v (.bool true)), (47, VI (((⟨5, 0, 10, 2⟩ : Bucket).levelP 2).2)), (46, .v (.bool true)), (45, .v (.bool true)), (44, VI (((⟨5, 0, 10, 2⟩ : Bucket).levelP 2).1)), (12, VI (((⟨5, 0, 10, 2⟩ : Bucket).serveP ([(⟨0, 5⟩ : Term), (⟨1, 3⟩ : Term), (⟨2, 4⟩ : Term)])).2.2)), (10, .lst 1 ((((⟨5, 0, 10, 2⟩ : Bucket).serveP ([(⟨0, 5⟩ : Term), (⟨1, 3⟩ : Term), (⟨2, 4⟩ : Term)])).1).map cI)), (11, .ref 4 4 0 0), (9, VI (((((⟨5, 0, 10, 2⟩ : Bucket).takeP 1 7).1).readyP 3).2)), (8, VI (((((⟨5, 0, 10, 2⟩ : Bucket).takeP 1 7).1).readyP 3).1)), (7, VI (((⟨5, 0, 10, 2⟩ : Bucket).takeP 1 8).2)), (5, VI (((⟨5, 0, 10, 2⟩ : Bucket).takeP 1 7).2)), (4, .ref 1 4 0 0), (3, VI (((⟨5, 0, 10, 2⟩ : Bucket).levelP 2).2)), (2, VI (((⟨5, 0, 10, 2⟩ : Bucket).levelP 2).1))], [some ⟨4, [[VI 5, VI 0, VI 10, VI 2]]⟩, some ⟨4, [[VI ((((⟨5, 0, 10, 2⟩ : Bucket).takeP 1 7).1).level), VI ((((⟨5, 0, 10, 2⟩ : Bucket).takeP 1 7).1).now), VI ((((⟨5, 0, 10, 2⟩ : Bucket).takeP 1 7).1).burst), VI ((((⟨5, 0, 10, 2⟩ : Bucket).takeP 1 7).1).rate)]]⟩, some ⟨4, [[VI ((((⟨5, 0, 10, 2⟩ : Bucket).takeP 1 8).1).level), VI ((((⟨5, 0, 10, 2⟩ : Bucket).takeP 1 8).1).now), VI ((((⟨5, 0, 10, 2⟩ : Bucket).takeP 1 8).1).burst), VI ((((⟨5, 0, 10, 2⟩ : Bucket).takeP 1 8).1).rate)]]⟩, none, some ⟨4, [[VI ((((⟨5, 0, 10, 2⟩ : Bucket).serveP ([(⟨0, 5⟩ : Term), (⟨1, 3⟩ : Term), (⟨2, 4⟩ : Term)])).2.1).level), VI ((((⟨5, 0, 10, 2⟩ : Bucket).serveP ([(⟨0, 5⟩ : Term), (⟨1, 3⟩ : Term), (⟨2, 4⟩ : Term)])).2.1).now), VI ((((⟨5, 0, 10, 2⟩ : Bucket).serveP ([(⟨0, 5⟩ : Term), (⟨1, 3⟩ : Term), (⟨2, 4⟩ : Term)])).2.1).burst), VI ((((⟨5, 0, 10, 2⟩ : Bucket).serveP ([(⟨0, 5⟩ : Term), (⟨1, 3⟩ : Term), (⟨2, 4⟩ : Term)])).2.1).rate)]]⟩, some ⟨1, [[VI 0], [VI 2]]⟩]⟩) (by kernel_rfl) ?_
  refine OW.fn (ar := [.lst 1 ((((⟨5, 0, 10, 2⟩ : Bucket).serveP ([(⟨0, 5⟩ : Term), (⟨1, 3⟩ : Term), (⟨2, 4⟩ : Term)])).1).map cI), .own 5 1 0 2]) (x' := ⟨[(78, .v (.bool (decide ((((⟨5, 0, 10, 2⟩ : Bucket).serveP ([(⟨0, 5⟩ : Term), (⟨1, 3⟩ : Term), (⟨2, 4⟩ : Term)])).1) = ([0, 2]))))), (77, .own 5 1 0 2), (76, .lst 1 ((((⟨5, 0, 10, 2⟩ : Bucket).serveP ([(⟨0, 5⟩ : Term), (⟨1, 3⟩ : Term), (⟨2, 4⟩ : Term)])).1).map cI)), (75, .v (.bool true)), (74, .v (.bool true)), (73, .v (.bool true)), (72, VI (((⟨5, 0, 10, 2⟩ : Bucket).serveP ([(⟨0, 5⟩ : Term), (⟨1, 3⟩ : Term), (⟨2, 4⟩ : Term)])).2.2)), (71, .v (.bool true)), (70, .v (.bool true)), (69, .v (.bool true)), (68, VI (((((⟨5, 0, 10, 2⟩ : Bucket).takeP 1 7).1).readyP 3).2)), (67, .v (.bool true)), (66, .v (.bool true)), (65, .v (.bool true)), (64, VI (((((⟨5, 0, 10, 2⟩ : Bucket).takeP 1 7).1).readyP 3).1)), (63, .v (.bool true)), (62, .v (.bool true)), (61, .v (.bool true)), (60, VI (((⟨5, 0, 10, 2⟩ : Bucket).takeP 1 8).2)), (59, .v (.bool true)), (58, .v (.bool true)), (57, .v (.bool true)), (56, VI (((⟨5, 0, 10, 2⟩ : Bucket).takeP 1 7).2)), (55, .v (.bool true)), (54, .v (.bool true)), (53, .v (.bool true)), (52, .agg [VI 0, VI 1, VI 10, VI 2]), (51, .agg [VI ((((⟨5, 0, 10, 2⟩ : Bucket).takeP 1 7).1).level), VI ((((⟨5, 0, 10, 2⟩ : Bucket).takeP 1 7).1).now), VI ((((⟨5, 0, 10, 2⟩ : Bucket).takeP 1 7).1).burst), VI ((((⟨5, 0, 10, 2⟩ : Bucket).takeP 1 7).1).rate)]), (50, .v (.bool true)), (49, .v (.bool true)), (48, .v (.bool true)), (47, VI (((⟨5, 0, 10, 2⟩ : Bucket).levelP 2).2)), (46, .v (.bool true)), (45, .v (.bool true)), (44, VI (((⟨5, 0, 10, 2⟩ : Bucket).levelP 2).1)), (12, VI (((⟨5, 0, 10, 2⟩ : Bucket).serveP ([(⟨0, 5⟩ : Term), (⟨1, 3⟩ : Term), (⟨2, 4⟩ : Term)])).2.2)), (10, .lst 1 ((((⟨5, 0, 10, 2⟩ : Bucket).serveP ([(⟨0, 5⟩ : Term), (⟨1, 3⟩ : Term), (⟨2, 4⟩ : Term)])).1).map cI)), (11, .ref 4 4 0 0), (9, VI (((((⟨5, 0, 10, 2⟩ : Bucket).takeP 1 7).1).readyP 3).2)), (8, VI (((((⟨5, 0, 10, 2⟩ : Bucket).takeP 1 7).1).readyP 3).1)), (7, VI (((⟨5, 0, 10, 2⟩ : Bucket).takeP 1 8).2)), (5, VI (((⟨5, 0, 10, 2⟩ : Bucket).takeP 1 7).2)), (4, .ref 1 4 0 0), (3, VI (((⟨5, 0, 10, 2⟩ : Bucket).levelP 2).2)), (2, VI (((⟨5, 0, 10, 2⟩ : Bucket).levelP 2).1))], [some ⟨4, [[VI 5, VI 0, VI 10, VI 2]]⟩, some ⟨4, [[VI ((((⟨5, 0, 10, 2⟩ : Bucket).takeP 1 7).1).level), VI ((((⟨5, 0, 10, 2⟩ : Bucket).takeP 1 7).1).now), VI ((((⟨5, 0, 10, 2⟩ : Bucket).takeP 1 7).1).burst), VI ((((⟨5, 0, 10, 2⟩ : Bucket).takeP 1 7).1).rate)]]⟩, some ⟨4, [[VI ((((⟨5, 0, 10, 2⟩ : Bucket).takeP 1 8).1).level), VI ((((⟨5, 0, 10, 2⟩ : Bucket).takeP 1 8).1).now), VI ((((⟨5, 0, 10, 2⟩ : Bucket).takeP 1 8).1).burst), VI ((((⟨5, 0, 10, 2⟩ : Bucket).takeP 1 8).1).rate)]]⟩, none, some ⟨4, [[VI ((((⟨5, 0, 10, 2⟩ : Bucket).serveP ([(⟨0, 5⟩ : Term), (⟨1, 3⟩ : Term), (⟨2, 4⟩ : Term)])).2.1).level), VI ((((⟨5, 0, 10, 2⟩ : Bucket).serveP ([(⟨0, 5⟩ : Term), (⟨1, 3⟩ : Term), (⟨2, 4⟩ : Term)])).2.1).now), VI ((((⟨5, 0, 10, 2⟩ : Bucket).serveP ([(⟨0, 5⟩ : Term), (⟨1, 3⟩ : Term), (⟨2, 4⟩ : Term)])).2.1).burst), VI ((((⟨5, 0, 10, 2⟩ : Bucket).serveP ([(⟨0, 5⟩ : Term), (⟨1, 3⟩ : Term), (⟨2, 4⟩ : Term)])).2.1).rate)]]⟩, some ⟨1, [[VI 0], [VI 2]]⟩]⟩) (by kernel_rfl) (by kernel_rfl) F20_call (sameInts_fn (((⟨5, 0, 10, 2⟩ : Bucket).serveP ([(⟨0, 5⟩ : Term), (⟨1, 3⟩ : Term), (⟨2, 4⟩ : Term)])).1) ([0, 2]) (by first | omega | decide)) (by kernel_rfl) (by kernel_rfl) ?_
  refine OW.run 2 (x' := ⟨[(80, .v (.bool (decide ((((⟨5, 0, 10, 2⟩ : Bucket).serveP ([(⟨0, 5⟩ : Term), (⟨1, 3⟩ : Term), (⟨2, 4⟩ : Term)])).1) = ([0, 2]))))), (79, .v (.bool (decide ((((⟨5, 0, 10, 2⟩ : Bucket).serveP ([(⟨0, 5⟩ : Term), (⟨1, 3⟩ : Term), (⟨2, 4⟩ : Term)])).1) = ([0, 2]))))), (78, .v (.bool (decide ((((⟨5, 0, 10, 2⟩ : Bucket).serveP ([(⟨0, 5⟩ : Term), (⟨1, 3⟩ : Term), (⟨2, 4⟩ : Term)])).1) = ([0, 2]))))), (77, .own 5 1 0 2), (76, .lst 1 ((((⟨5, 0, 10, 2⟩ : Bucket).serveP ([(⟨0, 5⟩ : Term), (⟨1, 3⟩ : Term), (⟨2, 4⟩ : Term)])).1).map cI)), (75, .v (.bool true)), (74, .v (.bool true)), (73, .v (.bool true)), (72, VI (((⟨5, 0, 10, 2⟩ : Bucket).serveP ([(⟨0, 5⟩ : Term), (⟨1, 3⟩ : Term), (⟨2, 4⟩ : Term)])).2.2)), (71, .v (.bool true)), (70, .v (.bool true)), (69, .v (.bool true)), (68, VI (((((⟨5, 0, 10, 2⟩ : Bucket).takeP 1 7).1).readyP 3).2)), (67, .v (.bool true)), (66, .v (.bool true)), (65, .v (.bool true)), (64, VI (((((⟨5, 0, 10, 2⟩ : Bucket).takeP 1 7).1).readyP 3).1)), (63, .v (.bool true)), (62, .v (.bool true)), (61, .v (.bool true)), (60, VI (((⟨5, 0, 10, 2⟩ : Bucket).takeP 1 8).2)), (59, .v (.bool true)), (58, .v (.bool true)), (57, .v (.bool true)), (56, VI (((⟨5, 0, 10, 2⟩ : Bucket).takeP 1 7).2)), (55, .v (.bool true)), (54, .v (.bool true)), (53, .v (.bool true)), (52, .agg [VI 0, VI 1, VI 10, VI 2]), (51, .agg [VI ((((⟨5, 0, 10, 2⟩ : Bucket).takeP 1 7).1).level), VI ((((⟨5, 0, 10, 2⟩ : Bucket).takeP 1 7).1).now), VI ((((⟨5, 0, 10, 2⟩ : Bucket).takeP 1 7).1).burst), VI ((((⟨5, 0, 10, 2⟩ : Bucket).takeP 1 7).1).rate)]), (50, .v (.bool true)), (49, .v (.bool true)), (48, .v (.bool true)), (47, VI (((⟨5, 0, 10, 2⟩ : Bucket).levelP 2).2)), (46, .v (.bool true)), (45, .v (.bool true)), (44, VI (((⟨5, 0, 10, 2⟩ : Bucket).levelP 2).1)), (12, VI (((⟨5, 0, 10, 2⟩ : Bucket).serveP ([(⟨0, 5⟩ : Term), (⟨1, 3⟩ : Term), (⟨2, 4⟩ : Term)])).2.2)), (10, .lst 1 ((((⟨5, 0, 10, 2⟩ : Bucket).serveP ([(⟨0, 5⟩ : Term), (⟨1, 3⟩ : Term), (⟨2, 4⟩ : Term)])).1).map cI)), (11, .ref 4 4 0 0), (9, VI (((((⟨5, 0, 10, 2⟩ : Bucket).takeP 1 7).1).readyP 3).2)), (8, VI (((((⟨5, 0, 10, 2⟩ : Bucket).takeP 1 7).1).readyP 3).1)), (7, VI (((⟨5, 0, 10, 2⟩ : Bucket).takeP 1 8).2)), (5, VI (((⟨5, 0, 10, 2⟩ : Bucket).takeP 1 7).2)), (4, .ref 1 4 0 0), (3, VI (((⟨5, 0, 10, 2⟩ : Bucket).levelP 2).2)), (2, VI (((⟨5, 0, 10, 2⟩ : Bucket).levelP 2).1))], [some ⟨4, [[VI 5, VI 0, VI 10, VI 2]]⟩, some ⟨4, [[VI ((((⟨5, 0, 10, 2⟩ : Bucket).takeP 1 7).1).level), VI ((((⟨5, 0, 10, 2⟩ : Bucket).takeP 1 7).1).now), VI ((((⟨5, 0, 10, 2⟩ : Bucket).takeP 1 7).1).burst), VI ((((⟨5, 0, 10, 2⟩ : Bucket).takeP 1 7).1).rate)]]⟩, some ⟨4, [[VI ((((⟨5, 0, 10, 2⟩ : Bucket).takeP 1 8).1).level), VI ((((⟨5, 0, 10, 2⟩ : Bucket).takeP 1 8).1).now), VI ((((⟨5, 0, 10, 2⟩ : Bucket).takeP 1 8).1).burst), VI ((((⟨5, 0, 10, 2⟩ : Bucket).takeP 1 8).1).rate)]]⟩, none, some ⟨4, [[VI ((((⟨5, 0, 10, 2⟩ : Bucket).serveP ([(⟨0, 5⟩ : Term), (⟨1, 3⟩ : Term), (⟨2, 4⟩ : Term)])).2.1).level), VI ((((⟨5, 0, 10, 2⟩ : Bucket).serveP ([(⟨0, 5⟩ : Term), (⟨1, 3⟩ : Term), (⟨2, 4⟩ : Term)])).2.1).now), VI ((((⟨5, 0, 10, 2⟩ : Bucket).serveP ([(⟨0, 5⟩ : Term), (⟨1, 3⟩ : Term), (⟨2, 4⟩ : Term)])).2.1).burst), VI ((((⟨5, 0, 10, 2⟩ : Bucket).serveP ([(⟨0, 5⟩ : Term), (⟨1, 3⟩ : Term), (⟨2, 4⟩ : Term)])).2.1).rate)]]⟩, some ⟨1, [[VI 0], [VI 2]]⟩]⟩) (by kernel_rfl) ?_
  have h9 : decide ((((⟨5, 0, 10, 2⟩ : Bucket).serveP ([(⟨0, 5⟩ : Term), (⟨1, 3⟩ : Term), (⟨2, 4⟩ : Term)])).1) = ([0, 2])) = true := by decide
  rw [h9]
  refine OW.run 5 (x' := ⟨[(85, .v (.bool (((((⟨5, 0, 10, 2⟩ : Bucket).serveP ([(⟨0, 5⟩ : Term), (⟨1, 3⟩ : Term), (⟨2, 4⟩ : Term)])).2.1).level) == 0))), (84, .v (.bool (((((⟨5, 0, 10, 2⟩ : Bucket).serveP ([(⟨0, 5⟩ : Term), (⟨1, 3⟩ : Term), (⟨2, 4⟩ : Term)])).2.1).level) == 0))), (83, .v (.bool (((((⟨5, 0, 10, 2⟩ : Bucket).serveP ([(⟨0, 5⟩ : Term), (⟨1, 3⟩ : Term), (⟨2, 4⟩ : Term)])).2.1).level) == 0))), (82, VI ((((⟨5, 0, 10, 2⟩ : Bucket).serveP ([(⟨0, 5⟩ : Term), (⟨1, 3⟩ : Term), (⟨2, 4⟩ : Term)])).2.1).level)), (81, .ref 4 4 0 0), (80, .v (.bool true)), (79, .v (.bool true)), (78, .v (.bool true)), (77, .own 5 1 0 2), (76, .lst 1 ((((⟨5, 0, 10, 2⟩ : Bucket).serveP ([(⟨0, 5⟩ : Term), (⟨1, 3⟩ : Term), (⟨2, 4⟩ : Term)])).1).map cI)), (75, .v (.bool true)), (74, .v (.bool true)), (73, .v (.bool true)), (72, VI (((⟨5, 0, 10, 2⟩ : Bucket).serveP ([(⟨0, 5⟩ : Term), (⟨1, 3⟩ : Term), (⟨2, 4⟩ : Term)])).2.2)), (71, .v (.bool true)), (70, .v (.bool true)), (69, .v (.bool true)), (68, VI (((((⟨5, 0, 10, 2⟩ : Bucket).takeP 1 7).1).readyP 3).2)), (67, .v (.bool true)), (66, .v (.bool true)), (65, .v (.bool true)), (64, VI (((((⟨5, 0, 10, 2⟩ : Bucket).takeP 1 7).1).readyP 3).1)), (63, .v (.bool true)), (62, .v (.bool true)), (61, .v (.bool true)), (60, VI (((⟨5, 0, 10, 2⟩ : Bucket).takeP 1 8).2)), (59, .v (.bool true)), (58, .v (.bool true)), (57, .v (.bool true)), (56, VI (((⟨5, 0, 10, 2⟩ : Bucket).takeP 1 7).2)), (55, .v (.bool true)), (54, .v (.bool true)), (53, .v (.bool true)), (52, .agg [VI 0, VI 1, VI 10, VI 2]), (51, .agg [VI ((((⟨5, 0, 10, 2⟩ : Bucket).takeP 1 7).1).level), VI ((((⟨5, 0, 10, 2⟩ : Bucket).takeP 1 7).1).now), VI ((((⟨5, 0, 10, 2⟩ : Bucket).takeP 1 7).1).burst), VI ((((⟨5, 0, 10, 2⟩ : Bucket).takeP 1 7).1).rate)]), (50, .v (.bool true)), (49, .v (.bool true)), (48, .v (.bool true)), (47, VI (((⟨5, 0, 10, 2⟩ : Bucket).levelP 2).2)), (46, .v (.bool true)), (45, .v (.bool true)), (44, VI (((⟨5, 0, 10, 2⟩ : Bucket).levelP 2).1)), (12, VI (((⟨5, 0, 10, 2⟩ : Bucket).serveP ([(⟨0, 5⟩ : Term), (⟨1, 3⟩ : Term), (⟨2, 4⟩ : Term)])).2.2)), (10, .lst 1 ((((⟨5, 0, 10, 2⟩ : Bucket).serveP ([(⟨0, 5⟩ : Term), (⟨1, 3⟩ : Term), (⟨2, 4⟩ : Term)])).1).map cI)), (11, .ref 4 4 0 0), (9, VI (((((⟨5, 0, 10, 2⟩ : Bucket).takeP 1 7).1).readyP 3).2)), (8, VI (((((⟨5, 0, 10, 2⟩ : Bucket).takeP 1 7).1).readyP 3).1)), (7, VI (((⟨5, 0, 10, 2⟩ : Bucket).takeP 1 8).2)), (5, VI (((⟨5, 0, 10, 2⟩ : Bucket).takeP 1 7).2)), (4, .ref 1 4 0 0), (3, VI (((⟨5, 0, 10, 2⟩ : Bucket).levelP 2).2)), (2, VI (((⟨5, 0, 10, 2⟩ : Bucket).levelP 2).1))], [some ⟨4, [[VI 5, VI 0, VI 10, VI 2]]⟩, some ⟨4, [[VI ((((⟨5, 0, 10, 2⟩ : Bucket).takeP 1 7).1).level), VI ((((⟨5, 0, 10, 2⟩ : Bucket).takeP 1 7).1).now), VI ((((⟨5, 0, 10, 2⟩ : Bucket).takeP 1 7).1).burst), VI ((((⟨5, 0, 10, 2⟩ : Bucket).takeP 1 7).1).rate)]]⟩, some ⟨4, [[VI ((((⟨5, 0, 10, 2⟩ : Bucket).takeP 1 8).1).level), VI ((((⟨5, 0, 10, 2⟩ : Bucket).takeP 1 8).1).now), VI ((((⟨5, 0, 10, 2⟩ : Bucket).takeP 1 8).1).burst), VI ((((⟨5, 0, 10, 2⟩ : Bucket).takeP 1 8).1).rate)]]⟩, none, some ⟨4, [[VI ((((⟨5, 0, 10, 2⟩ : Bucket).serveP ([(⟨0, 5⟩ : Term), (⟨1, 3⟩ : Term), (⟨2, 4⟩ : Term)])).2.1).level), VI ((((⟨5, 0, 10, 2⟩ : Bucket).serveP ([(⟨0, 5⟩ : Term), (⟨1, 3⟩ : Term), (⟨2, 4⟩ : Term)])).2.1).now), VI ((((⟨5, 0, 10, 2⟩ : Bucket).serveP ([(⟨0, 5⟩ : Term), (⟨1, 3⟩ : Term), (⟨2, 4⟩ : Term)])).2.1).burst), VI ((((⟨5, 0, 10, 2⟩ : Bucket).serveP ([(⟨0, 5⟩ : Term), (⟨1, 3⟩ : Term), (⟨2, 4⟩ : Term)])).2.1).rate)]]⟩, some ⟨1, [[VI 0], [VI 2]]⟩]⟩) (by kernel_rfl) ?_
  have h10 : (((((⟨5, 0, 10, 2⟩ : Bucket).serveP ([(⟨0, 5⟩ : Term), (⟨1, 3⟩ : Term), (⟨2, 4⟩ : Term)])).2.1).level) == 0) = true := by decide
  rw [h10]
  refine OW.run 1 (x' := ⟨[(86, .agg [VI 0, VI 0, VI 0, VI 0]), (85, .v (.bool true)), (84, .v (.bool true)), (83, .v (.bool true)), (82, VI ((((⟨5, 0, 10, 2⟩ : Bucket).serveP ([(⟨0, 5⟩ : Term), (⟨1, 3⟩ : Term), (⟨2, 4⟩ : Term)])).2.1).level)), (81, .ref 4 4 0 0), (80, .v (.bool true)), (79, .v (.bool true)), (78, .v (.bool true)), (77, .own 5 1 0 2), (76, .lst 1 ((((⟨5, 0, 10, 2⟩ : Bucket).serveP ([(⟨0, 5⟩ : Term), (⟨1, 3⟩ : Term), (⟨2, 4⟩ : Term)])).1).map cI)), (75, .v (.bool true)), (74, .v (.bool true)), (73, .v (.bool true)), (72, VI (((⟨5, 0, 10, 2⟩ : Bucket).serveP ([(⟨0, 5⟩ : Term), (⟨1, 3⟩ : Term), (⟨2, 4⟩ : Term)])).2.2)), (71, .v (.bool true)), (70, .v (.bool true)), (69, .v (.bool true)), (68, VI (((((⟨5, 0, 10, 2⟩ : Bucket).takeP 1 7).1).readyP 3).2)), (67, .v (.bool true)), (66, .v (.bool true)), (65, .v (.bool true)), (64, VI (((((⟨5, 0, 10, 2⟩ : Bucket).takeP 1 7).1).readyP 3).1)), (63, .v (.bool true)), (62, .v (.bool true)), (61, .v (.bool true)), (60, VI (((⟨5, 0, 10, 2⟩ : Bucket).takeP 1 8).2)), (59, .v (.bool true)), (58, .v (.bool true)), (57, .v (.bool true)), (56, VI (((⟨5, 0, 10, 2⟩ : Bucket).takeP 1 7).2)), (55, .v (.bool true)), (54, .v (.bool true)), (53, .v (.bool true)), (52, .agg [VI 0, VI 1, VI 10, VI 2]), (51, .agg [VI ((((⟨5, 0, 10, 2⟩ : Bucket).takeP 1 7).1).level), VI ((((⟨5, 0, 10, 2⟩ : Bucket).takeP 1 7).1).now), VI ((((⟨5, 0, 10, 2⟩ : Bucket).takeP 1 7).1).burst), VI ((((⟨5, 0, 10, 2⟩ : Bucket).takeP 1 7).1).rate)]), (50, .v (.bool true)), (49, .v (.bool true)), (48, .v (.bool true)), (47, VI (((⟨5, 0, 10, 2⟩ : Bucket).levelP 2).2)), (46, .v (.bool true)), (45, .v (.bool true)), (44, VI (((⟨5, 0, 10, 2⟩ : Bucket).levelP 2).1)), (12, VI (((⟨5, 0, 10, 2⟩ : Bucket).serveP ([(⟨0, 5⟩ : Term), (⟨1, 3⟩ : Term), (⟨2, 4⟩ : Term)])).2.2)), (10, .lst 1 ((((⟨5, 0, 10, 2⟩ : Bucket).serveP ([(⟨0, 5⟩ : Term), (⟨1, 3⟩ : Term), (⟨2, 4⟩ : Term)])).1).map cI)), (11, .ref 4 4 0 0), (9, VI (((((⟨5, 0, 10, 2⟩ : Bucket).takeP 1 7).1).readyP 3).2)), (8, VI (((((⟨5, 0, 10, 2⟩ : Bucket).takeP 1 7).1).readyP 3).1)), (7, VI (((⟨5, 0, 10, 2⟩ : Bucket).takeP 1 8).2)), (5, VI (((⟨5, 0, 10, 2⟩ : Bucket).takeP 1 7).2)), (4, .ref 1 4 0 0), (3, VI (((⟨5, 0, 10, 2⟩ : Bucket).levelP 2).2)), (2, VI (((⟨5, 0, 10, 2⟩ : Bucket).levelP 2).1))], [some ⟨4, [[VI 5, VI 0, VI 10, VI 2]]⟩, some ⟨4, [[VI ((((⟨5, 0, 10, 2⟩ : Bucket).takeP 1 7).1).level), VI ((((⟨5, 0, 10, 2⟩ : Bucket).takeP 1 7).1).now), VI ((((⟨5, 0, 10, 2⟩ : Bucket).takeP 1 7).1).burst), VI ((((⟨5, 0, 10, 2⟩ : Bucket).takeP 1 7).1).rate)]]⟩, some ⟨4, [[VI ((((⟨5, 0, 10, 2⟩ : Bucket).takeP 1 8).1).level), VI ((((⟨5, 0, 10, 2⟩ : Bucket).takeP 1 8).1).now), VI ((((⟨5, 0, 10, 2⟩ : Bucket).takeP 1 8).1).burst), VI ((((⟨5, 0, 10, 2⟩ : Bucket).takeP 1 8).1).rate)]]⟩, none, some ⟨4, [[VI ((((⟨5, 0, 10, 2⟩ : Bucket).serveP ([(⟨0, 5⟩ : Term), (⟨1, 3⟩ : Term), (⟨2, 4⟩ : Term)])).2.1).level), VI ((((⟨5, 0, 10, 2⟩ : Bucket).serveP ([(⟨0, 5⟩ : Term), (⟨1, 3⟩ : Term), (⟨2, 4⟩ : Term)])).2.1).now), VI ((((⟨5, 0, 10, 2⟩ : Bucket).serveP ([(⟨0, 5⟩ : Term), (⟨1, 3⟩ : Term), (⟨2, 4⟩ : Term)])).2.1).burst), VI ((((⟨5, 0, 10, 2⟩ : Bucket).serveP ([(⟨0, 5⟩ : Term), (⟨1, 3⟩ : Term), (⟨2, 4⟩ : Term)])).2.1).rate)]]⟩, some ⟨1, [[VI 0], [VI 2]]⟩]⟩) (by kernel_rfl) ?_
  refine OW.fn (ar := [.agg [VI 0, VI 0, VI 0, VI 0]]) (x' := ⟨[(87, VI ((⟨0, 0, 0, 0⟩ : Bucket).checkE)), (86, .agg [VI 0, VI 0, VI 0, VI 0]), (85, .v (.bool true)), (84, .v (.bool true)), (83, .v (.bool true)), (82, VI ((((⟨5, 0, 10, 2⟩ : Bucket).serveP ([(⟨0, 5⟩ : Term), (⟨1, 3⟩ : Term), (⟨2, 4⟩ : Term)])).2.1).level)), (81, .ref 4 4 0 0), (80, .v (.bool true)), (79, .v (.bool true)), (78, .v (.bool true)), (77, .own 5 1 0 2), (76, .lst 1 ((((⟨5, 0, 10, 2⟩ : Bucket).serveP ([(⟨0, 5⟩ : Term), (⟨1, 3⟩ : Term), (⟨2, 4⟩ : Term)])).1).map cI)), (75, .v (.bool true)), (74, .v (.bool true)), (73, .v (.bool true)), (72, VI (((⟨5, 0, 10, 2⟩ : Bucket).serveP ([(⟨0, 5⟩ : Term), (⟨1, 3⟩ : Term), (⟨2, 4⟩ : Term)])).2.2)), (71, .v (.bool true)), (70, .v (.bool true)), (69, .v (.bool true)), (68, VI (((((⟨5, 0, 10, 2⟩ : Bucket).takeP 1 7).1).readyP 3).2)), (67, .v (.bool true)), (66, .v (.bool true)), (65, .v (.bool true)), (64, VI (((((⟨5, 0, 10, 2⟩ : Bucket).takeP 1 7).1).readyP 3).1)), (63, .v (.bool true)), (62, .v (.bool true)), (61, .v (.bool true)), (60, VI (((⟨5, 0, 10, 2⟩ : Bucket).takeP 1 8).2)), (59, .v (.bool true)), (58, .v (.bool true)), (57, .v (.bool true)), (56, VI (((⟨5, 0, 10, 2⟩ : Bucket).takeP 1 7).2)), (55, .v (.bool true)), (54, .v (.bool true)), (53, .v (.bool true)), (52, .agg [VI 0, VI 1, VI 10, VI 2]), (51, .agg [VI ((((⟨5, 0, 10, 2⟩ : Bucket).takeP 1 7).1).level), VI ((((⟨5, 0, 10, 2⟩ : Bucket).takeP 1 7).1).now), VI ((((⟨5, 0, 10, 2⟩ : Bucket).takeP 1 7).1).burst), VI ((((⟨5, 0, 10, 2⟩ : Bucket).takeP 1 7).1).rate)]), (50, .v (.bool true)), (49, .v (.bool true)), (48, .v (.bool true)), (47, VI (((⟨5, 0, 10, 2⟩ : Bucket).levelP 2).2)), (46, .v (.bool true)), (45, .v (.bool true)), (44, VI (((⟨5, 0, 10, 2⟩ : Bucket).levelP 2).1)), (12, VI (((⟨5, 0, 10, 2⟩ : Bucket).serveP ([(⟨0, 5⟩ : Term), (⟨1, 3⟩ : Term), (⟨2, 4⟩ : Term)])).2.2)), (10, .lst 1 ((((⟨5, 0, 10, 2⟩ : Bucket).serveP ([(⟨0, 5⟩ : Term), (⟨1, 3⟩ : Term), (⟨2, 4⟩ : Term)])).1).map cI)), (11, .ref 4 4 0 0), (9, VI (((((⟨5, 0, 10, 2⟩ : Bucket).takeP 1 7).1).readyP 3).2)), (8, VI (((((⟨5, 0, 10, 2⟩ : Bucket).takeP 1 7).1).readyP 3).1)), (7, VI (((⟨5, 0, 10, 2⟩ : Bucket).takeP 1 8).2)), (5, VI (((⟨5, 0, 10, 2⟩ : Bucket).takeP 1 7).2)), (4, .ref 1 4 0 0), (3, VI (((⟨5, 0, 10, 2⟩ : Bucket).levelP 2).2)), (2, VI (((⟨5, 0, 10, 2⟩ : Bucket).levelP 2).1))], [some ⟨4, [[VI 5, VI 0, VI 10, VI 2]]⟩, some ⟨4, [[VI ((((⟨5, 0, 10, 2⟩ : Bucket).takeP 1 7).1).level), VI ((((⟨5, 0, 10, 2⟩ : Bucket).takeP 1 7).1).now), VI ((((⟨5, 0, 10, 2⟩ : Bucket).takeP 1 7).1).burst), VI ((((⟨5, 0, 10, 2⟩ : Bucket).takeP 1 7).1).rate)]]⟩, some ⟨4, [[VI ((((⟨5, 0, 10, 2⟩ : Bucket).takeP 1 8).1).level), VI ((((⟨5, 0, 10, 2⟩ : Bucket).takeP 1 8).1).now), VI ((((⟨5, 0, 10, 2⟩ : Bucket).takeP 1 8).1).burst), VI ((((⟨5, 0, 10, 2⟩ : Bucket).takeP 1 8).1).rate)]]⟩, none, some ⟨4, [[VI ((((⟨5, 0, 10, 2⟩ : Bucket).serveP ([(⟨0, 5⟩ : Term), (⟨1, 3⟩ : Term), (⟨2, 4⟩ : Term)])).2.1).level), VI ((((⟨5, 0, 10, 2⟩ : Bucket).serveP ([(⟨0, 5⟩ : Term), (⟨1, 3⟩ : Term), (⟨2, 4⟩ : Term)])).2.1).now), VI ((((⟨5, 0, 10, 2⟩ : Bucket).serveP ([(⟨0, 5⟩ : Term), (⟨1, 3⟩ : Term), (⟨2, 4⟩ : Term)])).2.1).burst), VI ((((⟨5, 0, 10, 2⟩ : Bucket).serveP ([(⟨0, 5⟩ : Term), (⟨1, 3⟩ : Term), (⟨2, 4⟩ : Term)])).2.1).rate)]]⟩, some ⟨1, [[VI 0], [VI 2]]⟩]⟩) (by kernel_rfl) (by kernel_rfl) F16_call (check_fn (⟨0, 0, 0, 0⟩ : Bucket)) (by kernel_rfl) (by kernel_rfl) ?_
  refine OW.last 3 [0] (x' := ⟨[(0, .v (.bool (((⟨0, 0, 0, 0⟩ : Bucket).checkE) == 3)))], [some ⟨4, [[VI 5, VI 0, VI 10, VI 2]]⟩, some ⟨4, [[VI ((((⟨5, 0, 10, 2⟩ : Bucket).takeP 1 7).1).level), VI ((((⟨5, 0, 10, 2⟩ : Bucket).takeP 1 7).1).now), VI ((((⟨5, 0, 10, 2⟩ : Bucket).takeP 1 7).1).burst), VI ((((⟨5, 0, 10, 2⟩ : Bucket).takeP 1 7).1).rate)]]⟩, some ⟨4, [[VI ((((⟨5, 0, 10, 2⟩ : Bucket).takeP 1 8).1).level), VI ((((⟨5, 0, 10, 2⟩ : Bucket).takeP 1 8).1).now), VI ((((⟨5, 0, 10, 2⟩ : Bucket).takeP 1 8).1).burst), VI ((((⟨5, 0, 10, 2⟩ : Bucket).takeP 1 8).1).rate)]]⟩, none, some ⟨4, [[VI ((((⟨5, 0, 10, 2⟩ : Bucket).serveP ([(⟨0, 5⟩ : Term), (⟨1, 3⟩ : Term), (⟨2, 4⟩ : Term)])).2.1).level), VI ((((⟨5, 0, 10, 2⟩ : Bucket).serveP ([(⟨0, 5⟩ : Term), (⟨1, 3⟩ : Term), (⟨2, 4⟩ : Term)])).2.1).now), VI ((((⟨5, 0, 10, 2⟩ : Bucket).serveP ([(⟨0, 5⟩ : Term), (⟨1, 3⟩ : Term), (⟨2, 4⟩ : Term)])).2.1).burst), VI ((((⟨5, 0, 10, 2⟩ : Bucket).serveP ([(⟨0, 5⟩ : Term), (⟨1, 3⟩ : Term), (⟨2, 4⟩ : Term)])).2.1).rate)]]⟩, some ⟨1, [[VI 0], [VI 2]]⟩]⟩) (by kernel_rfl) (by kernel_rfl) ?_
  refine EL.ret ?_
  refine ⟨.inr rfl, .v (.bool (((⟨0, 0, 0, 0⟩ : Bucket).checkE) == 3)), by kernel_rfl, Ale.of_eq ?_⟩
  rfl
end Go.Proofs.Ytdoaefekbbgcmaa
