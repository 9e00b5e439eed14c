/- Plain laws of synods behind steps: who keeps what is done, what stays, what seats promise. No condition. -/
import Derived.Test.YtligepciannclaaDoorPSynF
import Derived.Test.YtligepciannclaaDoorPSeatG
import Derived.Test.YtligepciannclaaDoorTie
import Derived.Test.YtligepciannclaaDoorCards
import Derived.Lib.LaidTab
import Derived.LaidMore
import Derived.Stop.Joined
set_option maxRecDepth 100000
set_option maxHeartbeats 4000000
set_option linter.unusedVariables false
set_option linter.unusedSimpArgs false
namespace Go.Proofs.YtligepciannclaaDoor
theorem Synod.new_big {v : Voters} (h : v.weights.length ≤ 9223372036854775807) : (Synod.newP v).1.Big := by
  unfold Synod.newP
  split
  · exact (Synod.new_ok ‹_›).big
  · exact Synod.zero_big
theorem Synod.run_cases (s : Synod) (l : List Step) : (s.runP l).2.2 = 0 ∧ s.Ok ∧ l.length ≤ 200 ∧ s.runP l = ((s.runGo l 0).1, (s.runGo l 0).2, 0) ∧ (s.runP l).1.Ok ∨ (s.runP l).2.2 ≠ 0 ∧ (s.runP l).1 = Synod.zero ∧ (s.runP l).2.1 = 0 := by
  by_cases h : s.checkE = 0
  · by_cases h2 : 200 < l.length
    · rw [Synod.runP_2 h h2]; right; simp
    · rw [Synod.runP_0 h h2]; left; exact ⟨rfl, Synod.check_0 h, by omega, rfl, (Synod.run_go l 0 (Synod.check_0 h)).2⟩
  · rw [Synod.runP_n h]; right; exact ⟨h, rfl, rfl⟩
theorem Synod.run_big (s : Synod) (l : List Step) : (s.runP l).1.Big := by
  rcases Synod.run_cases s l with ⟨_, _, _, _, h⟩ | ⟨_, h, _⟩
  · exact h.big
  · rw [h]; exact Synod.zero_big
theorem Synod.many_zero {s : Synod} (h : s.manyP.2 ≠ 0) : s.manyP.1 = Synod.zero := by
  unfold Synod.manyP at h ⊢
  split at h
  · rename_i h1; rw [if_pos h1]
  · exact absurd rfl h
theorem Synod.bid_zero {s : Synod} {t : Int} {d : ByteArray} (h : (s.bidP t d).2 ≠ 0) : (s.bidP t d).1 = Synod.zero := by
  unfold Synod.bidP at h ⊢
  by_cases h1 : s.bids.length = 31
  · rw [if_pos h1]
  · rw [if_neg h1] at h ⊢
    by_cases h2 : (beginP s.voters s.bids.length t d).2.2 ≠ 0
    · rw [if_pos h2]
    · rw [if_neg h2] at h ⊢; exact Synod.many_zero h
theorem Synod.step_zero {s : Synod} {k n : Int} {d : ByteArray} (h : (s.stepP k n d).2 ≠ 0) : (s.stepP k n d).1 = Synod.zero := by
  unfold Synod.stepP at h ⊢
  by_cases h1 : ¬ (3 ≤ k ∧ k ≤ 6)
  · rw [if_pos h1]
  · rw [if_neg h1] at h ⊢
    by_cases h2 : k ≠ 6 ∧ d.size ≠ 0
    · rw [if_pos h2]
    · rw [if_neg h2] at h ⊢
      by_cases h3 : k = 6
      · rw [if_pos h3] at h ⊢; exact Synod.bid_zero h
      · rw [if_neg h3] at h ⊢
        by_cases h4 : ¬ (0 ≤ n ∧ n < s.votes.length)
        · rw [if_pos h4]
        · rw [if_neg h4] at h ⊢
          cases hv : s.votes[n.toNat]? with
          | none => rfl
          | some v =>
            rw [hv] at h
            dsimp only at h ⊢
            split
            · rename_i h5; rw [if_pos h5] at h; exact Synod.many_zero h
            · rename_i h5; rw [if_neg h5] at h
              split
              · rename_i h6; rw [if_pos h6] at h; exact Synod.many_zero h
              · rename_i h6; rw [if_neg h6] at h; exact Synod.many_zero h
theorem Synod.do_cases (s : Synod) (k n : Int) (d : ByteArray) : (s.doP k n d).2 = 0 ∧ s.Ok ∧ s.doP k n d = s.stepP k n d ∧ (s.doP k n d).1.Ok ∨ (s.doP k n d).2 ≠ 0 ∧ (s.doP k n d).1 = Synod.zero := by
  by_cases h : s.checkE = 0
  · rw [Synod.doP_0 h]
    by_cases h2 : (s.stepP k n d).2 = 0
    · exact .inl ⟨h2, Synod.check_0 h, rfl, Synod.step_ok (Synod.check_0 h) h2⟩
    · exact .inr ⟨h2, Synod.step_zero h2⟩
  · rw [Synod.doP_n h]; exact .inr ⟨h, rfl⟩
theorem Synod.do_big (s : Synod) (k n : Int) (d : ByteArray) : (s.doP k n d).1.Big := by
  rcases Synod.do_cases s k n d with ⟨_, _, _, h⟩ | ⟨_, h⟩
  · exact h.big
  · rw [h]; exact Synod.zero_big
def Synod.satP (v : Voters) (l : List Step) : Synod × Bool :=
  if (Synod.newP v).2 = 0 then (((Synod.newP v).1.runP l).1, ((Synod.newP v).1.runP l).2.2 == 0) else ((Synod.newP v).1, false)
theorem Synod.sat_n {v : Voters} {l : List Step} (h : ¬ (Synod.newP v).2 = 0) : Synod.satP v l = ((Synod.newP v).1, false) := if_neg h
theorem Synod.sat_0 {v : Voters} {l : List Step} (h : (Synod.newP v).2 = 0) : Synod.satP v l = (((Synod.newP v).1.runP l).1, ((Synod.newP v).1.runP l).2.2 == 0) := if_pos h
theorem Synod.sat_big {v : Voters} {l : List Step} (h : v.weights.length ≤ 9223372036854775807) : (Synod.satP v l).1.Big := by
  unfold Synod.satP
  split
  · exact Synod.run_big _ _
  · exact Synod.new_big h
/-- What a synod behind steps is. -/
theorem Synod.sat_is {v : Voters} {l : List Step} (h : (Synod.satP v l).2 = true) : qcheckP v.weights v.need = 0 ∧ Runs (Synod.new v) (Synod.satP v l).1 ∧ (Synod.satP v l).1.Ok := by
  by_cases h0 : (Synod.newP v).2 = 0
  · have hq : qcheckP v.weights v.need = 0 := by
      unfold Synod.newP at h0
      by_cases hq : qcheckP v.weights v.need = 0
      · exact hq
      · rw [if_neg hq] at h0; exact h0
    have e : (Synod.newP v).1 = Synod.new v := by unfold Synod.newP; rw [if_pos hq]
    rw [Synod.sat_0 h0] at h ⊢
    rw [e] at h ⊢
    rcases Synod.run_cases (Synod.new v) l with ⟨_, ok, _, e2, ok2⟩ | ⟨h2, _⟩
    · refine ⟨hq, ?_, ok2⟩
      rw [e2]; exact (Synod.run_go l 0 ok).1
    · exact absurd (eq_of_beq h) h2
  · rw [Synod.sat_n h0] at h; simp at h
section
variable (l : List Step) (v : Voters)
abbrev T0 : LB := [some ⟨2, [[.lst 1 (v.weights.map cI), VI v.need]]⟩, some ⟨5, [[.emp, VI 0, .emp, .emp, .emp]]⟩]
abbrev T1 : LS := [(4, .ref 1 5 0 0), (2, .ref 0 2 0 0), (1, .lst 3 (l.map Step.cs))]
abbrev T2 : LS := (12, .agg [.lst 1 (v.weights.map cI), VI v.need]) :: (T1 l)
abbrev T3 : AV := .agg [.lst 1 (((((Synod.newP v).1).voters).weights).map cI), VI ((((Synod.newP v).1).voters).need), .lst 5 ((((Synod.newP v).1).seats).map Seat.cs), .lst 8 ((((Synod.newP v).1).bids).map Bid.cs), .lst 6 ((((Synod.newP v).1).votes).map Vote.cs)]
abbrev T4 : LS := (13, .tup [(T3 v), VI ((Synod.newP v).2)]) :: (T2 l v)
abbrev T5 : OB := some ⟨5, [[.lst 1 (((((Synod.newP v).1).voters).weights).map cI), VI ((((Synod.newP v).1).voters).need), .lst 5 ((((Synod.newP v).1).seats).map Seat.cs), .lst 8 ((((Synod.newP v).1).bids).map Bid.cs), .lst 6 ((((Synod.newP v).1).votes).map Vote.cs)]]⟩
abbrev T6 : LB := [some ⟨2, [[.lst 1 (v.weights.map cI), VI v.need]]⟩, some ⟨5, [[.emp, VI 0, .emp, .emp, .emp]]⟩, (T5 v)]
abbrev T7 : LS := [(7, VI ((Synod.newP v).2)), (6, .ref 2 5 0 0), (4, .ref 1 5 0 0), (1, .lst 3 (l.map Step.cs))]
abbrev T8 : LS := [(6, .ref 2 5 0 0), (4, .ref 1 5 0 0), (1, .lst 3 (l.map Step.cs))]
abbrev T9 : LB := [some ⟨2, [[.lst 1 (v.weights.map cI), VI v.need]]⟩, (T5 v), (T5 v)]
abbrev T10 : LS := (21, .lst 3 (l.map Step.cs)) :: (20, (T3 v)) :: (17, .v (.bool false)) :: (T8 l)
abbrev T11 : AV := .agg [.lst 1 (((((((Synod.newP v).1).runP l).1).voters).weights).map cI), VI ((((((Synod.newP v).1).runP l).1).voters).need), .lst 5 ((((((Synod.newP v).1).runP l).1).seats).map Seat.cs), .lst 8 ((((((Synod.newP v).1).runP l).1).bids).map Bid.cs), .lst 6 ((((((Synod.newP v).1).runP l).1).votes).map Vote.cs)]
abbrev T12 : LS := (22, .tup [(T11 l v), VI ((((Synod.newP v).1).runP l).2.1), VI ((((Synod.newP v).1).runP l).2.2)]) :: (T10 l v)
abbrev T13 : OB := some ⟨5, [[.lst 1 (((((((Synod.newP v).1).runP l).1).voters).weights).map cI), VI ((((((Synod.newP v).1).runP l).1).voters).need), .lst 5 ((((((Synod.newP v).1).runP l).1).seats).map Seat.cs), .lst 8 ((((((Synod.newP v).1).runP l).1).bids).map Bid.cs), .lst 6 ((((((Synod.newP v).1).runP l).1).votes).map Vote.cs)]]⟩
abbrev T14 : LB := [some ⟨2, [[.lst 1 (v.weights.map cI), VI v.need]]⟩, some ⟨5, [[.emp, VI 0, .emp, .emp, .emp]]⟩, (T5 v), (T13 l v)]
abbrev T15 : LS := [(10, VI ((((Synod.newP v).1).runP l).2.2)), (8, .ref 3 5 0 0), (4, .ref 1 5 0 0)]
abbrev T16 : LB := [some ⟨2, [[.lst 1 (v.weights.map cI), VI v.need]]⟩, (T13 l v), (T5 v), (T13 l v)]
end
theorem sat_fn (v : Voters) (l : List Step) (hx : v.weights.length ≤ 9223372036854775807) (hl : l.length ≤ 9223372036854775807) : Fn Tryd.prog 22 [.agg [.lst 1 (v.weights.map cI), VI v.need], .lst 3 (l.map Step.cs)] (.tup [.agg [.lst 1 (((((Synod.satP v l).1).voters).weights).map cI), VI ((((Synod.satP v l).1).voters).need), .lst 5 ((((Synod.satP v l).1).seats).map Seat.cs), .lst 8 ((((Synod.satP v l).1).bids).map Bid.cs), .lst 6 ((((Synod.satP v l).1).votes).map Vote.cs)], .v (.bool ((Synod.satP v l).2))]) := by
  refine fn_walkW F22_ok (of_decide_eq_true (by kernel_rfl)) ?_
  refine srl 3 [1, 2, 4] ⟨(T1 l), (T0 v)⟩ ?_
  refine srr 1 ⟨(T2 l v), (T0 v)⟩ ?_
  refine owf [.agg [.lst 1 (v.weights.map cI), VI v.need]] ⟨(T4 l v), (T0 v)⟩ F12_call (new_fn v (by first | omega | assumption)) ?_
  refine owl 6 [1, 4, 6, 7] ⟨(T7 l v), (T6 v)⟩ ?_
  refine EL.seq ?_
  refine srl 2 [1, 4, 6, 17] ⟨(17, .v (.bool (((Synod.newP v).2) != 0))) :: (T8 l), (T6 v)⟩ ?_
  rcases Bool.eq_false_or_eq_true ((((Synod.newP v).2) != 0)) with h1 | h1
  rw [h1]
  have g1 : ¬ (((Synod.newP v).2) = 0) := by simpa using h1
  refine cnT ?_
  refine srl 3 [4, 5] ⟨[(5, .v (.bool false)), (4, .ref 1 5 0 0)], (T9 v)⟩ ?_
  refine rtr ?_
  refine ⟨.inr rfl, .tup [.agg [.lst 1 (((((Synod.newP v).1).voters).weights).map cI), VI ((((Synod.newP v).1).voters).need), .lst 5 ((((Synod.newP v).1).seats).map Seat.cs), .lst 8 ((((Synod.newP v).1).bids).map Bid.cs), .lst 6 ((((Synod.newP v).1).votes).map Vote.cs)], .v (.bool false)], by kernel_rfl, Ale.of_eq ?_⟩
  rotate_left
  rw [h1]
  have g1 : (((Synod.newP v).2) = 0) := by simpa using h1
  refine cnF ?_
  refine skn ?_
  refine srr 2 ⟨(T10 l v), (T6 v)⟩ ?_
  refine owf [(T3 v), .lst 3 (l.map Step.cs)] ⟨(T12 l v), (T6 v)⟩ F20_call (run_fn ((Synod.newP v).1) l (by first | assumption | exact Synod.new_big (by first | assumption | decide) | exact Synod.run_big _ _ | exact Synod.do_big _ _ _ _ | exact Synod.sat_big (by assumption) | exact Synod.zero_big | exact Synod.Ok.big (by assumption)) (by first | omega | decide | (simp; omega))) ?_
  refine owl 8 [4, 8, 10] ⟨(T15 l v), (T14 l v)⟩ ?_
  refine srl 5 [4, 5] ⟨[(5, .v (.bool (((((Synod.newP v).1).runP l).2.2) == 0))), (4, .ref 1 5 0 0)], (T16 l v)⟩ ?_
  refine EL.ret ?_
  refine ⟨.inr rfl, .tup [.agg [.lst 1 (((((((Synod.newP v).1).runP l).1).voters).weights).map cI), VI ((((((Synod.newP v).1).runP l).1).voters).need), .lst 5 ((((((Synod.newP v).1).runP l).1).seats).map Seat.cs), .lst 8 ((((((Synod.newP v).1).runP l).1).bids).map Bid.cs), .lst 6 ((((((Synod.newP v).1).runP l).1).votes).map Vote.cs)], .v (.bool (((((Synod.newP v).1).runP l).2.2) == 0))], by kernel_rfl, Ale.of_eq ?_⟩
  rotate_left
  all_goals (first | (rw [Synod.sat_n ‹_›] <;> rfl) | (rw [Synod.sat_0 ‹_›] <;> rfl))
section
variable (k : Nat) (n : Int) (out : List Step)
abbrev T17 : LS := [(0, VI n), (3, .own 0 3 0 (List.length out)), (4, VI (k : Int))]
abbrev T18 : LB := [some ⟨3, (out.map Step.cs)⟩, some ⟨3, [[VI 3, VI 0, .v (.string (⟨#[]⟩))]]⟩]
abbrev T19 : LS := (12, .own 1 3 0 1) :: (11, .agg [VI 3, VI 0, .v (.string (⟨#[]⟩))]) :: (10, .own 0 3 0 (List.length out)) :: (7, .v (.bool true)) :: (T17 k n out)
abbrev T20 : LB := [none, some ⟨3, [[VI 3, VI 0, .v (.string (⟨#[]⟩))]]⟩, some ⟨3, ((out ++ ([(⟨3, 0, ⟨#[]⟩⟩ : Step)])).map Step.cs)⟩]
abbrev T21 : LS := (13, .own 2 3 0 (List.length (out ++ ([(⟨3, 0, ⟨#[]⟩⟩ : Step)])))) :: (T19 k n out)
abbrev T22 : LS := [(3, .own 2 3 0 (List.length (out ++ ([(⟨3, 0, ⟨#[]⟩⟩ : Step)])))), (13, .own 2 3 0 (List.length (out ++ ([(⟨3, 0, ⟨#[]⟩⟩ : Step)])))), (12, .own 1 3 0 1), (11, .agg [VI 3, VI 0, .v (.string (⟨#[]⟩))]), (10, .own 0 3 0 (List.length out)), (7, .v (.bool true)), (0, VI n), (4, VI (k : Int))]
abbrev T23 : LS := [(8, VI (k : Int)), (3, .own 2 3 0 (List.length (out ++ ([(⟨3, 0, ⟨#[]⟩⟩ : Step)])))), (13, .own 2 3 0 (List.length (out ++ ([(⟨3, 0, ⟨#[]⟩⟩ : Step)])))), (12, .own 1 3 0 1), (11, .agg [VI 3, VI 0, .v (.string (⟨#[]⟩))]), (10, .own 0 3 0 (List.length out)), (7, .v (.bool true)), (0, VI n)]
abbrev T24 : LS := (4, VI ((k : Int) + 1)) :: (9, VI ((k : Int) + 1)) :: (T23 k n out)
end
theorem passes_fo (n : Int) (hn : 0 ≤ n ∧ n ≤ 1000) : Fo Tryd.prog 35 [VI n] 3 ((List.replicate (Int.toNat n) (⟨3, 0, ⟨#[]⟩⟩ : Step)).map Step.cs) := by
  refine fo_of ?_
  rw [List.length_map]
  refine fi_walkW (m := []) (m' := [some ⟨3, ((List.replicate (Int.toNat n) (⟨3, 0, ⟨#[]⟩⟩ : Step)).map Step.cs)⟩]) F35_ok (of_decide_eq_true (by kernel_rfl)) ?_
  refine srl 1 [0] ⟨[(0, VI n)], []⟩ ?_
  refine srl 1 [0, 3] ⟨[(3, .emp), (0, VI n)], []⟩ ?_
  refine EL.seq ?_
  refine srl 1 [0, 3, 4] ⟨[(4, VI 0), (3, .emp), (0, VI n)], []⟩ ?_
  refine EL.block ?_
  refine EL.loopN (fun mM xX => ∃ (k : Nat) (out : List Step), mM = n.toNat - k ∧ (k ≤ n.toNat ∧ out = List.replicate k (⟨3, 0, ⟨#[]⟩⟩ : Step)) ∧ xX = ⟨(T17 k n out), [some ⟨3, (out.map Step.cs)⟩]⟩) (y := (fun (k : Nat) (out : List Step) => (⟨(T17 k n out), [some ⟨3, (out.map Step.cs)⟩]⟩ : L3)) 0 []) [0, 3, 4] [.new 3] [(3, 0)] (by kernel_rfl) trivial ⟨0, [], rfl, by simp, rfl⟩ ?_
  rintro _ _ ⟨k, out, rfl, hI1, rfl⟩
  obtain ⟨hk, ho⟩ := hI1
  have hol : out.length = k := by rw [ho]; simp
  refine EL.seq ?_
  refine srl 3 [0, 3, 4, 7] ⟨(7, .v (.bool (decide ((k : Int) < n)))) :: (T17 k n out), [some ⟨3, (out.map Step.cs)⟩]⟩ ?_
  rcases Bool.eq_false_or_eq_true (decide ((k : Int) < n)) with h2 | h2
  rw [h2]
  have g2 := of_decide_eq_true h2
  refine cnT ?_
  refine skn ?_
  refine EL.seq ?_
  refine EL.block ?_
  refine EL.reg0 ?_
  refine owr 3 ⟨(T19 k n out), (T18 out)⟩ ?_
  refine owo (.own 2 3 0 (List.length (out ++ ([(⟨3, 0, ⟨#[]⟩⟩ : Step)])))) [(0, none), (2, some ⟨3, ((out ++ ([(⟨3, 0, ⟨#[]⟩⟩ : Step)])).map Step.cs)⟩)] [1, 0] ⟨(T21 k n out), (T20 out)⟩ (opE_appO Step.cs out ([(⟨3, 0, ⟨#[]⟩⟩ : Step)]) (.s 10) (.s 12) 3 32 0 (.own 1 3 0 1) _ (by kernel_rfl) (by kernel_rfl) rfl (by kernel_rfl) rfl (.own (els := [[VI 3, VI 0, .v (.string (⟨#[]⟩))]]) (by kernel_rfl) (by kernel_rfl) (of_decide_eq_true (by kernel_rfl))) (by simp; omega)) ?_
  refine owe 1 ⟨(T22 k n out), (T20 out)⟩ ?_
  refine inBlk_norm ?_
  refine thenL_norm ?_
  refine EL.reg0 ?_
  refine owr 3 ⟨(4, VI (IntKind.i64.wrap ((k : Int) + 1))) :: (9, VI (IntKind.i64.wrap ((k : Int) + 1))) :: (T23 k n out), (T20 out)⟩ ?_
  have e3 : IntKind.i64.wrap ((k : Int) + 1) = (k : Int) + 1 := wr64 (by omega)
  rw [e3]
  refine owe 0 ⟨(T24 k n out), (T20 out)⟩ ?_
  refine thenL_norm ?_
  refine round_end (live := [0, 3, 4]) (src := [.old 2 true]) (es := []) (y := (fun (k : Nat) (out : List Step) => (⟨(T17 k n out), [some ⟨3, (out.map Step.cs)⟩]⟩ : L3)) (k + 1) (out ++ ([(⟨3, 0, ⟨#[]⟩⟩ : Step)]))) ?_ ⟨pq 3 Step.cs (out ++ ([(⟨3, 0, ⟨#[]⟩⟩ : Step)])), trivial⟩ ?_ ⟨(k + 1), (out ++ ([(⟨3, 0, ⟨#[]⟩⟩ : Step)])), rfl, ?_, rfl⟩
  kernel_rfl
  omega
  focus (refine ⟨by omega, ?_⟩; rw [ho, List.replicate_succ'])
  rw [h2]
  have g2 := of_decide_eq_false h2
  refine cnF ?_
  refine EL.exit ?_
  refine thenL_exit ?_
  refine thenL_exit ?_
  refine inBlk_hit ?_
  refine thenL_norm ?_
  refine srl 2 [2] ⟨[(2, .own 0 3 0 (List.length out))], [some ⟨3, (out.map Step.cs)⟩]⟩ ?_
  refine EL.ret ?_
  (have hkn : k = n.toNat := (by omega)); rw [hkn] at ho; rw [← ho]
  refine ⟨.inr rfl, ⟨[(2, .own 0 3 0 (List.length out))], [some ⟨3, (out.map Step.cs)⟩]⟩, norm_le (live := [2]) (src := [.old 0 true]) (es := []) (by kernel_rfl) ⟨pq 3 Step.cs out, trivial⟩, by kernel_rfl, rfl⟩
abbrev T25 : Voters := (⟨[1, 1, 1], 2⟩ : Voters)
abbrev T26 : AV := .agg [.lst 1 (((((Synod.newP T25).1).voters).weights).map cI), VI ((((Synod.newP T25).1).voters).need), .lst 5 ((((Synod.newP T25).1).seats).map Seat.cs), .lst 8 ((((Synod.newP T25).1).bids).map Bid.cs), .lst 6 ((((Synod.newP T25).1).votes).map Vote.cs)]
abbrev T27 : OB := some ⟨5, [[.lst 1 (((((Synod.newP T25).1).voters).weights).map cI), VI ((((Synod.newP T25).1).voters).need), .lst 5 ((((Synod.newP T25).1).seats).map Seat.cs), .lst 8 ((((Synod.newP T25).1).bids).map Bid.cs), .lst 6 ((((Synod.newP T25).1).votes).map Vote.cs)]]⟩
abbrev T28 : LS := [(15, .own 1 3 0 1), (14, .agg [VI 6, VI 1, .v (.string (⟨#[97]⟩))]), (2, VI ((Synod.newP T25).2)), (1, .ref 0 5 0 0)]
abbrev T29 : OB := some ⟨3, ((List.replicate (Int.toNat 12) (⟨3, 0, ⟨#[]⟩⟩ : Step)).map Step.cs)⟩
abbrev T30 : LB := [T27, some ⟨3, [[VI 6, VI 1, .v (.string (⟨#[97]⟩))]]⟩, T29]
abbrev T31 : LS := (16, .own 2 3 0 (List.length (List.replicate (Int.toNat 12) (⟨3, 0, ⟨#[]⟩⟩ : Step)))) :: T28
abbrev T32 : OB := some ⟨3, ((([(⟨6, 1, ⟨#[97]⟩⟩ : Step)]) ++ (List.replicate (Int.toNat 12) (⟨3, 0, ⟨#[]⟩⟩ : Step))).map Step.cs)⟩
abbrev T33 : LS := (17, .own 3 3 0 (List.length (([(⟨6, 1, ⟨#[97]⟩⟩ : Step)]) ++ (List.replicate (Int.toNat 12) (⟨3, 0, ⟨#[]⟩⟩ : Step))))) :: T31
abbrev T34 : LS := [(3, .own 3 3 0 (List.length (([(⟨6, 1, ⟨#[97]⟩⟩ : Step)]) ++ (List.replicate (Int.toNat 12) (⟨3, 0, ⟨#[]⟩⟩ : Step))))), (2, VI ((Synod.newP T25).2)), (1, .ref 0 5 0 0)]
abbrev T35 : LB := [T27, none, T29, T32, some ⟨3, [[VI 6, VI 5, .v (.string (⟨#[98]⟩))]]⟩]
abbrev T36 : LS := (22, .own 4 3 0 1) :: (21, .agg [VI 6, VI 5, .v (.string (⟨#[98]⟩))]) :: (20, .own 3 3 0 (List.length (([(⟨6, 1, ⟨#[97]⟩⟩ : Step)]) ++ (List.replicate (Int.toNat 12) (⟨3, 0, ⟨#[]⟩⟩ : Step))))) :: (19, T26) :: T34
abbrev T37 : OB := some ⟨3, (((([(⟨6, 1, ⟨#[97]⟩⟩ : Step)]) ++ (List.replicate (Int.toNat 12) (⟨3, 0, ⟨#[]⟩⟩ : Step))) ++ ([(⟨6, 5, ⟨#[98]⟩⟩ : Step)])).map Step.cs)⟩
abbrev T38 : LB := [T27, none, T29, none, some ⟨3, [[VI 6, VI 5, .v (.string (⟨#[98]⟩))]]⟩, T37]
abbrev T39 : LS := (23, .own 5 3 0 (List.length ((([(⟨6, 1, ⟨#[97]⟩⟩ : Step)]) ++ (List.replicate (Int.toNat 12) (⟨3, 0, ⟨#[]⟩⟩ : Step))) ++ ([(⟨6, 5, ⟨#[98]⟩⟩ : Step)])))) :: T36
abbrev T40 : LB := [T27, none, T29, none, some ⟨3, [[VI 6, VI 5, .v (.string (⟨#[98]⟩))]]⟩, T37, T29]
abbrev T41 : LS := (24, .own 6 3 0 (List.length (List.replicate (Int.toNat 12) (⟨3, 0, ⟨#[]⟩⟩ : Step)))) :: T39
abbrev T42 : OB := some ⟨3, ((((([(⟨6, 1, ⟨#[97]⟩⟩ : Step)]) ++ (List.replicate (Int.toNat 12) (⟨3, 0, ⟨#[]⟩⟩ : Step))) ++ ([(⟨6, 5, ⟨#[98]⟩⟩ : Step)])) ++ (List.replicate (Int.toNat 12) (⟨3, 0, ⟨#[]⟩⟩ : Step))).map Step.cs)⟩
abbrev T43 : LB := [T27, none, T29, none, some ⟨3, [[VI 6, VI 5, .v (.string (⟨#[98]⟩))]]⟩, none, T29, T42]
abbrev T44 : LS := (25, .own 7 3 0 (List.length (((([(⟨6, 1, ⟨#[97]⟩⟩ : Step)]) ++ (List.replicate (Int.toNat 12) (⟨3, 0, ⟨#[]⟩⟩ : Step))) ++ ([(⟨6, 5, ⟨#[98]⟩⟩ : Step)])) ++ (List.replicate (Int.toNat 12) (⟨3, 0, ⟨#[]⟩⟩ : Step))))) :: T41
abbrev T45 : Synod := (((Synod.newP T25).1).runP (((([(⟨6, 1, ⟨#[97]⟩⟩ : Step)]) ++ (List.replicate (Int.toNat 12) (⟨3, 0, ⟨#[]⟩⟩ : Step))) ++ ([(⟨6, 5, ⟨#[98]⟩⟩ : Step)])) ++ (List.replicate (Int.toNat 12) (⟨3, 0, ⟨#[]⟩⟩ : Step)))).1
abbrev T46 : AV := .agg [.lst 1 (T45.voters.weights.map cI), VI T45.voters.need, .lst 5 (T45.seats.map Seat.cs), .lst 8 (T45.bids.map Bid.cs), .lst 6 (T45.votes.map Vote.cs)]
abbrev T47 : LB := [T27, none, T29, none, some ⟨3, [[VI 6, VI 5, .v (.string (⟨#[98]⟩))]]⟩, none, T29, none]
abbrev T48 : LS := (26, .tup [T46, VI ((((Synod.newP T25).1).runP (((([(⟨6, 1, ⟨#[97]⟩⟩ : Step)]) ++ (List.replicate (Int.toNat 12) (⟨3, 0, ⟨#[]⟩⟩ : Step))) ++ ([(⟨6, 5, ⟨#[98]⟩⟩ : Step)])) ++ (List.replicate (Int.toNat 12) (⟨3, 0, ⟨#[]⟩⟩ : Step)))).2.1), VI ((((Synod.newP T25).1).runP (((([(⟨6, 1, ⟨#[97]⟩⟩ : Step)]) ++ (List.replicate (Int.toNat 12) (⟨3, 0, ⟨#[]⟩⟩ : Step))) ++ ([(⟨6, 5, ⟨#[98]⟩⟩ : Step)])) ++ (List.replicate (Int.toNat 12) (⟨3, 0, ⟨#[]⟩⟩ : Step)))).2.2)]) :: T44
abbrev T49 : OB := some ⟨5, [[.lst 1 (T45.voters.weights.map cI), VI T45.voters.need, .lst 5 (T45.seats.map Seat.cs), .lst 8 (T45.bids.map Bid.cs), .lst 6 (T45.votes.map Vote.cs)]]⟩
abbrev T50 : LB := [T27, none, T29, none, some ⟨3, [[VI 6, VI 5, .v (.string (⟨#[98]⟩))]]⟩, none, T29, none, T49]
abbrev T51 : LS := [(6, VI ((((Synod.newP T25).1).runP (((([(⟨6, 1, ⟨#[97]⟩⟩ : Step)]) ++ (List.replicate (Int.toNat 12) (⟨3, 0, ⟨#[]⟩⟩ : Step))) ++ ([(⟨6, 5, ⟨#[98]⟩⟩ : Step)])) ++ (List.replicate (Int.toNat 12) (⟨3, 0, ⟨#[]⟩⟩ : Step)))).2.2)), (5, VI ((((Synod.newP T25).1).runP (((([(⟨6, 1, ⟨#[97]⟩⟩ : Step)]) ++ (List.replicate (Int.toNat 12) (⟨3, 0, ⟨#[]⟩⟩ : Step))) ++ ([(⟨6, 5, ⟨#[98]⟩⟩ : Step)])) ++ (List.replicate (Int.toNat 12) (⟨3, 0, ⟨#[]⟩⟩ : Step)))).2.1)), (4, .ref 8 5 0 0), (2, VI ((Synod.newP T25).2)), (1, .ref 0 5 0 0)]
abbrev T52 : LS := (32, .agg [VI 1, VI 0, .v (.string (⟨#[]⟩))]) :: (31, T26) :: T51
abbrev T53 : Synod := (((Synod.newP T25).1).doP (⟨1, 0, ⟨#[]⟩⟩ : Step).kind (⟨1, 0, ⟨#[]⟩⟩ : Step).n (⟨1, 0, ⟨#[]⟩⟩ : Step).data).1
abbrev T54 : AV := .agg [.lst 1 (T53.voters.weights.map cI), VI T53.voters.need, .lst 5 (T53.seats.map Seat.cs), .lst 8 (T53.bids.map Bid.cs), .lst 6 (T53.votes.map Vote.cs)]
abbrev T55 : LS := (33, .tup [T54, VI ((((Synod.newP T25).1).doP (⟨1, 0, ⟨#[]⟩⟩ : Step).kind (⟨1, 0, ⟨#[]⟩⟩ : Step).n (⟨1, 0, ⟨#[]⟩⟩ : Step).data).2)]) :: T52
abbrev T56 : OB := some ⟨5, [[.lst 1 (T53.voters.weights.map cI), VI T53.voters.need, .lst 5 (T53.seats.map Seat.cs), .lst 8 (T53.bids.map Bid.cs), .lst 6 (T53.votes.map Vote.cs)]]⟩
abbrev T57 : LB := [T27, none, T29, none, some ⟨3, [[VI 6, VI 5, .v (.string (⟨#[98]⟩))]]⟩, none, T29, none, T49, T56]
abbrev T58 : LS := (8, VI ((((Synod.newP T25).1).doP (⟨1, 0, ⟨#[]⟩⟩ : Step).kind (⟨1, 0, ⟨#[]⟩⟩ : Step).n (⟨1, 0, ⟨#[]⟩⟩ : Step).data).2)) :: T51
abbrev T59 : LS := (39, VI ((((Synod.newP T25).1).runP (((([(⟨6, 1, ⟨#[97]⟩⟩ : Step)]) ++ (List.replicate (Int.toNat 12) (⟨3, 0, ⟨#[]⟩⟩ : Step))) ++ ([(⟨6, 5, ⟨#[98]⟩⟩ : Step)])) ++ (List.replicate (Int.toNat 12) (⟨3, 0, ⟨#[]⟩⟩ : Step)))).2.2)) :: (38, .v (.bool true)) :: (37, .v (.bool true)) :: (36, VI ((Synod.newP T25).2)) :: T58
abbrev T60 : LS := (43, VI ((((Synod.newP T25).1).runP (((([(⟨6, 1, ⟨#[97]⟩⟩ : Step)]) ++ (List.replicate (Int.toNat 12) (⟨3, 0, ⟨#[]⟩⟩ : Step))) ++ ([(⟨6, 5, ⟨#[98]⟩⟩ : Step)])) ++ (List.replicate (Int.toNat 12) (⟨3, 0, ⟨#[]⟩⟩ : Step)))).2.1)) :: (42, .v (.bool true)) :: (41, .v (.bool true)) :: (40, .v (.bool true)) :: T59
abbrev T61 : LS := (48, .lst 8 (T45.bids.map Bid.cs)) :: (47, .ref 8 5 0 3) :: (46, .v (.bool true)) :: (45, .v (.bool true)) :: (44, .v (.bool true)) :: T60
abbrev T62 : Bid := List.getD T45.bids (Int.toNat 0) (⟨0, 0, ⟨#[]⟩, ⟨#[]⟩, (⟨(⟨0, 0⟩ : Stamp), ⟨#[]⟩⟩ : Copy), ⟨0, by decide⟩⟩ : Bid)
abbrev T63 : LS := (54, .lst 8 (T45.bids.map Bid.cs)) :: (53, .ref 8 5 0 3) :: (52, .v (.bool true)) :: (51, .v (.bool true)) :: (50, .v (.bool true)) :: (49, VI (List.length T45.bids : Int)) :: T61
abbrev T64 : LS := (55, .pim [VI T62.time, VI T62.phase, .v (.string T62.own), .v (.string T62.value), VI T62.best.at_.time, VI T62.best.at_.who, .v (.string T62.best.data), .v (.int .u64 (T62.heard.n : Int))] 0) :: T63
abbrev T65 : LS := (57, VI T62.phase) :: (56, .pim [VI T62.time, VI T62.phase, .v (.string T62.own), .v (.string T62.value), VI T62.best.at_.time, VI T62.best.at_.who, .v (.string T62.best.data), .v (.int .u64 (T62.heard.n : Int))] 1) :: T64
abbrev T66 : Bid := List.getD T45.bids (Int.toNat 1) (⟨0, 0, ⟨#[]⟩, ⟨#[]⟩, (⟨(⟨0, 0⟩ : Stamp), ⟨#[]⟩⟩ : Copy), ⟨0, by decide⟩⟩ : Bid)
abbrev T67 : LS := (62, .lst 8 (T45.bids.map Bid.cs)) :: (61, .ref 8 5 0 3) :: (60, .v (.bool true)) :: (59, .v (.bool true)) :: (58, .v (.bool true)) :: T65
abbrev T68 : LS := (63, .pim [VI T66.time, VI T66.phase, .v (.string T66.own), .v (.string T66.value), VI T66.best.at_.time, VI T66.best.at_.who, .v (.string T66.best.data), .v (.int .u64 (T66.heard.n : Int))] 0) :: T67
abbrev T69 : LS := (65, VI T66.phase) :: (64, .pim [VI T66.time, VI T66.phase, .v (.string T66.own), .v (.string T66.value), VI T66.best.at_.time, VI T66.best.at_.who, .v (.string T66.best.data), .v (.int .u64 (T66.heard.n : Int))] 1) :: T68
abbrev T70 : LS := (70, .lst 8 (T45.bids.map Bid.cs)) :: (69, .ref 8 5 0 3) :: (68, .v (.bool true)) :: (67, .v (.bool true)) :: (66, .v (.bool true)) :: T69
abbrev T71 : LS := (71, .pim [VI T66.time, VI T66.phase, .v (.string T66.own), .v (.string T66.value), VI T66.best.at_.time, VI T66.best.at_.who, .v (.string T66.best.data), .v (.int .u64 (T66.heard.n : Int))] 0) :: T70
abbrev T72 : LS := (73, .v (.string T66.value)) :: (72, .pim [VI T66.time, VI T66.phase, .v (.string T66.own), .v (.string T66.value), VI T66.best.at_.time, VI T66.best.at_.who, .v (.string T66.best.data), .v (.int .u64 (T66.heard.n : Int))] 3) :: T71
abbrev T73 : LS := (78, .lst 6 (T45.votes.map Vote.cs)) :: (77, .ref 8 5 0 4) :: (76, .v (.bool true)) :: (75, .v (.bool true)) :: (74, .v (.bool true)) :: T72
abbrev T74 : LS := (83, VI ((((Synod.newP T25).1).doP (⟨1, 0, ⟨#[]⟩⟩ : Step).kind (⟨1, 0, ⟨#[]⟩⟩ : Step).n (⟨1, 0, ⟨#[]⟩⟩ : Step).data).2)) :: (82, .v (.bool true)) :: (81, .v (.bool true)) :: (80, .v (.bool true)) :: (79, VI (List.length T45.votes : Int)) :: T73
abbrev T75 : LS := (87, T26) :: (86, .v (.bool true)) :: (85, .v (.bool true)) :: (84, .v (.bool true)) :: T74
theorem sbegun_fn : Fn Tryd.prog 16 [] (.v (.bool true)) := by
  refine fn_walkW F16_ok (of_decide_eq_true (by kernel_rfl)) ?_
  refine srl 1 [] ⟨[], []⟩ ?_
  refine EL.sreg ?_
  refine owf [] ⟨[(10, .agg [.lst 1 (T25.weights.map cI), VI T25.need])], []⟩ F34_call (three_fn) ?_
  refine owf [.agg [.lst 1 (T25.weights.map cI), VI T25.need]] ⟨[(11, .tup [T26, VI ((Synod.newP T25).2)]), (10, .agg [.lst 1 (T25.weights.map cI), VI T25.need])], []⟩ F12_call (new_fn T25 (by first | assumption | decide)) ?_
  refine owl 6 [1, 2] ⟨[(2, VI ((Synod.newP T25).2)), (1, .ref 0 5 0 0)], [T27]⟩ ?_
  refine srr 2 ⟨T28, [T27, some ⟨3, [[VI 6, VI 1, .v (.string (⟨#[97]⟩))]]⟩]⟩ ?_
  refine OW.fo (ar := [VI 12]) (fe := Step.cs) (xs := (List.replicate (Int.toNat 12) (⟨3, 0, ⟨#[]⟩⟩ : Step))) (x' := ⟨T31, T30⟩) (by kernel_rfl) (by kernel_rfl) F35_call (passes_fo 12 (by first | omega | decide)) (by intro y; kernel_rfl) (by kernel_rfl) (by kernel_rfl) ?_
  refine owo (.own 3 3 0 (List.length (([(⟨6, 1, ⟨#[97]⟩⟩ : Step)]) ++ (List.replicate (Int.toNat 12) (⟨3, 0, ⟨#[]⟩⟩ : Step))))) [(1, none), (3, some ⟨3, ((([(⟨6, 1, ⟨#[97]⟩⟩ : Step)]) ++ (List.replicate (Int.toNat 12) (⟨3, 0, ⟨#[]⟩⟩ : Step))).map Step.cs)⟩)] [2, 1] ⟨T33, [T27, none, T29, T32]⟩ (opE_appO Step.cs ([(⟨6, 1, ⟨#[97]⟩⟩ : Step)]) (List.replicate (Int.toNat 12) (⟨3, 0, ⟨#[]⟩⟩ : Step)) (.s 15) (.s 16) 3 32 1 (.own 2 3 0 (List.length (List.replicate (Int.toNat 12) (⟨3, 0, ⟨#[]⟩⟩ : Step)))) _ (by kernel_rfl) (by kernel_rfl) rfl (by kernel_rfl) rfl (.own (els := ((List.replicate (Int.toNat 12) (⟨3, 0, ⟨#[]⟩⟩ : Step)).map Step.cs)) (by kernel_rfl) (by simp) (by simp)) (by first | (simp; done) | (simp; omega))) ?_
  refine owl 1 [1, 2, 3] ⟨T34, [T27, none, T29, T32]⟩ ?_
  refine sdr 4 ⟨T36, T35⟩ ?_
  refine dwo (.own 5 3 0 (List.length ((([(⟨6, 1, ⟨#[97]⟩⟩ : Step)]) ++ (List.replicate (Int.toNat 12) (⟨3, 0, ⟨#[]⟩⟩ : Step))) ++ ([(⟨6, 5, ⟨#[98]⟩⟩ : Step)])))) [(3, none), (5, some ⟨3, (((([(⟨6, 1, ⟨#[97]⟩⟩ : Step)]) ++ (List.replicate (Int.toNat 12) (⟨3, 0, ⟨#[]⟩⟩ : Step))) ++ ([(⟨6, 5, ⟨#[98]⟩⟩ : Step)])).map Step.cs)⟩)] [4, 3] ⟨T39, T38⟩ (opE_appO Step.cs (([(⟨6, 1, ⟨#[97]⟩⟩ : Step)]) ++ (List.replicate (Int.toNat 12) (⟨3, 0, ⟨#[]⟩⟩ : Step))) ([(⟨6, 5, ⟨#[98]⟩⟩ : Step)]) (.s 20) (.s 22) 3 32 3 (.own 4 3 0 1) _ (by kernel_rfl) (by kernel_rfl) rfl (by kernel_rfl) rfl (.own (els := [[VI 6, VI 5, .v (.string (⟨#[98]⟩))]]) (by kernel_rfl) (by kernel_rfl) (of_decide_eq_true (by kernel_rfl))) (by first | (simp; done) | (simp; omega))) ?_
  refine DW.fo (ar := [VI 12]) (fe := Step.cs) (xs := (List.replicate (Int.toNat 12) (⟨3, 0, ⟨#[]⟩⟩ : Step))) (x' := ⟨T41, T40⟩) (by kernel_rfl) (by kernel_rfl) F35_call (passes_fo 12 (by first | omega | decide)) (by intro y; kernel_rfl) (by kernel_rfl) (by kernel_rfl) ?_
  refine dwo (.own 7 3 0 (List.length (((([(⟨6, 1, ⟨#[97]⟩⟩ : Step)]) ++ (List.replicate (Int.toNat 12) (⟨3, 0, ⟨#[]⟩⟩ : Step))) ++ ([(⟨6, 5, ⟨#[98]⟩⟩ : Step)])) ++ (List.replicate (Int.toNat 12) (⟨3, 0, ⟨#[]⟩⟩ : Step))))) [(5, none), (7, some ⟨3, ((((([(⟨6, 1, ⟨#[97]⟩⟩ : Step)]) ++ (List.replicate (Int.toNat 12) (⟨3, 0, ⟨#[]⟩⟩ : Step))) ++ ([(⟨6, 5, ⟨#[98]⟩⟩ : Step)])) ++ (List.replicate (Int.toNat 12) (⟨3, 0, ⟨#[]⟩⟩ : Step))).map Step.cs)⟩)] [6, 5] ⟨T44, T43⟩ (opE_appO Step.cs ((([(⟨6, 1, ⟨#[97]⟩⟩ : Step)]) ++ (List.replicate (Int.toNat 12) (⟨3, 0, ⟨#[]⟩⟩ : Step))) ++ ([(⟨6, 5, ⟨#[98]⟩⟩ : Step)])) (List.replicate (Int.toNat 12) (⟨3, 0, ⟨#[]⟩⟩ : Step)) (.s 23) (.s 24) 3 32 5 (.own 6 3 0 (List.length (List.replicate (Int.toNat 12) (⟨3, 0, ⟨#[]⟩⟩ : Step)))) _ (by kernel_rfl) (by kernel_rfl) rfl (by kernel_rfl) rfl (.own (els := ((List.replicate (Int.toNat 12) (⟨3, 0, ⟨#[]⟩⟩ : Step)).map Step.cs)) (by kernel_rfl) (by simp) (by simp)) (by first | (simp; done) | (simp; omega))) ?_
  refine DW.fn (ar := [T26, .own 7 3 0 (List.length (((([(⟨6, 1, ⟨#[97]⟩⟩ : Step)]) ++ (List.replicate (Int.toNat 12) (⟨3, 0, ⟨#[]⟩⟩ : Step))) ++ ([(⟨6, 5, ⟨#[98]⟩⟩ : Step)])) ++ (List.replicate (Int.toNat 12) (⟨3, 0, ⟨#[]⟩⟩ : Step))))]) (x' := ⟨T48, T47⟩) (by kernel_rfl) (by kernel_rfl) F20_call (run_fn ((Synod.newP T25).1) (((([(⟨6, 1, ⟨#[97]⟩⟩ : Step)]) ++ (List.replicate (Int.toNat 12) (⟨3, 0, ⟨#[]⟩⟩ : Step))) ++ ([(⟨6, 5, ⟨#[98]⟩⟩ : Step)])) ++ (List.replicate (Int.toNat 12) (⟨3, 0, ⟨#[]⟩⟩ : Step))) (by first | assumption | exact Synod.new_big (by first | assumption | decide) | exact Synod.run_big _ _ | exact Synod.do_big _ _ _ _ | exact Synod.sat_big (by assumption) | exact Synod.zero_big | exact Synod.Ok.big (by assumption)) (by first | omega | decide | (simp; omega))) (snapAs_cons (by kernel_rfl) (snapAs_cons (snapA_map Step.cs (((([(⟨6, 1, ⟨#[97]⟩⟩ : Step)]) ++ (List.replicate (Int.toNat 12) (⟨3, 0, ⟨#[]⟩⟩ : Step))) ++ ([(⟨6, 5, ⟨#[98]⟩⟩ : Step)])) ++ (List.replicate (Int.toNat 12) (⟨3, 0, ⟨#[]⟩⟩ : Step))) (by kernel_rfl) (by intro y; kernel_rfl) (by simp)) (snapAs_nil))) (by kernel_rfl) ?_
  refine dwl 8 [1, 2, 4, 5, 6] ⟨T51, T50⟩ ?_
  refine srr 2 ⟨T52, T50⟩ ?_
  refine owf [T26, .agg [VI 1, VI 0, .v (.string (⟨#[]⟩))]] ⟨T55, T50⟩ F13_call (do_fn ((Synod.newP T25).1) (⟨1, 0, ⟨#[]⟩⟩ : Step) (by first | assumption | exact Synod.new_big (by first | assumption | decide) | exact Synod.run_big _ _ | exact Synod.do_big _ _ _ _ | exact Synod.sat_big (by assumption) | exact Synod.zero_big | exact Synod.Ok.big (by assumption))) ?_
  refine owl 6 [1, 2, 4, 5, 6, 8] ⟨T58, T57⟩ ?_
  refine srr 3 ⟨(38, .v (.bool (((Synod.newP T25).2) == 0))) :: (37, .v (.bool (((Synod.newP T25).2) == 0))) :: (36, VI ((Synod.newP T25).2)) :: T58, T57⟩ ?_
  have h1 : (((Synod.newP T25).2) == 0) = true := by first | kernel_rfl | decide
  rw [h1]
  refine owr 4 ⟨(42, .v (.bool (((((Synod.newP T25).1).runP (((([(⟨6, 1, ⟨#[97]⟩⟩ : Step)]) ++ (List.replicate (Int.toNat 12) (⟨3, 0, ⟨#[]⟩⟩ : Step))) ++ ([(⟨6, 5, ⟨#[98]⟩⟩ : Step)])) ++ (List.replicate (Int.toNat 12) (⟨3, 0, ⟨#[]⟩⟩ : Step)))).2.2) == 0))) :: (41, .v (.bool (((((Synod.newP T25).1).runP (((([(⟨6, 1, ⟨#[97]⟩⟩ : Step)]) ++ (List.replicate (Int.toNat 12) (⟨3, 0, ⟨#[]⟩⟩ : Step))) ++ ([(⟨6, 5, ⟨#[98]⟩⟩ : Step)])) ++ (List.replicate (Int.toNat 12) (⟨3, 0, ⟨#[]⟩⟩ : Step)))).2.2) == 0))) :: (40, .v (.bool (((((Synod.newP T25).1).runP (((([(⟨6, 1, ⟨#[97]⟩⟩ : Step)]) ++ (List.replicate (Int.toNat 12) (⟨3, 0, ⟨#[]⟩⟩ : Step))) ++ ([(⟨6, 5, ⟨#[98]⟩⟩ : Step)])) ++ (List.replicate (Int.toNat 12) (⟨3, 0, ⟨#[]⟩⟩ : Step)))).2.2) == 0))) :: T59, T57⟩ ?_
  have h2 : (((((Synod.newP T25).1).runP (((([(⟨6, 1, ⟨#[97]⟩⟩ : Step)]) ++ (List.replicate (Int.toNat 12) (⟨3, 0, ⟨#[]⟩⟩ : Step))) ++ ([(⟨6, 5, ⟨#[98]⟩⟩ : Step)])) ++ (List.replicate (Int.toNat 12) (⟨3, 0, ⟨#[]⟩⟩ : Step)))).2.2) == 0) = true := by first | kernel_rfl | decide
  rw [h2]
  refine owr 4 ⟨(46, .v (.bool (((((Synod.newP T25).1).runP (((([(⟨6, 1, ⟨#[97]⟩⟩ : Step)]) ++ (List.replicate (Int.toNat 12) (⟨3, 0, ⟨#[]⟩⟩ : Step))) ++ ([(⟨6, 5, ⟨#[98]⟩⟩ : Step)])) ++ (List.replicate (Int.toNat 12) (⟨3, 0, ⟨#[]⟩⟩ : Step)))).2.1) == 26))) :: (45, .v (.bool (((((Synod.newP T25).1).runP (((([(⟨6, 1, ⟨#[97]⟩⟩ : Step)]) ++ (List.replicate (Int.toNat 12) (⟨3, 0, ⟨#[]⟩⟩ : Step))) ++ ([(⟨6, 5, ⟨#[98]⟩⟩ : Step)])) ++ (List.replicate (Int.toNat 12) (⟨3, 0, ⟨#[]⟩⟩ : Step)))).2.1) == 26))) :: (44, .v (.bool (((((Synod.newP T25).1).runP (((([(⟨6, 1, ⟨#[97]⟩⟩ : Step)]) ++ (List.replicate (Int.toNat 12) (⟨3, 0, ⟨#[]⟩⟩ : Step))) ++ ([(⟨6, 5, ⟨#[98]⟩⟩ : Step)])) ++ (List.replicate (Int.toNat 12) (⟨3, 0, ⟨#[]⟩⟩ : Step)))).2.1) == 26))) :: T60, T57⟩ ?_
  have h3 : (((((Synod.newP T25).1).runP (((([(⟨6, 1, ⟨#[97]⟩⟩ : Step)]) ++ (List.replicate (Int.toNat 12) (⟨3, 0, ⟨#[]⟩⟩ : Step))) ++ ([(⟨6, 5, ⟨#[98]⟩⟩ : Step)])) ++ (List.replicate (Int.toNat 12) (⟨3, 0, ⟨#[]⟩⟩ : Step)))).2.1) == 26) = true := by first | kernel_rfl | decide
  rw [h3]
  refine owr 2 ⟨T61, T57⟩ ?_
  refine owo (VI (List.length T45.bids : Int)) [] [] ⟨(49, VI (List.length T45.bids : Int)) :: T61, T57⟩ (opE_len Bid.cs T45.bids (.s 48) 8 (by kernel_rfl) (by kernel_rfl) (.inl rfl)) ?_
  refine owr 3 ⟨(52, .v (.bool ((List.length T45.bids : Int) == 2))) :: (51, .v (.bool ((List.length T45.bids : Int) == 2))) :: (50, .v (.bool ((List.length T45.bids : Int) == 2))) :: (49, VI (List.length T45.bids : Int)) :: T61, T57⟩ ?_
  have h4 : ((List.length T45.bids : Int) == 2) = true := by first | kernel_rfl | decide
  rw [h4]
  refine owr 2 ⟨T63, T57⟩ ?_
  have hq6 : T45.bids[(0 : Int).toNat]? = some T62 := by kernel_rfl
  refine owo (.pim [VI T62.time, VI T62.phase, .v (.string T62.own), .v (.string T62.value), VI T62.best.at_.time, VI T62.best.at_.who, .v (.string T62.best.data), .v (.int .u64 (T62.heard.n : Int))] 0) [] [] ⟨T64, T57⟩ (opE_iad Bid.cs T45.bids (.s 54) (.c (VI 0)) 8 .i64 0 T62 (by kernel_rfl) (by kernel_rfl) (.inl rfl) rfl (by first | omega | exact of_decide_eq_true (by kernel_rfl)) hq6) ?_
  refine owr 5 ⟨(60, .v (.bool (T62.phase == 3))) :: (59, .v (.bool (T62.phase == 3))) :: (58, .v (.bool (T62.phase == 3))) :: T65, T57⟩ ?_
  have h7 : (T62.phase == 3) = true := by first | kernel_rfl | decide
  rw [h7]
  refine owr 2 ⟨T67, T57⟩ ?_
  have hq9 : T45.bids[(1 : Int).toNat]? = some T66 := by kernel_rfl
  refine owo (.pim [VI T66.time, VI T66.phase, .v (.string T66.own), .v (.string T66.value), VI T66.best.at_.time, VI T66.best.at_.who, .v (.string T66.best.data), .v (.int .u64 (T66.heard.n : Int))] 0) [] [] ⟨T68, T57⟩ (opE_iad Bid.cs T45.bids (.s 62) (.c (VI 1)) 8 .i64 1 T66 (by kernel_rfl) (by kernel_rfl) (.inl rfl) rfl (by first | omega | exact of_decide_eq_true (by kernel_rfl)) hq9) ?_
  refine owr 5 ⟨(68, .v (.bool (T66.phase == 3))) :: (67, .v (.bool (T66.phase == 3))) :: (66, .v (.bool (T66.phase == 3))) :: T69, T57⟩ ?_
  have h10 : (T66.phase == 3) = true := by first | kernel_rfl | decide
  rw [h10]
  refine owr 2 ⟨T70, T57⟩ ?_
  refine owo (.pim [VI T66.time, VI T66.phase, .v (.string T66.own), .v (.string T66.value), VI T66.best.at_.time, VI T66.best.at_.who, .v (.string T66.best.data), .v (.int .u64 (T66.heard.n : Int))] 0) [] [] ⟨T71, T57⟩ (opE_iad Bid.cs T45.bids (.s 70) (.c (VI 1)) 8 .i64 1 T66 (by kernel_rfl) (by kernel_rfl) (.inl rfl) rfl (by first | omega | exact of_decide_eq_true (by kernel_rfl)) hq9) ?_
  refine owr 5 ⟨(76, .v (.bool (strEq T66.value (⟨#[97]⟩)))) :: (75, .v (.bool (strEq T66.value (⟨#[97]⟩)))) :: (74, .v (.bool (strEq T66.value (⟨#[97]⟩)))) :: T72, T57⟩ ?_
  have h11 : strEq T66.value (⟨#[97]⟩) = true := by first | kernel_rfl | decide
  rw [h11]
  refine owr 2 ⟨T73, T57⟩ ?_
  refine owo (VI (List.length T45.votes : Int)) [] [] ⟨(79, VI (List.length T45.votes : Int)) :: T73, T57⟩ (opE_len Vote.cs T45.votes (.s 78) 6 (by kernel_rfl) (by kernel_rfl) (.inl rfl)) ?_
  refine owr 3 ⟨(82, .v (.bool ((List.length T45.votes : Int) == 0))) :: (81, .v (.bool ((List.length T45.votes : Int) == 0))) :: (80, .v (.bool ((List.length T45.votes : Int) == 0))) :: (79, VI (List.length T45.votes : Int)) :: T73, T57⟩ ?_
  have h12 : ((List.length T45.votes : Int) == 0) = true := by first | kernel_rfl | decide
  rw [h12]
  refine owr 4 ⟨(86, .v (.bool (((((Synod.newP T25).1).doP (⟨1, 0, ⟨#[]⟩⟩ : Step).kind (⟨1, 0, ⟨#[]⟩⟩ : Step).n (⟨1, 0, ⟨#[]⟩⟩ : Step).data).2) == 7))) :: (85, .v (.bool (((((Synod.newP T25).1).doP (⟨1, 0, ⟨#[]⟩⟩ : Step).kind (⟨1, 0, ⟨#[]⟩⟩ : Step).n (⟨1, 0, ⟨#[]⟩⟩ : Step).data).2) == 7))) :: (84, .v (.bool (((((Synod.newP T25).1).doP (⟨1, 0, ⟨#[]⟩⟩ : Step).kind (⟨1, 0, ⟨#[]⟩⟩ : Step).n (⟨1, 0, ⟨#[]⟩⟩ : Step).data).2) == 7))) :: T74, T57⟩ ?_
  have h13 : (((((Synod.newP T25).1).doP (⟨1, 0, ⟨#[]⟩⟩ : Step).kind (⟨1, 0, ⟨#[]⟩⟩ : Step).n (⟨1, 0, ⟨#[]⟩⟩ : Step).data).2) == 7) = true := by first | kernel_rfl | decide
  rw [h13]
  refine owr 1 ⟨T75, T57⟩ ?_
  refine owf [T26] ⟨(88, VI (((Synod.newP T25).1).checkE)) :: T75, T57⟩ F18_call (check_fn ((Synod.newP T25).1) (by first | assumption | exact Synod.new_big (by first | assumption | decide) | exact Synod.run_big _ _ | exact Synod.do_big _ _ _ _ | exact Synod.sat_big (by assumption) | exact Synod.zero_big | exact Synod.Ok.big (by assumption))) ?_
  refine owl 3 [0] ⟨[(0, .v (.bool ((((Synod.newP T25).1).checkE) == 0)))], T57⟩ ?_
  refine EL.ret ?_
  refine ⟨.inr rfl, .v (.bool ((((Synod.newP T25).1).checkE) == 0)), by kernel_rfl, Ale.of_eq ?_⟩
  focus (rfl)
end Go.Proofs.YtligepciannclaaDoor
namespace Go.Proofs.YtligepciannclaaDoor
set_option linter.unusedSimpArgs false
set_option linter.unusedVariables false
instance : GoT Voters := GoT.via (fun x => (x.weights, x.need))
theorem opens_i64 : Opens Tryd.prog 3 Int := GoT_i64 Tryd.underlying3 (by kernel_rfl)
theorem opens_str : Opens Tryd.prog 9 ByteArray := GoT_str Tryd.underlying9 (by kernel_rfl)
theorem opens_Step : Opens Tryd.prog 31 Step := Opens.via (opens_struct Tryd.underlying31 rfl (by kernel_rfl) (opens_cons opens_i64 rfl (opens_cons opens_i64 rfl (opens_last opens_str rfl)))) _ (fun p => ⟨p.1, p.2.1, p.2.2⟩) (fun _ => rfl)
theorem opens_Li64 : Opens Tryd.prog 22 (List Int) := opens_slice Tryd.underlying22 (by kernel_rfl) opens_i64 (by decide)
theorem opens_LStep : Opens Tryd.prog 40 (List Step) := opens_slice Tryd.underlying40 (by kernel_rfl) opens_Step (by decide)
theorem opens_Voters : Opens Tryd.prog 24 Voters := Opens.via (opens_struct Tryd.underlying24 rfl (by kernel_rfl) (opens_cons opens_Li64 rfl (opens_last opens_i64 rfl))) _ (fun p => ⟨p.1, p.2⟩) (fun _ => rfl)
instance : GoT Synod := GoT.via (fun x => (x.voters, x.seats, x.bids, x.votes))
theorem rep_ints {w : World} {A : Option Addr} {n c : Nat} {xs : List Int} (h : GoT.rep w w.heap.size [.slice A n c] xs) : Rep (E0 w fun b => b < w.heap.size) (.slice A n c) (.lst 1 (xs.map cI)) :=
  rep_list (fun x : Int => [I x]) (fun x => -9223372036854775808 ≤ x ∧ x ≤ 9223372036854775807) (fun h => h) (fun _ => rfl) (by intro x v hv; simp at hv; subst hv; exact ⟨rfl, rfl⟩) h
theorem Voters.av {w : World} {cs : List Value} {v : Voters} (h : GoT.rep w w.heap.size cs v) :
    Rep (E0 w fun b => b < w.heap.size) (.agg cs.toArray) (.agg [.lst 1 (v.weights.map cI), VI v.need]) ∧ v.weights.length ≤ 9223372036854775807 := by
  obtain ⟨c0, r0, rfl, h0, h1⟩ := h
  obtain ⟨A0, n0, k0, rfl, g0⟩ := h0
  obtain ⟨rfl, _⟩ := h1
  refine ⟨R2.agg (.cons (rep_ints ⟨_, _, _, rfl, g0⟩) (.cons (.v rfl) .nil)), ?_⟩
  have := g0.1; have := g0.2.1; have := g0.2.2.1
  dsimp only at *
  omega
theorem gl_gN : Tryd.prog.globalNamed "math/bits.deBruijn64tab" = some 0 := by kernel_rfl
theorem gl_cells {W : World} (h : laidMetH Tryd.prog [("math/bits.deBruijn64tab", Rows.laid_math_bits_deBruijn64tab)] W) : ∀ (i : Nat) v, glT[i]? = some v → W.cell? ⟨0, i, none⟩ = some v := by
  rw [MakeChecks.laidMetH_plain _ _ _ (by kernel_rfl)] at h
  have hT := Lib.tabIs_of_head (k := .u8) (zs := glZ) gl_gN (by kernel_rfl) Tryd.underlying118 Tryd.underlying5 (by kernel_rfl) (by kernel_rfl) h
  intro i v hv
  have hi : i < glZ.length := by
    have := (List.getElem?_eq_some_iff.1 hv).1; simpa [glT] using this
  have := hT.cell gl_gN i hi
  rw [this]
  simp only [glT, List.getElem?_map, Option.map_eq_some_iff] at hv
  obtain ⟨z, hz, rfl⟩ := hv
  simp [List.getD, hz]
theorem glE_of {W : World} (h : laidMetH Tryd.prog [("math/bits.deBruijn64tab", Rows.laid_math_bits_deBruijn64tab)] W) : GlE (E0 W fun b => b < W.heap.size) :=
  ⟨cell_lt (gl_cells h 0 _ rfl), gl_cells h⟩
end Go.Proofs.YtligepciannclaaDoor
set_option maxRecDepth 100000
set_option linter.unusedVariables false
set_option linter.unusedSimpArgs false
namespace Go.Proofs.YtligepciannclaaDoor
/-- A synod behind steps: what is known of it. -/
structure Sat (v : Voters) (s : Synod) : Prop where
  ok : s.Ok
  inv : ∃ H : Hist, Inv s H
  bound : Bound s
theorem Synod.sat_sat {v : Voters} {l : List Step} (h : (Synod.satP v l).2 = true) : Sat v (Synod.satP v l).1 := by
  obtain ⟨hq, hr, ok⟩ := Synod.sat_is h
  obtain ⟨H, I, _⟩ := hr.inv (Inv.start hq)
  exact ⟨ok, ⟨H, I⟩, hr.bound (Inv.start hq) (Bound.start v)⟩
theorem Sat.few {v : Voters} {s : Synod} (S : Sat v s) : s.bids.length ≤ 1000000 := by have := S.ok.few; omega
end Go.Proofs.YtligepciannclaaDoor
set_option maxRecDepth 100000
set_option linter.unusedVariables false
set_option linter.unusedSimpArgs false
namespace Go.Proofs.YtligepciannclaaDoor
/-- Whoever bids puts what some bid would have; so does what a seat keeps. -/
theorem Sat.valid {v : Voters} {s : Synod} (S : Sat v s) {i : Nat} {b : Bid} (hb : s.bids[i]? = some b) (h : b.phase > 1) : ∃ (j : Nat) (e : Bid), s.bids[j]? = some e ∧ e.own = b.value := by
  obtain ⟨H, I⟩ := S.inv
  have := (I.time _ _ hb).2
  exact Go.Proofs.YtligepciannclaaDoor.valid I S.few hb (by omega)
theorem Sat.valid_seat {v : Voters} {s : Synod} (S : Sat v s) {n : Nat} {st : Seat} (hst : s.seats[n]? = some st) (h : ¬ (st.kept.at_.time = 0 ∧ st.kept.at_.who = 0)) : ∃ (j : Nat) (e : Bid), s.bids[j]? = some e ∧ e.own = st.kept.data := by
  obtain ⟨H, I⟩ := S.inv
  refine Go.Proofs.YtligepciannclaaDoor.valid_seat I S.few hst fun hz => h ?_
  rw [hz]; exact ⟨rfl, rfl⟩
/-- All of it some bid would have. -/
def Owned (s : Synod) (out : List ByteArray) : Prop := ∀ x, x ∈ out → ∃ (j : Nat) (e : Bid), s.bids[j]? = some e ∧ e.own = x
theorem Owned.nil (s : Synod) : Owned s [] := fun x hx => by simp at hx
theorem Owned.add {s : Synod} {out : List ByteArray} {x : ByteArray} (h : Owned s out) (hx : ∃ (j : Nat) (e : Bid), s.bids[j]? = some e ∧ e.own = x) : Owned s (out ++ [x]) := by
  intro y hy
  rcases List.mem_append.1 hy with hy | hy
  · exact h y hy
  · simp only [List.mem_singleton] at hy; subst hy; exact hx
theorem Owned.no {s : Synod} {out : List ByteArray} (h : Owned s out) {i k : Nat} {x : ByteArray} (hx : out[i]? = some x) (hk : ¬ k < s.bids.length) (hn : ∀ (j : Nat) (e : Bid), j < k → s.bids[j]? = some e → ¬ some e.own = out[i]?) : False := by
  obtain ⟨j, e, h1, h2⟩ := h x (List.mem_of_getElem? hx)
  have := (List.getElem?_eq_some_iff.1 h1).1
  exact hn j e (by omega) h1 (by rw [hx, h2])
end Go.Proofs.YtligepciannclaaDoor
