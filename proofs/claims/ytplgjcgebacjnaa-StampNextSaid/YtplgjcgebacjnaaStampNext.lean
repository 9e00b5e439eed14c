/- Next is greater than all timestamps of the list, and different clients get different timestamps: the law StampNext returns true. No condition. -/
import Derived.Test.YtplgjcgebacjnaaStampB
import Derived.Outline
namespace Go.Proofs.Ytplgjcgebacjnaa
set_option linter.unusedSimpArgs false
set_option linter.unusedVariables false
open Go.ChangeShapes Go.WideShapes Go.ChangeAt Go.RowKit
open Go.ChangeMaps (open_string shut_string)
set_option maxRecDepth 100000 in
set_option maxHeartbeats 4000000 in
theorem StampNext_walk {w : World} (l : List Stamp) (Al : Option Addr) (nl cl : Nat) (hrl : GoT.rep w w.heap.size [.slice Al nl cl] l) (a : Int) (_ : (Lit.int .i64 a).wf = true) (b : Int) (_ : (Lit.int .i64 b).wf = true) (i : Int) (_ : (Lit.int .i64 i).wf = true) :
    Calls Try.prog 6 #[.slice Al nl cl, I a, I b, I i] w fun e w' => e = .returned (.bool true) ∧ Below w.heap.size w w' := by
  obtain ⟨ln, l1, l2, l4⟩ := stamps_open hrl
  have Hr := Lib.hid hrl
  have Ln := Lib.hid ln
  have L4 := Lib.hid l4
  clear hrl ln l4
  have key : ∀ who, (∃ e, (e != 0) = true ∧ Stamp.nextP l who = (⟨0, 0⟩, e)) ∨ ((0 ≤ who ∧ who ≤ 31) ∧ (Stamp.maxP l).2 = 0 ∧ (0 ≤ (Stamp.maxS l).time ∧ (Stamp.maxS l).time < 1000000) ∧ Stamp.nextP l who = (⟨(Stamp.maxS l).time + 1, who⟩, 0)) := by
    intro who
    rcases Stamp.maxP_cases l with ⟨e, he, hm⟩ | ⟨h64, hok, hm⟩
    · exact .inl ⟨e, he, by unfold Stamp.nextP; rw [hm, if_neg (by simpa using he)]⟩
    · have hb := (Stamp.check_0.1 (Stamp.max_ok hok)).1
      by_cases h : (0 ≤ who ∧ who ≤ 31) ∧ (Stamp.maxS l).time ≠ 1000000
      · exact .inr ⟨h.1, by rw [hm], ⟨hb.1, by omega⟩, by unfold Stamp.nextP; rw [hm, if_pos rfl, if_pos h]⟩
      · exact .inl ⟨3, rfl, by unfold Stamp.nextP; rw [hm, if_pos rfl, if_neg h]⟩
  have arms := True.intro
  rcases key a with ⟨e, he, hA⟩ | ⟨ha, hm, ht, hA⟩
  · have b0 := Below.refl w.heap.size w
    have HK := Known.nil w
    go_enter Try.func6, Try.ntmps6
    go_wp2_with (first | (go_at_call 8; (refine ( snext_any l _ _ _ _ _ (GoT.step Hr.out (by (repeat' (first | exact Below.refl _ _ | assumption | (refine ba ?_ _) | (refine bdr ?_) | (refine bset ?_ _ ?_ _) | (refine bt ?_ (by assumption)) | (simp; done) | (simp; omega)))))).mono ?_); rintro e w1 ⟨rfl, b1⟩; have bw := Known.bw HK (by (repeat' (first | exact Below.refl _ _ | assumption | (refine ba ?_ _) | (refine bdr ?_) | (refine bset ?_ _ ?_ _) | (refine bt ?_ (by assumption)) | (simp; done) | (simp; omega)))) b1; have HK' := Known.step b1 (by (repeat' (first | (with_reducible exact HK) | (with_reducible apply Known.drew) | (with_reducible apply Known.alloc) | (with_reducible apply Known.allocO) | (with_reducible apply Known.setCell)))); (try replace hr := GoT.step hr bw); (try replace hs := GoT.step hs bw); (try replace ht := GoT.step ht bw); (try replace hu := GoT.step hu bw); replace b0 := bt b0 bw; clear bw b1; (try clear kn); (try clear c0 f0 hz); replace HK := HK'; clear HK'; ((try simp only [World.size_alloc, World.size_setCell, World.size_drew] at HK); have kn := HK; simp [Known, setL] at kn); obtain ⟨c0, f0⟩ := bcell b0; have hz := b0.size) | (go_at_call 11; (with_reducible refine (begun_any  _).mono ?_); rintro e w1 ⟨rfl, b1⟩; have bw := Known.bw HK (by (repeat' (first | exact Below.refl _ _ | assumption | (refine ba ?_ _) | (refine bdr ?_) | (refine bset ?_ _ ?_ _) | (refine bt ?_ (by assumption)) | (simp; done) | (simp; omega)))) b1; have HK' := Known.step b1 (by (repeat' (first | (with_reducible exact HK) | (with_reducible apply Known.drew) | (with_reducible apply Known.alloc) | (with_reducible apply Known.allocO) | (with_reducible apply Known.setCell)))); (try replace hr := GoT.step hr bw); (try replace hs := GoT.step hs bw); (try replace ht := GoT.step ht bw); (try replace hu := GoT.step hu bw); replace b0 := bt b0 bw; clear bw b1; (try clear kn); (try clear c0 f0 hz); replace HK := HK'; clear HK'; ((try simp only [World.size_alloc, World.size_setCell, World.size_drew] at HK); have kn := HK; simp [Known, setL] at kn); obtain ⟨c0, f0⟩ := bcell b0; have hz := b0.size) | (go_at_call 14; (with_reducible refine (sless_any ⟨_, _⟩ ⟨_, _⟩ _).mono ?_); rintro e w1 ⟨rfl, b1⟩; have bw := Known.bw HK (by (repeat' (first | exact Below.refl _ _ | assumption | (refine ba ?_ _) | (refine bdr ?_) | (refine bset ?_ _ ?_ _) | (refine bt ?_ (by assumption)) | (simp; done) | (simp; omega)))) b1; have HK' := Known.step b1 (by (repeat' (first | (with_reducible exact HK) | (with_reducible apply Known.drew) | (with_reducible apply Known.alloc) | (with_reducible apply Known.allocO) | (with_reducible apply Known.setCell)))); (try replace hr := GoT.step hr bw); (try replace hs := GoT.step hs bw); (try replace ht := GoT.step ht bw); (try replace hu := GoT.step hu bw); replace b0 := bt b0 bw; clear bw b1; (try clear kn); (try clear c0 f0 hz); replace HK := HK'; clear HK'; ((try simp only [World.size_alloc, World.size_setCell, World.size_drew] at HK); have kn := HK; simp [Known, setL] at kn); obtain ⟨c0, f0⟩ := bcell b0; have hz := b0.size) | (go_at_call 12; (with_reducible refine (scheck_any ⟨_, _⟩ _).mono ?_); rintro e w1 ⟨rfl, b1⟩; have bw := Known.bw HK (by (repeat' (first | exact Below.refl _ _ | assumption | (refine ba ?_ _) | (refine bdr ?_) | (refine bset ?_ _ ?_ _) | (refine bt ?_ (by assumption)) | (simp; done) | (simp; omega)))) b1; have HK' := Known.step b1 (by (repeat' (first | (with_reducible exact HK) | (with_reducible apply Known.drew) | (with_reducible apply Known.alloc) | (with_reducible apply Known.allocO) | (with_reducible apply Known.setCell)))); (try replace hr := GoT.step hr bw); (try replace hs := GoT.step hs bw); (try replace ht := GoT.step ht bw); (try replace hu := GoT.step hu bw); replace b0 := bt b0 bw; clear bw b1; (try clear kn); (try clear c0 f0 hz); replace HK := HK'; clear HK'; ((try simp only [World.size_alloc, World.size_setCell, World.size_drew] at HK); have kn := HK; simp [Known, setL] at kn); obtain ⟨c0, f0⟩ := bcell b0; have hz := b0.size))
    all_goals first | (go_ret; refine ⟨rb ?_, by (repeat' (first | exact Below.refl _ _ | assumption | (refine ba ?_ _) | (refine bdr ?_) | (refine bset ?_ _ ?_ _) | (refine bt ?_ (by assumption)) | (simp; done) | (simp; omega)))⟩; (first | rfl | (simp; done) | (simp [*]; done) | ((try simp only [wi_iff, wi_iffF, bne_iff_ne, beq_iff_eq, Bool.not_eq_true', bne_eq_false_iff_eq, beq_eq_false_iff_ne, ne_eq, Bool.not_eq_true, Bool.not_eq_false', Bool.not_true, Bool.not_false, decide_eq_true_eq, decide_eq_false_iff_not, Bool.and_eq_true, Bool.or_eq_true, Bool.and_eq_false_imp, Bool.or_eq_false_iff] at *); simp; omega) | (exfalso; (try simp only [wi_iff, wi_iffF, bne_iff_ne, beq_iff_eq, Bool.not_eq_true', bne_eq_false_iff_eq, beq_eq_false_iff_ne, ne_eq, Bool.not_eq_true, Bool.not_eq_false', Bool.not_true, Bool.not_false, decide_eq_true_eq, decide_eq_false_iff_not, Bool.and_eq_true, Bool.or_eq_true, Bool.and_eq_false_imp, Bool.or_eq_false_iff] at *); omega) | (simp_all; done) | (simp_all; omega))) | (exfalso; (try simp only [wi_iff, wi_iffF, bne_iff_ne, beq_iff_eq, Bool.not_eq_true', bne_eq_false_iff_eq, beq_eq_false_iff_ne, ne_eq, Bool.not_eq_true, Bool.not_eq_false', Bool.not_true, Bool.not_false, decide_eq_true_eq, decide_eq_false_iff_not, Bool.and_eq_true, Bool.or_eq_true, Bool.and_eq_false_imp, Bool.or_eq_false_iff] at *); omega) | (exfalso; simp_all; done) | (exfalso; simp_all; omega) | (go_ret; refine ⟨rb ?_, by (repeat' (first | exact Below.refl _ _ | assumption | (refine ba ?_ _) | (refine bdr ?_) | (refine bset ?_ _ ?_ _) | (refine bt ?_ (by assumption)) | (simp; done) | (simp; omega)))⟩) | skip
  · obtain ⟨t, hT⟩ : ∃ t, (Stamp.maxS l).time + 1 = t := ⟨_, rfl⟩
    rw [hT] at hA
    have hck : (⟨t, a⟩ : Stamp).checkE = 0 := by rw [Stamp.check_0]; show (0 ≤ t ∧ t ≤ 1000000) ∧ (0 ≤ a ∧ a ≤ 31); omega
    have hB : (∃ f, (f != 0) = true ∧ Stamp.nextP l b = (⟨0, 0⟩, f)) ∨ Stamp.nextP l b = (⟨t, b⟩, 0) := by
      rcases key b with h | ⟨_, _, _, h⟩
      · exact .inl h
      · exact .inr (by rw [h, hT])
    have hless : ∀ s, s ∈ l → s.lessB ⟨t, a⟩ = true := by
      intro s hs
      have := of_decide_eq_false (Stamp.max_ge l hs)
      exact Stamp.lessB_iff.2 (by show s.time < t ∨ _; omega)
    clear key ht hT hm
    have hin : (0 ≤ i ∧ i < nl ∧ ∃ (s : Stamp) (b' off : Nat) (k : Nat), i = k ∧ Al = some ⟨b', off, none⟩ ∧ b' < w.heap.size ∧ w.cell? ⟨b', off + k * 2, none⟩ = some (I s.time) ∧ w.cell? ⟨b', off + k * 2 + 1, none⟩ = some (I s.who) ∧ s.lessB ⟨t, a⟩ = true) ∨ decide (0 ≤ i) = false ∨ (decide (0 ≤ i) = true ∧ decide (i < (nl : Int)) = false) := by
      by_cases h0 : 0 ≤ i
      · by_cases h1 : i < nl
        · left
          obtain ⟨k, rfl⟩ := Int.eq_ofNat_of_zero_le h0
          have hk : k < l.length := by have := Ln.out; omega
          rcases L4.out with h | ⟨b', off, hA', hb', hc⟩
          · subst h; simp at hk
          · exact ⟨h0, h1, l[k], b', off, k, rfl, hA', hb', (hc k hk).1, (hc k hk).2, hless _ (List.getElem_mem hk)⟩
        · right; right; exact ⟨by simpa using h0, by simpa using h1⟩
      · right; left; simpa using h0
    clear hless
    rcases hin with ⟨i0, i1, s, b', off, k, rfl, rfl, hb', d0, d1, hs⟩ | i0 | ⟨i0, i1⟩
    all_goals
      rcases hB with ⟨f, hf, hB⟩ | hB
      all_goals
        have b0 := Below.refl w.heap.size w
        have HK := Known.nil w
        go_enter Try.func6, Try.ntmps6
        go_wp2_with (first | (go_at_call 8; (refine ( snext_any l _ _ _ _ _ (GoT.step Hr.out (by (repeat' (first | exact Below.refl _ _ | assumption | (refine ba ?_ _) | (refine bdr ?_) | (refine bset ?_ _ ?_ _) | (refine bt ?_ (by assumption)) | (simp; done) | (simp; omega)))))).mono ?_); rintro e w1 ⟨rfl, b1⟩; have bw := Known.bw HK (by (repeat' (first | exact Below.refl _ _ | assumption | (refine ba ?_ _) | (refine bdr ?_) | (refine bset ?_ _ ?_ _) | (refine bt ?_ (by assumption)) | (simp; done) | (simp; omega)))) b1; have HK' := Known.step b1 (by (repeat' (first | (with_reducible exact HK) | (with_reducible apply Known.drew) | (with_reducible apply Known.alloc) | (with_reducible apply Known.allocO) | (with_reducible apply Known.setCell)))); (try replace hr := GoT.step hr bw); (try replace hs := GoT.step hs bw); (try replace ht := GoT.step ht bw); (try replace hu := GoT.step hu bw); replace b0 := bt b0 bw; clear bw b1; (try clear kn); (try clear c0 f0 hz); replace HK := HK'; clear HK'; ((try simp only [World.size_alloc, World.size_setCell, World.size_drew] at HK); have kn := HK; simp [Known, setL] at kn); obtain ⟨c0, f0⟩ := bcell b0; have hz := b0.size) | (go_at_call 11; (with_reducible refine (begun_any  _).mono ?_); rintro e w1 ⟨rfl, b1⟩; have bw := Known.bw HK (by (repeat' (first | exact Below.refl _ _ | assumption | (refine ba ?_ _) | (refine bdr ?_) | (refine bset ?_ _ ?_ _) | (refine bt ?_ (by assumption)) | (simp; done) | (simp; omega)))) b1; have HK' := Known.step b1 (by (repeat' (first | (with_reducible exact HK) | (with_reducible apply Known.drew) | (with_reducible apply Known.alloc) | (with_reducible apply Known.allocO) | (with_reducible apply Known.setCell)))); (try replace hr := GoT.step hr bw); (try replace hs := GoT.step hs bw); (try replace ht := GoT.step ht bw); (try replace hu := GoT.step hu bw); replace b0 := bt b0 bw; clear bw b1; (try clear kn); (try clear c0 f0 hz); replace HK := HK'; clear HK'; ((try simp only [World.size_alloc, World.size_setCell, World.size_drew] at HK); have kn := HK; simp [Known, setL] at kn); obtain ⟨c0, f0⟩ := bcell b0; have hz := b0.size) | (go_at_call 14; (with_reducible refine (sless_any ⟨_, _⟩ ⟨_, _⟩ _).mono ?_); rintro e w1 ⟨rfl, b1⟩; have bw := Known.bw HK (by (repeat' (first | exact Below.refl _ _ | assumption | (refine ba ?_ _) | (refine bdr ?_) | (refine bset ?_ _ ?_ _) | (refine bt ?_ (by assumption)) | (simp; done) | (simp; omega)))) b1; have HK' := Known.step b1 (by (repeat' (first | (with_reducible exact HK) | (with_reducible apply Known.drew) | (with_reducible apply Known.alloc) | (with_reducible apply Known.allocO) | (with_reducible apply Known.setCell)))); (try replace hr := GoT.step hr bw); (try replace hs := GoT.step hs bw); (try replace ht := GoT.step ht bw); (try replace hu := GoT.step hu bw); replace b0 := bt b0 bw; clear bw b1; (try clear kn); (try clear c0 f0 hz); replace HK := HK'; clear HK'; ((try simp only [World.size_alloc, World.size_setCell, World.size_drew] at HK); have kn := HK; simp [Known, setL] at kn); obtain ⟨c0, f0⟩ := bcell b0; have hz := b0.size) | (go_at_call 12; (with_reducible refine (scheck_any ⟨_, _⟩ _).mono ?_); rintro e w1 ⟨rfl, b1⟩; have bw := Known.bw HK (by (repeat' (first | exact Below.refl _ _ | assumption | (refine ba ?_ _) | (refine bdr ?_) | (refine bset ?_ _ ?_ _) | (refine bt ?_ (by assumption)) | (simp; done) | (simp; omega)))) b1; have HK' := Known.step b1 (by (repeat' (first | (with_reducible exact HK) | (with_reducible apply Known.drew) | (with_reducible apply Known.alloc) | (with_reducible apply Known.allocO) | (with_reducible apply Known.setCell)))); (try replace hr := GoT.step hr bw); (try replace hs := GoT.step hs bw); (try replace ht := GoT.step ht bw); (try replace hu := GoT.step hu bw); replace b0 := bt b0 bw; clear bw b1; (try clear kn); (try clear c0 f0 hz); replace HK := HK'; clear HK'; ((try simp only [World.size_alloc, World.size_setCell, World.size_drew] at HK); have kn := HK; simp [Known, setL] at kn); obtain ⟨c0, f0⟩ := bcell b0; have hz := b0.size))
        ((try (refine know_here (w0 := w) (by (repeat' (first | (with_reducible exact HK) | (with_reducible apply Known.drew) | (with_reducible apply Known.alloc) | (with_reducible apply Known.allocO) | (with_reducible apply Known.setCell)))) (by (repeat' (first | exact Below.refl _ _ | assumption | (refine ba ?_ _) | (refine bdr ?_) | (refine bset ?_ _ ?_ _) | (refine bt ?_ (by assumption)) | (simp; done) | (simp; omega)))) (fun HK' b0' => ?_); replace HK := HK'; replace b0 := b0'; clear HK' b0'; (try clear kn); (try clear c0 f0 hz); ((try simp only [World.size_alloc, World.size_setCell, World.size_drew] at HK); have kn := HK; simp [Known, setL] at kn); obtain ⟨c0, f0⟩ := bcell b0; have hz := b0.size))
         refine wp_region_quiet_below (by kernel_rfl) (by kernel_rfl) ?_
         repeat (any_goals (first | go_big_quiet_step (first | (go_at_call 11; exact Calls.regrown_of (begun_any  _)) | (go_at_call 14; exact Calls.regrown_of (sless_any ⟨_, _⟩ ⟨_, _⟩ _)) | (go_at_call 12; exact Calls.regrown_of (scheck_any ⟨_, _⟩ _))) | quiet_step (first | (go_at_call 11; exact Calls.regrown_of (begun_any  _)) | (go_at_call 14; exact Calls.regrown_of (sless_any ⟨_, _⟩ ⟨_, _⟩ _)) | (go_at_call 12; exact Calls.regrown_of (scheck_any ⟨_, _⟩ _)))))
         refine wpQuiet_nil ?_
         intro w1 hq
         have b1 := below_of_regrown hq
         clear hq
         have bw := Known.bw HK (by (repeat' (first | exact Below.refl _ _ | assumption | (refine ba ?_ _) | (refine bdr ?_) | (refine bset ?_ _ ?_ _) | (refine bt ?_ (by assumption)) | (simp; done) | (simp; omega)))) b1; have HK' := Known.step b1 (by (repeat' (first | (with_reducible exact HK) | (with_reducible apply Known.drew) | (with_reducible apply Known.alloc) | (with_reducible apply Known.allocO) | (with_reducible apply Known.setCell)))); (try replace hr := GoT.step hr bw); (try replace hs := GoT.step hs bw); (try replace ht := GoT.step ht bw); (try replace hu := GoT.step hu bw); replace b0 := bt b0 bw; clear bw b1; (try clear kn); (try clear c0 f0 hz); replace HK := HK'; clear HK'; ((try simp only [World.size_alloc, World.size_setCell, World.size_drew] at HK); have kn := HK; simp [Known, setL] at kn); obtain ⟨c0, f0⟩ := bcell b0; have hz := b0.size)
        go_wp2_with (first | (go_at_call 11; (with_reducible refine (begun_any  _).mono ?_); rintro e w1 ⟨rfl, b1⟩; have bw := Known.bw HK (by (repeat' (first | exact Below.refl _ _ | assumption | (refine ba ?_ _) | (refine bdr ?_) | (refine bset ?_ _ ?_ _) | (refine bt ?_ (by assumption)) | (simp; done) | (simp; omega)))) b1; have HK' := Known.step b1 (by (repeat' (first | (with_reducible exact HK) | (with_reducible apply Known.drew) | (with_reducible apply Known.alloc) | (with_reducible apply Known.allocO) | (with_reducible apply Known.setCell)))); (try replace hr := GoT.step hr bw); (try replace hs := GoT.step hs bw); (try replace ht := GoT.step ht bw); (try replace hu := GoT.step hu bw); replace b0 := bt b0 bw; clear bw b1; (try clear kn); (try clear c0 f0 hz); replace HK := HK'; clear HK'; ((try simp only [World.size_alloc, World.size_setCell, World.size_drew] at HK); have kn := HK; simp [Known, setL] at kn); obtain ⟨c0, f0⟩ := bcell b0; have hz := b0.size) | (go_at_call 14; (with_reducible refine (sless_any ⟨_, _⟩ ⟨_, _⟩ _).mono ?_); rintro e w1 ⟨rfl, b1⟩; have bw := Known.bw HK (by (repeat' (first | exact Below.refl _ _ | assumption | (refine ba ?_ _) | (refine bdr ?_) | (refine bset ?_ _ ?_ _) | (refine bt ?_ (by assumption)) | (simp; done) | (simp; omega)))) b1; have HK' := Known.step b1 (by (repeat' (first | (with_reducible exact HK) | (with_reducible apply Known.drew) | (with_reducible apply Known.alloc) | (with_reducible apply Known.allocO) | (with_reducible apply Known.setCell)))); (try replace hr := GoT.step hr bw); (try replace hs := GoT.step hs bw); (try replace ht := GoT.step ht bw); (try replace hu := GoT.step hu bw); replace b0 := bt b0 bw; clear bw b1; (try clear kn); (try clear c0 f0 hz); replace HK := HK'; clear HK'; ((try simp only [World.size_alloc, World.size_setCell, World.size_drew] at HK); have kn := HK; simp [Known, setL] at kn); obtain ⟨c0, f0⟩ := bcell b0; have hz := b0.size) | (go_at_call 12; (with_reducible refine (scheck_any ⟨_, _⟩ _).mono ?_); rintro e w1 ⟨rfl, b1⟩; have bw := Known.bw HK (by (repeat' (first | exact Below.refl _ _ | assumption | (refine ba ?_ _) | (refine bdr ?_) | (refine bset ?_ _ ?_ _) | (refine bt ?_ (by assumption)) | (simp; done) | (simp; omega)))) b1; have HK' := Known.step b1 (by (repeat' (first | (with_reducible exact HK) | (with_reducible apply Known.drew) | (with_reducible apply Known.alloc) | (with_reducible apply Known.allocO) | (with_reducible apply Known.setCell)))); (try replace hr := GoT.step hr bw); (try replace hs := GoT.step hs bw); (try replace ht := GoT.step ht bw); (try replace hu := GoT.step hu bw); replace b0 := bt b0 bw; clear bw b1; (try clear kn); (try clear c0 f0 hz); replace HK := HK'; clear HK'; ((try simp only [World.size_alloc, World.size_setCell, World.size_drew] at HK); have kn := HK; simp [Known, setL] at kn); obtain ⟨c0, f0⟩ := bcell b0; have hz := b0.size))
        all_goals first | (go_ret; refine ⟨rb ?_, by (repeat' (first | exact Below.refl _ _ | assumption | (refine ba ?_ _) | (refine bdr ?_) | (refine bset ?_ _ ?_ _) | (refine bt ?_ (by assumption)) | (simp; done) | (simp; omega)))⟩; (first | rfl | (simp; done) | (simp [*]; done) | ((try simp only [wi_iff, wi_iffF, bne_iff_ne, beq_iff_eq, Bool.not_eq_true', bne_eq_false_iff_eq, beq_eq_false_iff_ne, ne_eq, Bool.not_eq_true, Bool.not_eq_false', Bool.not_true, Bool.not_false, decide_eq_true_eq, decide_eq_false_iff_not, Bool.and_eq_true, Bool.or_eq_true, Bool.and_eq_false_imp, Bool.or_eq_false_iff] at *); simp; omega) | (exfalso; (try simp only [wi_iff, wi_iffF, bne_iff_ne, beq_iff_eq, Bool.not_eq_true', bne_eq_false_iff_eq, beq_eq_false_iff_ne, ne_eq, Bool.not_eq_true, Bool.not_eq_false', Bool.not_true, Bool.not_false, decide_eq_true_eq, decide_eq_false_iff_not, Bool.and_eq_true, Bool.or_eq_true, Bool.and_eq_false_imp, Bool.or_eq_false_iff] at *); omega) | (simp_all; done) | (simp_all; omega))) | (exfalso; (try simp only [wi_iff, wi_iffF, bne_iff_ne, beq_iff_eq, Bool.not_eq_true', bne_eq_false_iff_eq, beq_eq_false_iff_ne, ne_eq, Bool.not_eq_true, Bool.not_eq_false', Bool.not_true, Bool.not_false, decide_eq_true_eq, decide_eq_false_iff_not, Bool.and_eq_true, Bool.or_eq_true, Bool.and_eq_false_imp, Bool.or_eq_false_iff] at *); omega) | (exfalso; simp_all; done) | (exfalso; simp_all; omega) | (go_ret; refine ⟨rb ?_, by (repeat' (first | exact Below.refl _ _ | assumption | (refine ba ?_ _) | (refine bdr ?_) | (refine bset ?_ _ ?_ _) | (refine bt ?_ (by assumption)) | (simp; done) | (simp; omega)))⟩) | skip
theorem StampNext_own : ownKnob Try.prog.godebug = none := by kernel_rfl
theorem StampNext_laidOut : laidOutB Try.prog = true := by kernel_rfl
set_option maxRecDepth 100000 in
set_option linter.unusedVariables false in
theorem StampNext_lifted (os : Os) (started : os.Started) (H : Type) (enc : TypeId × Value → H) :
    ReturnsInHanded {} Try.checked os 6 .any (Rows.stampNextSpec.pre6 enc Try.prog Try.f6 Rows.stampNextRow.domain false) (Rows.stampNextSpec.post enc Try.prog Try.f6 false true false false) := by
  refine returnsInHanded_of_change (C := Try.checked) StampNext_own started (by kernel_rfl) Try.func6
    (ChangeSpec.witness6 (enc := enc) (C := Try.checked) false ⟨#[], #[.slice none 0 0, .int .i64 0, .int .i64 0, .int .i64 0], []⟩ 8 (by kernel_rfl) (by kernel_rfl) (by kernel_rfl) (by kernel_rfl)) ?_
  intro W base args ds gs before hval0 hW hcnd _
  have hval : ∀ (j : Nat) t v, Try.f6.params[j]? = some t → args[j]? = some v → Value.okWide Try.prog W .any base t v := hval0
  have hW' := hW
  obtain ⟨p, q, hA0, hV, rfl, hfz, hnd⟩ := hW
  have hA : DataW.TrodAll enc Try.prog W 0 (fun _ => true) true Try.f6.params.toList args.toList ds p := hA0
  rw [Try.params6] at hA hval
  obtain ⟨v0, vs0, d0, ds0, p0, q0, hargs, rfl, rfl, h0, r0⟩ := trodAll_cons hA
  obtain ⟨v1, vs1, d1, ds1, p1, q1, rfl, rfl, rfl, h1, r1⟩ := trodAll_cons r0
  obtain ⟨v2, vs2, d2, ds2, p2, q2, rfl, rfl, rfl, h2, r2⟩ := trodAll_cons r1
  obtain ⟨v3, vs3, d3, ds3, p3, q3, rfl, rfl, rfl, h3, r3⟩ := trodAll_cons r2
  obtain ⟨rfl, rfl, rfl⟩ := trodAll_nil r3
  obtain rfl : args = #[v0, v1, v2, v3] := by cases args; simp_all
  obtain ⟨rfl, rfl⟩ := trodVars_none hV
  have k0 := h0
  have lt0 : ∀ x ∈ p0, x.block < W.heap.size := by obtain ⟨m, hm⟩ := k0; exact DataW.trod_lt m _ _ _ hm
  obtain ⟨x0, A0, n0, c0, rfl, w0⟩ := open_list opens_LStamp Try.underlying24 (hval 0 24 v0 rfl rfl) h0
  have k1 := h1
  have lt1 : ∀ x ∈ p1, x.block < W.heap.size := by obtain ⟨m, hm⟩ := k1; exact DataW.trod_lt m _ _ _ hm
  obtain ⟨a1, rfl, e1, e1', w1⟩ := open_int Try.underlying3 (hval 1 3 v1 rfl rfl) h1
  have k2 := h2
  have lt2 : ∀ x ∈ p2, x.block < W.heap.size := by obtain ⟨m, hm⟩ := k2; exact DataW.trod_lt m _ _ _ hm
  obtain ⟨a2, rfl, e2, e2', w2⟩ := open_int Try.underlying3 (hval 2 3 v2 rfl rfl) h2
  have k3 := h3
  have lt3 : ∀ x ∈ p3, x.block < W.heap.size := by obtain ⟨m, hm⟩ := k3; exact DataW.trod_lt m _ _ _ hm
  obtain ⟨a3, rfl, e3, e3', w3⟩ := open_int Try.underlying3 (hval 3 3 v3 rfl rfl) h3
  clear hA0 hval0
  refine (StampNext_walk (w := W) x0 A0 n0 c0 w0 a1 w1 a2 w2 a3 w3).mono fun e W' ⟨he, bel⟩ => ?_
  subst he
  exact ⟨_, rfl, _, _, _, [], _, [], hW', trodAll_mk1 (shut_bool Try.underlying4 _), (trodAll_cons_mk (Below.trod StampNext_laidOut (by kernel_rfl) (of_decide_eq_true (by kernel_rfl)) k0 bel lt0) (trodAll_cons_mk (Below.trod StampNext_laidOut (by kernel_rfl) (of_decide_eq_true (by kernel_rfl)) k1 bel lt1) (trodAll_cons_mk (Below.trod StampNext_laidOut (by kernel_rfl) (of_decide_eq_true (by kernel_rfl)) k2 bel lt2) (trodAll_cons_mk (Below.trod StampNext_laidOut (by kernel_rfl) (of_decide_eq_true (by kernel_rfl)) k3 bel lt3) trodAll_mk0)))), rfl, bel.frame _, fun h => by cases h⟩
theorem StampNext_closed : joinedFacts Try.prog 6 Try.f6 Rows.stampNextSpec Rows.stampNextRow = true := by
  unfold joinedFacts
  repeat' (with_reducible refine and_tt ?_ ?_)
  all_goals as_aux_lemma => kernel_rfl
theorem StampNext_over : Rows.stampNextRow.holds Try.pinned (OpenSpec.ofChange Rows.stampNextSpec) :=
  OpenClaim.holds_of_wide 6 Try.f6 rfl rfl rfl rfl rfl rfl rfl ⟨rfl, rfl, rfl, rfl, rfl⟩ rfl rfl rfl rfl rfl (by as_aux_lemma => kernel_rfl) Try.func6 StampNext_closed
    (of_decide_eq_true (by as_aux_lemma => kernel_rfl)) (by unfold Func.isWrapper; rw [if_neg (of_decide_eq_false (by as_aux_lemma => kernel_rfl))]; exact ⟨rfl, rfl⟩)
    (fun os started H enc _ => StampNext_lifted os started H enc)
theorem StampNext_holds : Rows.StampNextSaid := StampNext_over
end Go.Proofs.Ytplgjcgebacjnaa
