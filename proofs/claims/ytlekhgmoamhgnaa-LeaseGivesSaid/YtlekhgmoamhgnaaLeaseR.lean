/- Contracts of the reference's leases and fences. No condition. -/
import Derived.Test.YtlekhgmoamhgnaaLease
import Derived.Outline
namespace Go.Proofs.Ytlekhgmoamhgnaa
set_option linter.unusedSimpArgs false
set_option linter.unusedVariables false
open Go.ChangeShapes Go.WideShapes Go.ChangeAt Go.RowKit
open Go.ChangeMaps (open_string shut_string)
theorem noTime_any (n : Int) (w : World) : Calls Try.prog 23 #[I n] w fun e w' => e = .returned (.bool (!tm n)) ∧ w = w' := by
  have b0 := Below.refl w.heap.size w
  have HK := Known.nil w
  go_enter Try.func23, Try.ntmps23
  go_wp2
  all_goals
    refine bodyPost_K rfl (fun K HK => ?_)
    simp [results, Try.results23, go_sem, *]
    refine HK.out _ ⟨rb ?_, rfl⟩
    clear HK K
    (try simp only [bne_iff_ne, beq_iff_eq, Bool.not_eq_true', bne_eq_false_iff_eq, beq_eq_false_iff_ne, ne_eq, Bool.not_eq_true, Bool.not_eq_false', Bool.not_true, Bool.not_false, decide_eq_true_eq, decide_eq_false_iff_not, Bool.and_eq_true, Bool.or_eq_true, Bool.and_eq_false_imp, Bool.or_eq_false_iff] at *)
    ((try simp only [tm, wi, decide_eq_true_eq]); (repeat' (first | rfl | (rw [if_pos (by first | assumption | omega | (simp [*]; done) | fail)]) | (rw [if_neg (by first | assumption | omega | (simp [*]; done) | fail)]) | split | fail)); all_goals (first | done | rfl | (exfalso; omega) | (simp; done) | (simp; omega) | (simp_all; done) | (simp_all; omega) | (rw [Bool.eq_iff_iff]; simp; done) | (rw [Bool.eq_iff_iff]; simp; omega) | (ext <;> (first | rfl | (simp; done) | (simp; omega) | omega | (simp_all; done) | fail)) | simp_all))
theorem rcheck_any (l : Lease) (w : World) : Calls Try.prog 19 #[l.v] w fun e w' => e = .returned (I l.checkE) ∧ Below w.heap.size w w' := by
  have b0 := Below.refl w.heap.size w
  have HK := Known.nil w
  go_enter Try.func19, Try.ntmps19
  go_wp2_with (first | (go_at_call 23; (with_reducible refine (noTime_any _ _).mono ?_); rintro e w1 ⟨rfl, rfl⟩))
  all_goals
    refine bodyPost_K rfl (fun K HK => ?_)
    simp [results, Try.results19, go_sem, *]
    refine HK.out _ ⟨ri ?_, by (repeat' (first | exact Below.refl _ _ | assumption | (refine ba ?_ _) | (refine bdr ?_) | (refine bset ?_ _ ?_ _) | (refine bt ?_ (by assumption)) | (simp; done) | (simp; omega)))⟩
    clear HK K
    (try simp only [bne_iff_ne, beq_iff_eq, Bool.not_eq_true', bne_eq_false_iff_eq, beq_eq_false_iff_ne, ne_eq, Bool.not_eq_true, Bool.not_eq_false', Bool.not_true, Bool.not_false, decide_eq_true_eq, decide_eq_false_iff_not, Bool.and_eq_true, Bool.or_eq_true, Bool.and_eq_false_imp, Bool.or_eq_false_iff] at *)
    ((try simp only [Lease.checkE, wi, decide_eq_true_eq, decide_eq_true_eq]); (repeat' (first | rfl | (rw [if_pos (by first | assumption | omega | (simp [*]; done) | fail)]) | (rw [if_neg (by first | assumption | omega | (simp [*]; done) | fail)]) | split | fail)); all_goals (first | done | rfl | (exfalso; omega) | (simp; done) | (simp; omega) | (simp_all; done) | (simp_all; omega) | (rw [Bool.eq_iff_iff]; simp; done) | (rw [Bool.eq_iff_iff]; simp; omega) | (ext <;> (first | rfl | (simp; done) | (simp; omega) | omega | (simp_all; done) | fail)) | simp_all))
theorem rheld_any (l : Lease) (now : Int) (w : World) : Calls Try.prog 13 #[l.v, I now] w fun e w' => e = .returned (.tuple #[I (l.heldP now).1, I (l.heldP now).2]) ∧ Below w.heap.size w w' := by
  have b0 := Below.refl w.heap.size w
  have HK := Known.nil w
  go_enter Try.func13, Try.ntmps13
  go_wp2_with (first | (go_at_call 19; (with_reducible refine (rcheck_any ⟨_, _, _⟩ _).mono ?_); rintro e w1 ⟨rfl, b1⟩; have bw := Known.bw HK (by (repeat' (first | exact Below.refl _ _ | assumption | (refine ba ?_ _) | (refine bdr ?_) | (refine bset ?_ _ ?_ _) | (refine bt ?_ (by assumption)) | (simp; done) | (simp; omega)))) b1; have HK' := Known.step b1 (by (repeat' (first | (with_reducible exact HK) | (with_reducible apply Known.drew) | (with_reducible apply Known.alloc) | (with_reducible apply Known.allocO) | (with_reducible apply Known.setCell)))); (try replace hr := GoT.step hr bw); (try replace hs := GoT.step hs bw); (try replace ht := GoT.step ht bw); (try replace hu := GoT.step hu bw); replace b0 := bt b0 bw; clear bw b1; (try clear kn); (try clear c0 f0 hz); replace HK := HK'; clear HK'; ((try simp only [World.size_alloc, World.size_setCell, World.size_drew] at HK); have kn := HK; simp [Known, setL, NeAll] at kn); obtain ⟨c0, f0⟩ := bcell b0; have hz := b0.size) | (go_at_call 23; (with_reducible refine (noTime_any _ _).mono ?_); rintro e w1 ⟨rfl, rfl⟩))
  all_goals
    refine bodyPost_K rfl (fun K HK => ?_)
    simp [results, Try.results13, go_sem, *]
    refine HK.out _ ⟨r2 ?_, by (repeat' (first | exact Below.refl _ _ | assumption | (refine ba ?_ _) | (refine bdr ?_) | (refine bset ?_ _ ?_ _) | (refine bt ?_ (by assumption)) | (simp; done) | (simp; omega)))⟩
    clear HK K
    (try simp only [bne_iff_ne, beq_iff_eq, Bool.not_eq_true', bne_eq_false_iff_eq, beq_eq_false_iff_ne, ne_eq, Bool.not_eq_true, Bool.not_eq_false', Bool.not_true, Bool.not_false, decide_eq_true_eq, decide_eq_false_iff_not, Bool.and_eq_true, Bool.or_eq_true, Bool.and_eq_false_imp, Bool.or_eq_false_iff] at *)
    ((try simp only [Lease.heldP, Lease.held, decide_eq_true_eq]); (repeat' (first | rfl | (rw [if_pos (by first | assumption | omega | (simp [*]; done) | fail)]) | (rw [if_neg (by first | assumption | omega | (simp [*]; done) | fail)]) | split | fail)); all_goals (first | done | rfl | (exfalso; omega) | (simp; done) | (simp; omega) | (simp_all; done) | (simp_all; omega) | (rw [Bool.eq_iff_iff]; simp; done) | (rw [Bool.eq_iff_iff]; simp; omega) | (ext <;> (first | rfl | (simp; done) | (simp; omega) | omega | (simp_all; done) | fail)) | simp_all))
set_option maxRecDepth 100000 in
set_option maxHeartbeats 1600000 in
theorem rtake_any (l : Lease) (who now term : Int) (w : World) : Calls Try.prog 14 #[l.v, I who, I now, I term] w fun e w' => e = .returned (.tuple #[(l.take who now term).1.v, I (l.take who now term).2]) ∧ Below w.heap.size w w' := by
  by_cases h0 : l.checkE = 0
  · cases h1 : tm now
    · have hv := Lib.hid (show l.heldP now = (0, 3) by simp [Lease.heldP, h1])
      have b0 := Below.refl w.heap.size w
      have HK := Known.nil w
      go_enter Try.func14, Try.ntmps14
      go_wp2_with (first | (go_at_call 13; (with_reducible refine (rheld_any l now _).mono ?_); rintro e w1 ⟨rfl, b1⟩; have bw := Known.bw HK (by (repeat' (first | exact Below.refl _ _ | assumption | (refine ba ?_ _) | (refine bdr ?_) | (refine bset ?_ _ ?_ _) | (refine bt ?_ (by assumption)) | (simp; done) | (simp; omega)))) b1; have HK' := Known.step b1 (by (repeat' (first | (with_reducible exact HK) | (with_reducible apply Known.drew) | (with_reducible apply Known.alloc) | (with_reducible apply Known.allocO) | (with_reducible apply Known.setCell)))); (try replace hr := GoT.step hr bw); (try replace hs := GoT.step hs bw); (try replace ht := GoT.step ht bw); (try replace hu := GoT.step hu bw); replace b0 := bt b0 bw; clear bw b1; (try clear kn); (try clear c0 f0 hz); replace HK := HK'; clear HK'; ((try simp only [World.size_alloc, World.size_setCell, World.size_drew] at HK); have kn := HK; simp [Known, setL, NeAll] at kn); obtain ⟨c0, f0⟩ := bcell b0; have hz := b0.size; rw [hv.out]) | (go_at_call 13; (with_reducible refine (rheld_any ⟨_, _, _⟩ _ _).mono ?_); rintro e w1 ⟨rfl, b1⟩; have bw := Known.bw HK (by (repeat' (first | exact Below.refl _ _ | assumption | (refine ba ?_ _) | (refine bdr ?_) | (refine bset ?_ _ ?_ _) | (refine bt ?_ (by assumption)) | (simp; done) | (simp; omega)))) b1; have HK' := Known.step b1 (by (repeat' (first | (with_reducible exact HK) | (with_reducible apply Known.drew) | (with_reducible apply Known.alloc) | (with_reducible apply Known.allocO) | (with_reducible apply Known.setCell)))); (try replace hr := GoT.step hr bw); (try replace hs := GoT.step hs bw); (try replace ht := GoT.step ht bw); (try replace hu := GoT.step hu bw); replace b0 := bt b0 bw; clear bw b1; (try clear kn); (try clear c0 f0 hz); replace HK := HK'; clear HK'; ((try simp only [World.size_alloc, World.size_setCell, World.size_drew] at HK); have kn := HK; simp [Known, setL, NeAll] at kn); obtain ⟨c0, f0⟩ := bcell b0; have hz := b0.size))
      all_goals
        refine bodyPost_K rfl (fun K HK => ?_)
        simp [results, Try.results14, go_sem, *]
        refine HK.out _ ⟨Lease.r2 ?_, by (repeat' (first | exact Below.refl _ _ | assumption | (refine ba ?_ _) | (refine bdr ?_) | (refine bset ?_ _ ?_ _) | (refine bt ?_ (by assumption)) | (simp; done) | (simp; omega)))⟩
        clear HK K
        (try simp only [bne_iff_ne, beq_iff_eq, Bool.not_eq_true', bne_eq_false_iff_eq, beq_eq_false_iff_ne, ne_eq, Bool.not_eq_true, Bool.not_eq_false', Bool.not_true, Bool.not_false, decide_eq_true_eq, decide_eq_false_iff_not, Bool.and_eq_true, Bool.or_eq_true, Bool.and_eq_false_imp, Bool.or_eq_false_iff] at *)
        ((try simp only [Lease.take, Lease.okTake, decide_eq_true_eq]); (repeat' (first | rfl | (rw [if_pos (by first | assumption | omega | (simp [*]; done) | fail)]) | (rw [if_neg (by first | assumption | omega | (simp [*]; done) | fail)]) | split | fail)); all_goals (first | done | rfl | (exfalso; omega) | (simp; done) | (simp; omega) | (simp_all; done) | (simp_all; omega) | (rw [Bool.eq_iff_iff]; simp; done) | (rw [Bool.eq_iff_iff]; simp; omega) | (ext <;> (first | rfl | (simp; done) | (simp; omega) | omega | (simp_all; done) | fail)) | simp_all))
    · have hv := Lib.hid (show l.heldP now = (l.held now, 0) by simp [Lease.heldP, h1, h0])
      obtain ⟨⟨g1, g2⟩, ⟨g3, g4⟩, g5, g6⟩ := Lease.good h0
      obtain ⟨g7, g8⟩ := Lease.held_bd h0 now
      obtain ⟨n1, n2⟩ := tm_bd h1
      have b0 := Below.refl w.heap.size w
      have HK := Known.nil w
      go_enter Try.func14, Try.ntmps14
      go_wp2_with (first | (go_at_call 13; (with_reducible refine (rheld_any l now _).mono ?_); rintro e w1 ⟨rfl, b1⟩; have bw := Known.bw HK (by (repeat' (first | exact Below.refl _ _ | assumption | (refine ba ?_ _) | (refine bdr ?_) | (refine bset ?_ _ ?_ _) | (refine bt ?_ (by assumption)) | (simp; done) | (simp; omega)))) b1; have HK' := Known.step b1 (by (repeat' (first | (with_reducible exact HK) | (with_reducible apply Known.drew) | (with_reducible apply Known.alloc) | (with_reducible apply Known.allocO) | (with_reducible apply Known.setCell)))); (try replace hr := GoT.step hr bw); (try replace hs := GoT.step hs bw); (try replace ht := GoT.step ht bw); (try replace hu := GoT.step hu bw); replace b0 := bt b0 bw; clear bw b1; (try clear kn); (try clear c0 f0 hz); replace HK := HK'; clear HK'; ((try simp only [World.size_alloc, World.size_setCell, World.size_drew] at HK); have kn := HK; simp [Known, setL, NeAll] at kn); obtain ⟨c0, f0⟩ := bcell b0; have hz := b0.size; rw [hv.out]) | (go_at_call 13; (with_reducible refine (rheld_any ⟨_, _, _⟩ _ _).mono ?_); rintro e w1 ⟨rfl, b1⟩; have bw := Known.bw HK (by (repeat' (first | exact Below.refl _ _ | assumption | (refine ba ?_ _) | (refine bdr ?_) | (refine bset ?_ _ ?_ _) | (refine bt ?_ (by assumption)) | (simp; done) | (simp; omega)))) b1; have HK' := Known.step b1 (by (repeat' (first | (with_reducible exact HK) | (with_reducible apply Known.drew) | (with_reducible apply Known.alloc) | (with_reducible apply Known.allocO) | (with_reducible apply Known.setCell)))); (try replace hr := GoT.step hr bw); (try replace hs := GoT.step hs bw); (try replace ht := GoT.step ht bw); (try replace hu := GoT.step hu bw); replace b0 := bt b0 bw; clear bw b1; (try clear kn); (try clear c0 f0 hz); replace HK := HK'; clear HK'; ((try simp only [World.size_alloc, World.size_setCell, World.size_drew] at HK); have kn := HK; simp [Known, setL, NeAll] at kn); obtain ⟨c0, f0⟩ := bcell b0; have hz := b0.size))
      all_goals
        refine bodyPost_K rfl (fun K HK => ?_)
        simp [results, Try.results14, go_sem, *]
        refine HK.out _ ⟨Lease.r2 ?_, by (repeat' (first | exact Below.refl _ _ | assumption | (refine ba ?_ _) | (refine bdr ?_) | (refine bset ?_ _ ?_ _) | (refine bt ?_ (by assumption)) | (simp; done) | (simp; omega)))⟩
        clear HK K
        (try simp only [bne_iff_ne, beq_iff_eq, Bool.not_eq_true', bne_eq_false_iff_eq, beq_eq_false_iff_ne, ne_eq, Bool.not_eq_true, Bool.not_eq_false', Bool.not_true, Bool.not_false, decide_eq_true_eq, decide_eq_false_iff_not, Bool.and_eq_true, Bool.or_eq_true, Bool.and_eq_false_imp, Bool.or_eq_false_iff] at *)
        ((try simp only [Lease.take, Lease.okTake, Lease.till2, wi, decide_eq_true_eq]); (repeat' (first | rfl | (rw [if_pos (by first | assumption | omega | (simp [*]; done) | fail)]) | (rw [if_neg (by first | assumption | omega | (simp [*]; done) | fail)]) | split | fail)); all_goals (first | done | rfl | (exfalso; omega) | (simp; done) | (simp; omega) | (simp_all; done) | (simp_all; omega) | (rw [Bool.eq_iff_iff]; simp; done) | (rw [Bool.eq_iff_iff]; simp; omega) | (ext <;> (first | rfl | (simp; done) | (simp; omega) | omega | (simp_all; done) | fail)) | simp_all))
  · have hv := Lib.hid (show l.heldP now = (0, 3) by simp [Lease.heldP, h0])
    have b0 := Below.refl w.heap.size w
    have HK := Known.nil w
    go_enter Try.func14, Try.ntmps14
    go_wp2_with (first | (go_at_call 13; (with_reducible refine (rheld_any l now _).mono ?_); rintro e w1 ⟨rfl, b1⟩; have bw := Known.bw HK (by (repeat' (first | exact Below.refl _ _ | assumption | (refine ba ?_ _) | (refine bdr ?_) | (refine bset ?_ _ ?_ _) | (refine bt ?_ (by assumption)) | (simp; done) | (simp; omega)))) b1; have HK' := Known.step b1 (by (repeat' (first | (with_reducible exact HK) | (with_reducible apply Known.drew) | (with_reducible apply Known.alloc) | (with_reducible apply Known.allocO) | (with_reducible apply Known.setCell)))); (try replace hr := GoT.step hr bw); (try replace hs := GoT.step hs bw); (try replace ht := GoT.step ht bw); (try replace hu := GoT.step hu bw); replace b0 := bt b0 bw; clear bw b1; (try clear kn); (try clear c0 f0 hz); replace HK := HK'; clear HK'; ((try simp only [World.size_alloc, World.size_setCell, World.size_drew] at HK); have kn := HK; simp [Known, setL, NeAll] at kn); obtain ⟨c0, f0⟩ := bcell b0; have hz := b0.size; rw [hv.out]) | (go_at_call 13; (with_reducible refine (rheld_any ⟨_, _, _⟩ _ _).mono ?_); rintro e w1 ⟨rfl, b1⟩; have bw := Known.bw HK (by (repeat' (first | exact Below.refl _ _ | assumption | (refine ba ?_ _) | (refine bdr ?_) | (refine bset ?_ _ ?_ _) | (refine bt ?_ (by assumption)) | (simp; done) | (simp; omega)))) b1; have HK' := Known.step b1 (by (repeat' (first | (with_reducible exact HK) | (with_reducible apply Known.drew) | (with_reducible apply Known.alloc) | (with_reducible apply Known.allocO) | (with_reducible apply Known.setCell)))); (try replace hr := GoT.step hr bw); (try replace hs := GoT.step hs bw); (try replace ht := GoT.step ht bw); (try replace hu := GoT.step hu bw); replace b0 := bt b0 bw; clear bw b1; (try clear kn); (try clear c0 f0 hz); replace HK := HK'; clear HK'; ((try simp only [World.size_alloc, World.size_setCell, World.size_drew] at HK); have kn := HK; simp [Known, setL, NeAll] at kn); obtain ⟨c0, f0⟩ := bcell b0; have hz := b0.size))
    all_goals
      refine bodyPost_K rfl (fun K HK => ?_)
      simp [results, Try.results14, go_sem, *]
      refine HK.out _ ⟨Lease.r2 ?_, by (repeat' (first | exact Below.refl _ _ | assumption | (refine ba ?_ _) | (refine bdr ?_) | (refine bset ?_ _ ?_ _) | (refine bt ?_ (by assumption)) | (simp; done) | (simp; omega)))⟩
      clear HK K
      (try simp only [bne_iff_ne, beq_iff_eq, Bool.not_eq_true', bne_eq_false_iff_eq, beq_eq_false_iff_ne, ne_eq, Bool.not_eq_true, Bool.not_eq_false', Bool.not_true, Bool.not_false, decide_eq_true_eq, decide_eq_false_iff_not, Bool.and_eq_true, Bool.or_eq_true, Bool.and_eq_false_imp, Bool.or_eq_false_iff] at *)
      ((try simp only [Lease.take, Lease.okTake, decide_eq_true_eq]); (repeat' (first | rfl | (rw [if_pos (by first | assumption | omega | (simp [*]; done) | fail)]) | (rw [if_neg (by first | assumption | omega | (simp [*]; done) | fail)]) | split | fail)); all_goals (first | done | rfl | (exfalso; omega) | (simp; done) | (simp; omega) | (simp_all; done) | (simp_all; omega) | (rw [Bool.eq_iff_iff]; simp; done) | (rw [Bool.eq_iff_iff]; simp; omega) | (ext <;> (first | rfl | (simp; done) | (simp; omega) | omega | (simp_all; done) | fail)) | simp_all))
theorem rgive_any (l : Lease) (who token now : Int) (w : World) : Calls Try.prog 15 #[l.v, I who, I token, I now] w fun e w' => e = .returned (.tuple #[(l.give who token now).1.v, I (l.give who token now).2]) ∧ Below w.heap.size w w' := by
  by_cases h0 : l.checkE = 0 ∧ tm now = true
  · have hv := Lib.hid (show l.heldP now = (l.held now, 0) by simp [Lease.heldP, h0])
    have b0 := Below.refl w.heap.size w
    have HK := Known.nil w
    go_enter Try.func15, Try.ntmps15
    go_wp2_with (first | (go_at_call 13; (with_reducible refine (rheld_any l now _).mono ?_); rintro e w1 ⟨rfl, b1⟩; have bw := Known.bw HK (by (repeat' (first | exact Below.refl _ _ | assumption | (refine ba ?_ _) | (refine bdr ?_) | (refine bset ?_ _ ?_ _) | (refine bt ?_ (by assumption)) | (simp; done) | (simp; omega)))) b1; have HK' := Known.step b1 (by (repeat' (first | (with_reducible exact HK) | (with_reducible apply Known.drew) | (with_reducible apply Known.alloc) | (with_reducible apply Known.allocO) | (with_reducible apply Known.setCell)))); (try replace hr := GoT.step hr bw); (try replace hs := GoT.step hs bw); (try replace ht := GoT.step ht bw); (try replace hu := GoT.step hu bw); replace b0 := bt b0 bw; clear bw b1; (try clear kn); (try clear c0 f0 hz); replace HK := HK'; clear HK'; ((try simp only [World.size_alloc, World.size_setCell, World.size_drew] at HK); have kn := HK; simp [Known, setL, NeAll] at kn); obtain ⟨c0, f0⟩ := bcell b0; have hz := b0.size; rw [hv.out]) | (go_at_call 13; (with_reducible refine (rheld_any ⟨_, _, _⟩ _ _).mono ?_); rintro e w1 ⟨rfl, b1⟩; have bw := Known.bw HK (by (repeat' (first | exact Below.refl _ _ | assumption | (refine ba ?_ _) | (refine bdr ?_) | (refine bset ?_ _ ?_ _) | (refine bt ?_ (by assumption)) | (simp; done) | (simp; omega)))) b1; have HK' := Known.step b1 (by (repeat' (first | (with_reducible exact HK) | (with_reducible apply Known.drew) | (with_reducible apply Known.alloc) | (with_reducible apply Known.allocO) | (with_reducible apply Known.setCell)))); (try replace hr := GoT.step hr bw); (try replace hs := GoT.step hs bw); (try replace ht := GoT.step ht bw); (try replace hu := GoT.step hu bw); replace b0 := bt b0 bw; clear bw b1; (try clear kn); (try clear c0 f0 hz); replace HK := HK'; clear HK'; ((try simp only [World.size_alloc, World.size_setCell, World.size_drew] at HK); have kn := HK; simp [Known, setL, NeAll] at kn); obtain ⟨c0, f0⟩ := bcell b0; have hz := b0.size))
    all_goals
      refine bodyPost_K rfl (fun K HK => ?_)
      simp [results, Try.results15, go_sem, *]
      refine HK.out _ ⟨Lease.r2 ?_, by (repeat' (first | exact Below.refl _ _ | assumption | (refine ba ?_ _) | (refine bdr ?_) | (refine bset ?_ _ ?_ _) | (refine bt ?_ (by assumption)) | (simp; done) | (simp; omega)))⟩
      clear HK K
      (try simp only [bne_iff_ne, beq_iff_eq, Bool.not_eq_true', bne_eq_false_iff_eq, beq_eq_false_iff_ne, ne_eq, Bool.not_eq_true, Bool.not_eq_false', Bool.not_true, Bool.not_false, decide_eq_true_eq, decide_eq_false_iff_not, Bool.and_eq_true, Bool.or_eq_true, Bool.and_eq_false_imp, Bool.or_eq_false_iff] at *)
      ((try simp only [Lease.give, decide_eq_true_eq]); (repeat' (first | rfl | (rw [if_pos (by first | assumption | omega | (simp [*]; done) | fail)]) | (rw [if_neg (by first | assumption | omega | (simp [*]; done) | fail)]) | split | fail)); all_goals (first | done | rfl | (exfalso; omega) | (simp; done) | (simp; omega) | (simp_all; done) | (simp_all; omega) | (rw [Bool.eq_iff_iff]; simp; done) | (rw [Bool.eq_iff_iff]; simp; omega) | (ext <;> (first | rfl | (simp; done) | (simp; omega) | omega | (simp_all; done) | fail)) | simp_all))
  · have hv := Lib.hid (show l.heldP now = (0, 3) by simp only [Lease.heldP]; (repeat' split) <;> simp_all)
    have b0 := Below.refl w.heap.size w
    have HK := Known.nil w
    go_enter Try.func15, Try.ntmps15
    go_wp2_with (first | (go_at_call 13; (with_reducible refine (rheld_any l now _).mono ?_); rintro e w1 ⟨rfl, b1⟩; have bw := Known.bw HK (by (repeat' (first | exact Below.refl _ _ | assumption | (refine ba ?_ _) | (refine bdr ?_) | (refine bset ?_ _ ?_ _) | (refine bt ?_ (by assumption)) | (simp; done) | (simp; omega)))) b1; have HK' := Known.step b1 (by (repeat' (first | (with_reducible exact HK) | (with_reducible apply Known.drew) | (with_reducible apply Known.alloc) | (with_reducible apply Known.allocO) | (with_reducible apply Known.setCell)))); (try replace hr := GoT.step hr bw); (try replace hs := GoT.step hs bw); (try replace ht := GoT.step ht bw); (try replace hu := GoT.step hu bw); replace b0 := bt b0 bw; clear bw b1; (try clear kn); (try clear c0 f0 hz); replace HK := HK'; clear HK'; ((try simp only [World.size_alloc, World.size_setCell, World.size_drew] at HK); have kn := HK; simp [Known, setL, NeAll] at kn); obtain ⟨c0, f0⟩ := bcell b0; have hz := b0.size; rw [hv.out]) | (go_at_call 13; (with_reducible refine (rheld_any ⟨_, _, _⟩ _ _).mono ?_); rintro e w1 ⟨rfl, b1⟩; have bw := Known.bw HK (by (repeat' (first | exact Below.refl _ _ | assumption | (refine ba ?_ _) | (refine bdr ?_) | (refine bset ?_ _ ?_ _) | (refine bt ?_ (by assumption)) | (simp; done) | (simp; omega)))) b1; have HK' := Known.step b1 (by (repeat' (first | (with_reducible exact HK) | (with_reducible apply Known.drew) | (with_reducible apply Known.alloc) | (with_reducible apply Known.allocO) | (with_reducible apply Known.setCell)))); (try replace hr := GoT.step hr bw); (try replace hs := GoT.step hs bw); (try replace ht := GoT.step ht bw); (try replace hu := GoT.step hu bw); replace b0 := bt b0 bw; clear bw b1; (try clear kn); (try clear c0 f0 hz); replace HK := HK'; clear HK'; ((try simp only [World.size_alloc, World.size_setCell, World.size_drew] at HK); have kn := HK; simp [Known, setL, NeAll] at kn); obtain ⟨c0, f0⟩ := bcell b0; have hz := b0.size))
    all_goals
      refine bodyPost_K rfl (fun K HK => ?_)
      simp [results, Try.results15, go_sem, *]
      refine HK.out _ ⟨Lease.r2 ?_, by (repeat' (first | exact Below.refl _ _ | assumption | (refine ba ?_ _) | (refine bdr ?_) | (refine bset ?_ _ ?_ _) | (refine bt ?_ (by assumption)) | (simp; done) | (simp; omega)))⟩
      clear HK K
      (try simp only [bne_iff_ne, beq_iff_eq, Bool.not_eq_true', bne_eq_false_iff_eq, beq_eq_false_iff_ne, ne_eq, Bool.not_eq_true, Bool.not_eq_false', Bool.not_true, Bool.not_false, decide_eq_true_eq, decide_eq_false_iff_not, Bool.and_eq_true, Bool.or_eq_true, Bool.and_eq_false_imp, Bool.or_eq_false_iff] at *)
      ((try simp only [Lease.give, decide_eq_true_eq]); (repeat' (first | rfl | (rw [if_pos (by first | assumption | omega | (simp [*]; done) | fail)]) | (rw [if_neg (by first | assumption | omega | (simp [*]; done) | fail)]) | split | fail)); all_goals (first | done | rfl | (exfalso; omega) | (simp; done) | (simp; omega) | (simp_all; done) | (simp_all; omega) | (rw [Bool.eq_iff_iff]; simp; done) | (rw [Bool.eq_iff_iff]; simp; omega) | (ext <;> (first | rfl | (simp; done) | (simp; omega) | omega | (simp_all; done) | fail)) | simp_all))
theorem rpass_any (f : Fence) (token : Int) (w : World) : Calls Try.prog 16 #[f.v, I token] w fun e w' => e = .returned (.tuple #[(passP f token).1.v, I (passP f token).2]) ∧ Below w.heap.size w w' := by
  have b0 := Below.refl w.heap.size w
  have HK := Known.nil w
  go_enter Try.func16, Try.ntmps16
  go_wp2_with (first | (go_at_call 23; (with_reducible refine (noTime_any _ _).mono ?_); rintro e w1 ⟨rfl, rfl⟩))
  all_goals
    refine bodyPost_K rfl (fun K HK => ?_)
    simp [results, Try.results16, go_sem, *]
    refine HK.out _ ⟨Fence.r2 ?_, by (repeat' (first | exact Below.refl _ _ | assumption | (refine ba ?_ _) | (refine bdr ?_) | (refine bset ?_ _ ?_ _) | (refine bt ?_ (by assumption)) | (simp; done) | (simp; omega)))⟩
    clear HK K
    (try simp only [bne_iff_ne, beq_iff_eq, Bool.not_eq_true', bne_eq_false_iff_eq, beq_eq_false_iff_ne, ne_eq, Bool.not_eq_true, Bool.not_eq_false', Bool.not_true, Bool.not_false, decide_eq_true_eq, decide_eq_false_iff_not, Bool.and_eq_true, Bool.or_eq_true, Bool.and_eq_false_imp, Bool.or_eq_false_iff] at *)
    ((try simp only [passP, decide_eq_true_eq]); (repeat' (first | rfl | (rw [if_pos (by first | assumption | omega | (simp [*]; done) | fail)]) | (rw [if_neg (by first | assumption | omega | (simp [*]; done) | fail)]) | split | fail)); all_goals (first | done | rfl | (exfalso; omega) | (simp; done) | (simp; omega) | (simp_all; done) | (simp_all; omega) | (rw [Bool.eq_iff_iff]; simp; done) | (rw [Bool.eq_iff_iff]; simp; omega) | (ext <;> (first | rfl | (simp; done) | (simp; omega) | omega | (simp_all; done) | fail)) | simp_all))
end Go.Proofs.Ytlekhgmoamhgnaa
