/- Contracts of package lease: what each call returns. No condition. -/
import Derived.Test.YtlekhgmoamhgnaaRows
import Derived.Test.YtlekhgmoamhgnaaLeaseM
import Derived.WalkKit
import Derived.Handy
import Derived.ProofKit
import Derived.OpenShut
import Derived.ShutString
import Derived.ChangeOld
import Derived.Below
import Derived.Lib.Hide
import Derived.WalkLawsBesides
import Derived.WalkSpells
import Derived.Deep.QuietTactic
import Derived.BigQuiet
import Derived.Outline
namespace Go.Proofs.Ytlekhgmoamhgnaa
set_option linter.unusedSimpArgs false
set_option linter.unusedVariables false
open Go.ChangeShapes Go.WideShapes Go.ChangeAt Go.RowKit
open Go.ChangeMaps (open_string shut_string)
theorem within_any (n lo hi : Int) (w : World) : Calls Try.prog 22 #[I n, I lo, I hi] w fun e w' => e = .returned (.bool (wi n lo hi)) ∧ w = w' := by
  by_cases h1 : lo ≤ n
  · by_cases h2 : n ≤ hi
    · rw [wi_yes ⟨h1, h2⟩]
      go_enter Try.func22, Try.ntmps22
      go_wp2
      go_ret
      exact ⟨by simp, rfl⟩
    · rw [wi_no (fun h => h2 h.2)]
      go_enter Try.func22, Try.ntmps22
      go_wp2
      go_ret
      exact ⟨by simp, rfl⟩
  · rw [wi_no (fun h => h1 h.1)]
    go_enter Try.func22, Try.ntmps22
    go_wp2
    go_ret
    exact ⟨rfl, rfl⟩
theorem time_any (n : Int) (w : World) : Calls Try.prog 20 #[I n] w fun e w' => e = .returned (.bool (tm n)) ∧ w = w' := by
  go_enter Try.func20, Try.ntmps20
  go_wp2_with (go_at_call 22; (with_reducible refine (within_any _ _ _ _).mono ?_); rintro e w1 ⟨rfl, rfl⟩)
  go_ret
  exact ⟨rfl, rfl⟩
theorem check_any (l : Lease) (w : World) : Calls Try.prog 18 #[l.v] w fun e w' => e = .returned (I l.checkE) ∧ Below w.heap.size w w' := by
  cases h1 : wi l.holder 0 1000
  all_goals cases h2 : tm l.till
  all_goals cases h3 : tm l.token
  all_goals
    have hv : Hid (l.checkE = if true = true ∧ true = true then (if wi l.holder 0 1000 = true ∧ tm l.till = true ∧ tm l.token = true then 0 else 3) else 3) := Lib.hid (by simp [Lease.checkE])
    go_enter Try.func18, Try.ntmps18
    go_wp2_with (first | (go_at_call 22; (with_reducible refine (within_any _ _ _ _).mono ?_); rintro e w1 ⟨rfl, rfl⟩) | (go_at_call 20; (with_reducible refine (time_any _ _).mono ?_); rintro e w1 ⟨rfl, rfl⟩))
    go_ret
    exact ⟨ri (by rw [hv.out]; simp [h1, h2, h3]), by (repeat' (first | (with_reducible exact Below.refl _ _) | (with_reducible assumption) | (with_reducible refine ba ?_ _) | (with_reducible refine bdr ?_) | (with_reducible refine bset ?_ _ ?_ _) | (refine bt ?_ (by assumption)) | (simp; done) | (simp; omega)))⟩
theorem holder_any (l : Lease) (now : Int) (w : World) : Calls Try.prog 21 #[.agg #[I l.holder, I l.till, I l.token, I now]] w fun e w' => e = .returned (I (l.held now)) ∧ Below w.heap.size w w' := by
  by_cases h : now < l.till
  · have hv : Hid (l.held now = l.holder) := Lib.hid (if_pos h)
    go_enter Try.func21, Try.ntmps21
    go_wp2
    go_ret
    exact ⟨ri hv.out.symm, by (repeat' (first | (with_reducible exact Below.refl _ _) | (with_reducible assumption) | (with_reducible refine ba ?_ _) | (with_reducible refine bdr ?_) | (with_reducible refine bset ?_ _ ?_ _) | (refine bt ?_ (by assumption)) | (simp; done) | (simp; omega)))⟩
  · have hv : Hid (l.held now = 0) := Lib.hid (if_neg h)
    go_enter Try.func21, Try.ntmps21
    go_wp2
    go_ret
    exact ⟨ri hv.out.symm, by (repeat' (first | (with_reducible exact Below.refl _ _) | (with_reducible assumption) | (with_reducible refine ba ?_ _) | (with_reducible refine bdr ?_) | (with_reducible refine bset ?_ _ ?_ _) | (refine bt ?_ (by assumption)) | (simp; done) | (simp; omega)))⟩
theorem held_any (l : Lease) (now : Int) (w : World) : Calls Try.prog 9 #[l.v, I now] w fun e w' => e = .returned (.tuple #[I (l.heldP now).1, I (l.heldP now).2]) ∧ Below w.heap.size w w' := by
  have h3 := @Lease.check_3 l
  have b0 := Below.refl w.heap.size w
  have HK := Known.nil w
  go_enter Try.func9, Try.ntmps9
  go_wp2_with (first | (go_at_call 18; (with_reducible refine (check_any ⟨_, _, _⟩ _).mono ?_); rintro e w1 ⟨rfl, b1⟩; have b9 : Below w.heap.size w _ := bt (by (repeat' (first | (with_reducible exact Below.refl _ _) | (with_reducible assumption) | (with_reducible refine ba ?_ _) | (with_reducible refine bdr ?_) | (with_reducible refine bset ?_ _ ?_ _) | (refine bt ?_ (by assumption)) | (simp; done) | (simp; omega)))) b1; have HK' := Known.step b1 (by (repeat' (first | (with_reducible exact HK) | (with_reducible apply Known.drew) | (with_reducible apply Known.alloc) | (with_reducible apply Known.allocO) | (with_reducible apply Known.setCell)))); replace b0 := b9; clear b9 b1; (try clear kn); (try clear c0 f0 hz); replace HK := HK'; clear HK'; ((try simp only [World.size_alloc, World.size_setCell, World.size_drew] at HK); have kn := HK; simp [Known, setL, NeAll] at kn); obtain ⟨c0, f0⟩ := bcell b0; have hz := b0.size) | (go_at_call 20; (with_reducible refine (time_any _ _).mono ?_); rintro e w1 ⟨rfl, rfl⟩) | (go_at_call 21; (with_reducible refine (holder_any ⟨_, _, _⟩ _ _).mono ?_); rintro e w1 ⟨rfl, b1⟩; have b9 : Below w.heap.size w _ := bt (by (repeat' (first | (with_reducible exact Below.refl _ _) | (with_reducible assumption) | (with_reducible refine ba ?_ _) | (with_reducible refine bdr ?_) | (with_reducible refine bset ?_ _ ?_ _) | (refine bt ?_ (by assumption)) | (simp; done) | (simp; omega)))) b1; have HK' := Known.step b1 (by (repeat' (first | (with_reducible exact HK) | (with_reducible apply Known.drew) | (with_reducible apply Known.alloc) | (with_reducible apply Known.allocO) | (with_reducible apply Known.setCell)))); replace b0 := b9; clear b9 b1; (try clear kn); (try clear c0 f0 hz); replace HK := HK'; clear HK'; ((try simp only [World.size_alloc, World.size_setCell, World.size_drew] at HK); have kn := HK; simp [Known, setL, NeAll] at kn); obtain ⟨c0, f0⟩ := bcell b0; have hz := b0.size))
  all_goals
    refine bodyPost_K rfl (fun K HK => ?_)
    simp [results, Try.results9, go_sem, *]
    refine HK.out _ ⟨r2 ?_, by (repeat' (first | (with_reducible exact Below.refl _ _) | (with_reducible assumption) | (with_reducible refine ba ?_ _) | (with_reducible refine bdr ?_) | (with_reducible refine bset ?_ _ ?_ _) | (refine bt ?_ (by assumption)) | (simp; done) | (simp; omega)))⟩
    clear HK K
    (try simp only [wi_iff, wi_iffF, bne_iff_ne, beq_iff_eq, Bool.not_eq_true', bne_eq_false_iff_eq, beq_eq_false_iff_ne, ne_eq, Bool.not_eq_true, Bool.not_eq_false', Bool.not_true, Bool.not_false, decide_eq_true_eq, decide_eq_false_iff_not, Bool.and_eq_true, Bool.or_eq_true, Bool.and_eq_false_imp, Bool.or_eq_false_iff] at *)
    ((try simp only [Lease.heldP, decide_eq_true_eq]); (repeat' (first | rfl | (rw [if_pos (by first | assumption | omega | (simp [*]; done) | fail)]) | (rw [if_neg (by first | assumption | omega | (simp [*]; done) | fail)]) | split | fail)); all_goals (first | done | rfl | (exfalso; omega) | (simp; done) | (simp; omega) | (simp_all; done) | (simp_all; omega) | (rw [Bool.eq_iff_iff]; simp; done) | (rw [Bool.eq_iff_iff]; simp; omega) | (ext <;> (first | rfl | (simp; done) | (simp; omega) | omega | (simp_all; done) | fail)) | (simp_all [wi]; done) | (simp_all [wi]; omega) | simp_all))
set_option maxRecDepth 100000 in
set_option maxHeartbeats 1600000 in
theorem take_any (l : Lease) (who now term : Int) (w : World) : Calls Try.prog 10 #[l.v, I who, I now, I term] w fun e w' => e = .returned (.tuple #[(l.take who now term).1.v, I (l.take who now term).2]) ∧ Below w.heap.size w w' := by
  by_cases h : l.okTake who now term
  · obtain ⟨h1, h2, h3, h4⟩ := h
    obtain ⟨⟨g1, g2⟩, ⟨g3, g4⟩, g5, g6⟩ := Lease.good h1
    obtain ⟨n1, n2⟩ := tm_bd h2
    obtain ⟨n3, n4⟩ := wi_bd h3
    obtain ⟨n5, n6⟩ := wi_bd h4
    have b0 := Below.refl w.heap.size w
    have HK := Known.nil w
    go_enter Try.func10, Try.ntmps10
    go_wp2_with (first | (go_at_call 18; (with_reducible refine (check_any ⟨_, _, _⟩ _).mono ?_); rintro e w1 ⟨rfl, b1⟩; have b9 : Below w.heap.size w _ := bt (by (repeat' (first | (with_reducible exact Below.refl _ _) | (with_reducible assumption) | (with_reducible refine ba ?_ _) | (with_reducible refine bdr ?_) | (with_reducible refine bset ?_ _ ?_ _) | (refine bt ?_ (by assumption)) | (simp; done) | (simp; omega)))) b1; have HK' := Known.step b1 (by (repeat' (first | (with_reducible exact HK) | (with_reducible apply Known.drew) | (with_reducible apply Known.alloc) | (with_reducible apply Known.allocO) | (with_reducible apply Known.setCell)))); replace b0 := b9; clear b9 b1; (try clear kn); (try clear c0 f0 hz); replace HK := HK'; clear HK'; ((try simp only [World.size_alloc, World.size_setCell, World.size_drew] at HK); have kn := HK; simp [Known, setL, NeAll] at kn); obtain ⟨c0, f0⟩ := bcell b0; have hz := b0.size) | (go_at_call 22; (with_reducible refine (within_any _ _ _ _).mono ?_); rintro e w1 ⟨rfl, rfl⟩) | (go_at_call 20; (with_reducible refine (time_any _ _).mono ?_); rintro e w1 ⟨rfl, rfl⟩) | (go_at_call 21; (with_reducible refine (holder_any ⟨_, _, _⟩ _ _).mono ?_); rintro e w1 ⟨rfl, b1⟩; have b9 : Below w.heap.size w _ := bt (by (repeat' (first | (with_reducible exact Below.refl _ _) | (with_reducible assumption) | (with_reducible refine ba ?_ _) | (with_reducible refine bdr ?_) | (with_reducible refine bset ?_ _ ?_ _) | (refine bt ?_ (by assumption)) | (simp; done) | (simp; omega)))) b1; have HK' := Known.step b1 (by (repeat' (first | (with_reducible exact HK) | (with_reducible apply Known.drew) | (with_reducible apply Known.alloc) | (with_reducible apply Known.allocO) | (with_reducible apply Known.setCell)))); replace b0 := b9; clear b9 b1; (try clear kn); (try clear c0 f0 hz); replace HK := HK'; clear HK'; ((try simp only [World.size_alloc, World.size_setCell, World.size_drew] at HK); have kn := HK; simp [Known, setL, NeAll] at kn); obtain ⟨c0, f0⟩ := bcell b0; have hz := b0.size))
    all_goals
      refine bodyPost_K rfl (fun K HK => ?_)
      simp [results, Try.results10, go_sem, *]
      refine HK.out _ ⟨Lease.r2 ?_, by (repeat' (first | (with_reducible exact Below.refl _ _) | (with_reducible assumption) | (with_reducible refine ba ?_ _) | (with_reducible refine bdr ?_) | (with_reducible refine bset ?_ _ ?_ _) | (refine bt ?_ (by assumption)) | (simp; done) | (simp; omega)))⟩
      clear HK K
      (try simp only [wi_iff, wi_iffF, bne_iff_ne, beq_iff_eq, Bool.not_eq_true', bne_eq_false_iff_eq, beq_eq_false_iff_ne, ne_eq, Bool.not_eq_true, Bool.not_eq_false', Bool.not_true, Bool.not_false, decide_eq_true_eq, decide_eq_false_iff_not, Bool.and_eq_true, Bool.or_eq_true, Bool.and_eq_false_imp, Bool.or_eq_false_iff] at *)
      ((try simp only [Lease.take, Lease.okTake, Lease.till2, decide_eq_true_eq]); (repeat' (first | rfl | (rw [if_pos (by first | assumption | omega | (simp [*]; done) | fail)]) | (rw [if_neg (by first | assumption | omega | (simp [*]; done) | fail)]) | split | fail)); all_goals (first | done | rfl | (exfalso; omega) | (simp; done) | (simp; omega) | (simp_all; done) | (simp_all; omega) | (rw [Bool.eq_iff_iff]; simp; done) | (rw [Bool.eq_iff_iff]; simp; omega) | (ext <;> (first | rfl | (simp; done) | (simp; omega) | omega | (simp_all; done) | fail)) | (simp_all [wi]; done) | (simp_all [wi]; omega) | simp_all))
  · have key : (l.checkE != 0) = true ∨ wi who 1 1000 = false ∨ tm now = false ∨ wi term 1 10000 = false := by
      unfold Lease.okTake at h
      cases h1 : wi who 1 1000 <;> cases h2 : tm now <;> cases h3 : wi term 1 10000 <;> simp_all
    rcases key with h1 | h1 | h1 | h1
    all_goals
      clear h
      have b0 := Below.refl w.heap.size w
      have HK := Known.nil w
      go_enter Try.func10, Try.ntmps10
      go_wp2_with (first | (go_at_call 18; (with_reducible refine (check_any ⟨_, _, _⟩ _).mono ?_); rintro e w1 ⟨rfl, b1⟩; have b9 : Below w.heap.size w _ := bt (by (repeat' (first | (with_reducible exact Below.refl _ _) | (with_reducible assumption) | (with_reducible refine ba ?_ _) | (with_reducible refine bdr ?_) | (with_reducible refine bset ?_ _ ?_ _) | (refine bt ?_ (by assumption)) | (simp; done) | (simp; omega)))) b1; have HK' := Known.step b1 (by (repeat' (first | (with_reducible exact HK) | (with_reducible apply Known.drew) | (with_reducible apply Known.alloc) | (with_reducible apply Known.allocO) | (with_reducible apply Known.setCell)))); replace b0 := b9; clear b9 b1; (try clear kn); (try clear c0 f0 hz); replace HK := HK'; clear HK'; ((try simp only [World.size_alloc, World.size_setCell, World.size_drew] at HK); have kn := HK; simp [Known, setL, NeAll] at kn); obtain ⟨c0, f0⟩ := bcell b0; have hz := b0.size) | (go_at_call 22; (with_reducible refine (within_any _ _ _ _).mono ?_); rintro e w1 ⟨rfl, rfl⟩) | (go_at_call 20; (with_reducible refine (time_any _ _).mono ?_); rintro e w1 ⟨rfl, rfl⟩) | (go_at_call 21; (with_reducible refine (holder_any ⟨_, _, _⟩ _ _).mono ?_); rintro e w1 ⟨rfl, b1⟩; have b9 : Below w.heap.size w _ := bt (by (repeat' (first | (with_reducible exact Below.refl _ _) | (with_reducible assumption) | (with_reducible refine ba ?_ _) | (with_reducible refine bdr ?_) | (with_reducible refine bset ?_ _ ?_ _) | (refine bt ?_ (by assumption)) | (simp; done) | (simp; omega)))) b1; have HK' := Known.step b1 (by (repeat' (first | (with_reducible exact HK) | (with_reducible apply Known.drew) | (with_reducible apply Known.alloc) | (with_reducible apply Known.allocO) | (with_reducible apply Known.setCell)))); replace b0 := b9; clear b9 b1; (try clear kn); (try clear c0 f0 hz); replace HK := HK'; clear HK'; ((try simp only [World.size_alloc, World.size_setCell, World.size_drew] at HK); have kn := HK; simp [Known, setL, NeAll] at kn); obtain ⟨c0, f0⟩ := bcell b0; have hz := b0.size))
      all_goals
        refine bodyPost_K rfl (fun K HK => ?_)
        simp [results, Try.results10, go_sem, *]
        refine HK.out _ ⟨Lease.r2 ?_, by (repeat' (first | (with_reducible exact Below.refl _ _) | (with_reducible assumption) | (with_reducible refine ba ?_ _) | (with_reducible refine bdr ?_) | (with_reducible refine bset ?_ _ ?_ _) | (refine bt ?_ (by assumption)) | (simp; done) | (simp; omega)))⟩
        clear HK K
        (try simp only [wi_iff, wi_iffF, bne_iff_ne, beq_iff_eq, Bool.not_eq_true', bne_eq_false_iff_eq, beq_eq_false_iff_ne, ne_eq, Bool.not_eq_true, Bool.not_eq_false', Bool.not_true, Bool.not_false, decide_eq_true_eq, decide_eq_false_iff_not, Bool.and_eq_true, Bool.or_eq_true, Bool.and_eq_false_imp, Bool.or_eq_false_iff] at *)
        ((try simp only [Lease.take, Lease.okTake, decide_eq_true_eq]); (repeat' (first | rfl | (rw [if_pos (by first | assumption | omega | (simp [*]; done) | fail)]) | (rw [if_neg (by first | assumption | omega | (simp [*]; done) | fail)]) | split | fail)); all_goals (first | done | rfl | (exfalso; omega) | (simp; done) | (simp; omega) | (simp_all; done) | (simp_all; omega) | (rw [Bool.eq_iff_iff]; simp; done) | (rw [Bool.eq_iff_iff]; simp; omega) | (ext <;> (first | rfl | (simp; done) | (simp; omega) | omega | (simp_all; done) | fail)) | (simp_all [wi]; done) | (simp_all [wi]; omega) | simp_all))
theorem give_any (l : Lease) (who token now : Int) (w : World) : Calls Try.prog 11 #[l.v, I who, I token, I now] w fun e w' => e = .returned (.tuple #[(l.give who token now).1.v, I (l.give who token now).2]) ∧ Below w.heap.size w w' := by
  have b0 := Below.refl w.heap.size w
  have HK := Known.nil w
  go_enter Try.func11, Try.ntmps11
  go_wp2_with (first | (go_at_call 18; (with_reducible refine (check_any ⟨_, _, _⟩ _).mono ?_); rintro e w1 ⟨rfl, b1⟩; have b9 : Below w.heap.size w _ := bt (by (repeat' (first | (with_reducible exact Below.refl _ _) | (with_reducible assumption) | (with_reducible refine ba ?_ _) | (with_reducible refine bdr ?_) | (with_reducible refine bset ?_ _ ?_ _) | (refine bt ?_ (by assumption)) | (simp; done) | (simp; omega)))) b1; have HK' := Known.step b1 (by (repeat' (first | (with_reducible exact HK) | (with_reducible apply Known.drew) | (with_reducible apply Known.alloc) | (with_reducible apply Known.allocO) | (with_reducible apply Known.setCell)))); replace b0 := b9; clear b9 b1; (try clear kn); (try clear c0 f0 hz); replace HK := HK'; clear HK'; ((try simp only [World.size_alloc, World.size_setCell, World.size_drew] at HK); have kn := HK; simp [Known, setL, NeAll] at kn); obtain ⟨c0, f0⟩ := bcell b0; have hz := b0.size) | (go_at_call 20; (with_reducible refine (time_any _ _).mono ?_); rintro e w1 ⟨rfl, rfl⟩) | (go_at_call 21; (with_reducible refine (holder_any ⟨_, _, _⟩ _ _).mono ?_); rintro e w1 ⟨rfl, b1⟩; have b9 : Below w.heap.size w _ := bt (by (repeat' (first | (with_reducible exact Below.refl _ _) | (with_reducible assumption) | (with_reducible refine ba ?_ _) | (with_reducible refine bdr ?_) | (with_reducible refine bset ?_ _ ?_ _) | (refine bt ?_ (by assumption)) | (simp; done) | (simp; omega)))) b1; have HK' := Known.step b1 (by (repeat' (first | (with_reducible exact HK) | (with_reducible apply Known.drew) | (with_reducible apply Known.alloc) | (with_reducible apply Known.allocO) | (with_reducible apply Known.setCell)))); replace b0 := b9; clear b9 b1; (try clear kn); (try clear c0 f0 hz); replace HK := HK'; clear HK'; ((try simp only [World.size_alloc, World.size_setCell, World.size_drew] at HK); have kn := HK; simp [Known, setL, NeAll] at kn); obtain ⟨c0, f0⟩ := bcell b0; have hz := b0.size))
  all_goals
    refine bodyPost_K rfl (fun K HK => ?_)
    simp [results, Try.results11, go_sem, *]
    refine HK.out _ ⟨Lease.r2 ?_, by (repeat' (first | (with_reducible exact Below.refl _ _) | (with_reducible assumption) | (with_reducible refine ba ?_ _) | (with_reducible refine bdr ?_) | (with_reducible refine bset ?_ _ ?_ _) | (refine bt ?_ (by assumption)) | (simp; done) | (simp; omega)))⟩
    clear HK K
    (try simp only [wi_iff, wi_iffF, bne_iff_ne, beq_iff_eq, Bool.not_eq_true', bne_eq_false_iff_eq, beq_eq_false_iff_ne, ne_eq, Bool.not_eq_true, Bool.not_eq_false', Bool.not_true, Bool.not_false, decide_eq_true_eq, decide_eq_false_iff_not, Bool.and_eq_true, Bool.or_eq_true, Bool.and_eq_false_imp, Bool.or_eq_false_iff] at *)
    ((try simp only [Lease.give, decide_eq_true_eq]); (repeat' (first | rfl | (rw [if_pos (by first | assumption | omega | (simp [*]; done) | fail)]) | (rw [if_neg (by first | assumption | omega | (simp [*]; done) | fail)]) | split | fail)); all_goals (first | done | rfl | (exfalso; omega) | (simp; done) | (simp; omega) | (simp_all; done) | (simp_all; omega) | (rw [Bool.eq_iff_iff]; simp; done) | (rw [Bool.eq_iff_iff]; simp; omega) | (ext <;> (first | rfl | (simp; done) | (simp; omega) | omega | (simp_all; done) | fail)) | (simp_all [wi]; done) | (simp_all [wi]; omega) | simp_all))
theorem pass_any (f : Fence) (token : Int) (w : World) : Calls Try.prog 12 #[f.v, I token] w fun e w' => e = .returned (.tuple #[(passP f token).1.v, I (passP f token).2]) ∧ Below w.heap.size w w' := by
  have b0 := Below.refl w.heap.size w
  have HK := Known.nil w
  go_enter Try.func12, Try.ntmps12
  go_wp2_with (first | (go_at_call 20; (with_reducible refine (time_any _ _).mono ?_); rintro e w1 ⟨rfl, rfl⟩))
  all_goals
    refine bodyPost_K rfl (fun K HK => ?_)
    simp [results, Try.results12, go_sem, *]
    refine HK.out _ ⟨Fence.r2 ?_, by (repeat' (first | (with_reducible exact Below.refl _ _) | (with_reducible assumption) | (with_reducible refine ba ?_ _) | (with_reducible refine bdr ?_) | (with_reducible refine bset ?_ _ ?_ _) | (refine bt ?_ (by assumption)) | (simp; done) | (simp; omega)))⟩
    clear HK K
    (try simp only [wi_iff, wi_iffF, bne_iff_ne, beq_iff_eq, Bool.not_eq_true', bne_eq_false_iff_eq, beq_eq_false_iff_ne, ne_eq, Bool.not_eq_true, Bool.not_eq_false', Bool.not_true, Bool.not_false, decide_eq_true_eq, decide_eq_false_iff_not, Bool.and_eq_true, Bool.or_eq_true, Bool.and_eq_false_imp, Bool.or_eq_false_iff] at *)
    ((try simp only [passP, decide_eq_true_eq]); (repeat' (first | rfl | (rw [if_pos (by first | assumption | omega | (simp [*]; done) | fail)]) | (rw [if_neg (by first | assumption | omega | (simp [*]; done) | fail)]) | split | fail)); all_goals (first | done | rfl | (exfalso; omega) | (simp; done) | (simp; omega) | (simp_all; done) | (simp_all; omega) | (rw [Bool.eq_iff_iff]; simp; done) | (rw [Bool.eq_iff_iff]; simp; omega) | (ext <;> (first | rfl | (simp; done) | (simp; omega) | omega | (simp_all; done) | fail)) | (simp_all [wi]; done) | (simp_all [wi]; omega) | simp_all))
end Go.Proofs.Ytlekhgmoamhgnaa
