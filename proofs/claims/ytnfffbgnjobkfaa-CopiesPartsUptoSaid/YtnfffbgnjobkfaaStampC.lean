/- Contracts of stamps: comparison and check, the program's and the reference's. No condition. -/
import Derived.Test.YtnfffbgnjobkfaaRows
import Derived.Test.YtnfffbgnjobkfaaStampM
import Derived.Test.YtnfffbgnjobkfaaApp
import Derived.WalkKit
import Derived.Handy
import Derived.ProofKit
import Derived.OpenShut
import Derived.ShutString
import Derived.ChangeOld
import Derived.Below
import Derived.Lib.Hide
import Derived.WalkLawsBesides
import Derived.WalkSpells
import Derived.Deep.QuietTactic
import Derived.BigQuiet
import Derived.Outline
import Derived.Deep.RegionHeld3
import Derived.Deep.DrawnRows
namespace Go.Proofs.Ytnfffbgnjobkfaa
set_option linter.unusedSimpArgs false
set_option linter.unusedVariables false
open Go.ChangeShapes Go.WideShapes Go.ChangeAt Go.RowKit
open Go.ChangeMaps (open_string shut_string)
attribute [local go_sem ↓] Go.wp_at_zero Go.wp_at_succ
theorem isNaN_any (n : Int) (w : World) : Calls Try.prog 31 #[I n] w fun e w' => e = .returned (.bool false) ∧ w = w' := by
  have b0 := Below.refl w.heap.size w
  have HK := Known.nil w
  go_enter Try.func31, Try.ntmps31
  go_wp2_with (fail)
  go_ret
  exact ⟨by simp, rfl⟩
def cmpI (a b : Int) : Int := if a < b then -1 else if b < a then 1 else 0
theorem compareI_any (a b : Int) (w : World) : Calls Try.prog 30 #[I a, I b] w fun e w' => e = .returned (I (cmpI a b)) ∧ w = w' := by
  have b0 := Below.refl w.heap.size w
  have HK := Known.nil w
  go_enter Try.func30, Try.ntmps30
  go_wp2_with (first | (go_at_call 31; (with_reducible refine (isNaN_any _ _).mono ?_); rintro e w1 ⟨rfl, rfl⟩))
  all_goals
    refine bodyPost_K rfl (fun K HK => ?_)
    simp [results, Try.results30, go_sem, *]
    refine HK.out _ ⟨ri ?_, rfl⟩
    clear HK K
    (try simp only [wi_iff, wi_iffF, bne_iff_ne, beq_iff_eq, Bool.not_eq_true', bne_eq_false_iff_eq, beq_eq_false_iff_ne, ne_eq, Bool.not_eq_true, Bool.not_eq_false', Bool.not_true, Bool.not_false, decide_eq_true_eq, decide_eq_false_iff_not, Bool.and_eq_true, Bool.or_eq_true, Bool.and_eq_false_imp, Bool.or_eq_false_iff] at *)
    ((try simp only [cmpI, decide_eq_true_eq]); (repeat' (first | rfl | (rw [if_pos (by first | assumption | omega | (simp [*]; done) | fail)]) | (rw [if_neg (by first | assumption | omega | (simp [*]; done) | fail)]) | split | fail)); all_goals (first | done | rfl | (exfalso; omega) | (simp; done) | (simp; omega) | (simp_all; done) | (simp_all; omega) | (rw [Bool.eq_iff_iff]; simp; done) | (rw [Bool.eq_iff_iff]; simp; omega) | (ext <;> (first | rfl | (simp; done) | (simp; omega) | omega | (simp_all; done) | fail)) | (simp_all [wi]; done) | (simp_all [wi]; omega) | simp_all))
def orI (a b : Int) : Int := if a = 0 then b else a
theorem or2_any (a b : Int) (g : Nat) (w : World) (h0 : w.cell? ⟨g, 0, none⟩ = some (I a)) (h1 : w.cell? ⟨g, 1, none⟩ = some (I b)) :
    Calls Try.prog 29 #[.slice (some ⟨g, 0, none⟩) 2 2] w fun e w' => e = .returned (I (orI a b)) ∧ w = w' := by
  go_enter Try.func29, Try.ntmps29
  go_wp2
  go_rounds 3
  all_goals
    refine bodyPost_K rfl (fun K HK => ?_)
    simp [results, Try.results29, go_sem, *]
    refine HK.out _ ⟨ri ?_, rfl⟩
    clear HK K
    (try simp only [wi_iff, wi_iffF, bne_iff_ne, beq_iff_eq, Bool.not_eq_true', bne_eq_false_iff_eq, beq_eq_false_iff_ne, ne_eq, Bool.not_eq_true, Bool.not_eq_false', Bool.not_true, Bool.not_false, decide_eq_true_eq, decide_eq_false_iff_not, Bool.and_eq_true, Bool.or_eq_true, Bool.and_eq_false_imp, Bool.or_eq_false_iff] at *)
    ((try simp only [orI, decide_eq_true_eq]); (repeat' (first | rfl | (rw [if_pos (by first | assumption | omega | (simp [*]; done) | fail)]) | (rw [if_neg (by first | assumption | omega | (simp [*]; done) | fail)]) | split | fail)); all_goals (first | done | rfl | (exfalso; omega) | (simp; done) | (simp; omega) | (simp_all; done) | (simp_all; omega) | (rw [Bool.eq_iff_iff]; simp; done) | (rw [Bool.eq_iff_iff]; simp; omega) | (ext <;> (first | rfl | (simp; done) | (simp; omega) | omega | (simp_all; done) | fail)) | (simp_all [wi]; done) | (simp_all [wi]; omega) | simp_all))
theorem who_any (n : Int) (w : World) : Calls Try.prog 28 #[I n] w fun e w' => e = .returned (.bool (wi n 0 31)) ∧ w = w' := by
  have b0 := Below.refl w.heap.size w
  have HK := Known.nil w
  go_enter Try.func28, Try.ntmps28
  go_wp2_with (fail)
  all_goals
    refine bodyPost_K rfl (fun K HK => ?_)
    simp [results, Try.results28, go_sem, *]
    refine HK.out _ ⟨rb ?_, rfl⟩
    clear HK K
    (try simp only [wi_iff, wi_iffF, bne_iff_ne, beq_iff_eq, Bool.not_eq_true', bne_eq_false_iff_eq, beq_eq_false_iff_ne, ne_eq, Bool.not_eq_true, Bool.not_eq_false', Bool.not_true, Bool.not_false, decide_eq_true_eq, decide_eq_false_iff_not, Bool.and_eq_true, Bool.or_eq_true, Bool.and_eq_false_imp, Bool.or_eq_false_iff] at *)
    ((try simp only [wi, decide_eq_true_eq]); (repeat' (first | rfl | (rw [if_pos (by first | assumption | omega | (simp [*]; done) | fail)]) | (rw [if_neg (by first | assumption | omega | (simp [*]; done) | fail)]) | split | fail)); all_goals (first | done | rfl | (exfalso; omega) | (simp; done) | (simp; omega) | (simp_all; done) | (simp_all; omega) | (rw [Bool.eq_iff_iff]; simp; done) | (rw [Bool.eq_iff_iff]; simp; omega) | (ext <;> (first | rfl | (simp; done) | (simp; omega) | omega | (simp_all; done) | fail)) | (simp_all [wi]; done) | (simp_all [wi]; omega) | simp_all))
theorem scheck_any (s : Stamp) (w : World) : Calls Try.prog 24 #[s.v] w fun e w' => e = .returned (I s.checkE) ∧ Below w.heap.size w w' := by
  have b0 := Below.refl w.heap.size w
  have HK := Known.nil w
  go_enter Try.func24, Try.ntmps24
  go_wp2_with (first | (go_at_call 28; (with_reducible refine (who_any _ _).mono ?_); rintro e w1 ⟨rfl, rfl⟩))
  all_goals
    refine bodyPost_K rfl (fun K HK => ?_)
    simp [results, Try.results24, go_sem, *]
    refine HK.out _ ⟨ri ?_, by (repeat' (first | (with_reducible exact Below.refl _ _) | (with_reducible assumption) | (with_reducible refine ba ?_ _) | (with_reducible refine bdr ?_) | (with_reducible refine below_rg ?_ _ _) | (with_reducible refine bset ?_ _ ?_ _) | (refine bt ?_ (by assumption)) | (simp; done) | (simp; omega)))⟩
    clear HK K
    (try simp only [wi_iff, wi_iffF, bne_iff_ne, beq_iff_eq, Bool.not_eq_true', bne_eq_false_iff_eq, beq_eq_false_iff_ne, ne_eq, Bool.not_eq_true, Bool.not_eq_false', Bool.not_true, Bool.not_false, decide_eq_true_eq, decide_eq_false_iff_not, Bool.and_eq_true, Bool.or_eq_true, Bool.and_eq_false_imp, Bool.or_eq_false_iff] at *)
    ((try simp only [Stamp.checkE, wi, decide_eq_true_eq]); (repeat' (first | rfl | (rw [if_pos (by first | assumption | omega | (simp [*]; done) | fail)]) | (rw [if_neg (by first | assumption | omega | (simp [*]; done) | fail)]) | split | fail)); all_goals (first | done | rfl | (exfalso; omega) | (simp; done) | (simp; omega) | (simp_all; done) | (simp_all; omega) | (rw [Bool.eq_iff_iff]; simp; done) | (rw [Bool.eq_iff_iff]; simp; omega) | (ext <;> (first | rfl | (simp; done) | (simp; omega) | omega | (simp_all; done) | fail)) | (simp_all [wi]; done) | (simp_all [wi]; omega) | simp_all))
set_option maxRecDepth 100000 in
set_option maxHeartbeats 1000000 in
theorem scompare_any (a b : Stamp) (w : World) : Calls Try.prog 26 #[a.v, b.v] w fun e w' => e = .returned (I (a.cmpN b)) ∧ Below w.heap.size w w' := by
  go_enter Try.func26, Try.ntmps26
  go_wp2_with fail
  go_region_held3 (fun w' => w'.cell? ⟨w.heap.size, 0, none⟩ = some (I a.time) ∧ w'.cell? ⟨w.heap.size, 1, none⟩ = some (I a.who) ∧ w'.cell? ⟨w.heap.size + 1, 0, none⟩ = some (I b.time) ∧ w'.cell? ⟨w.heap.size + 1, 1, none⟩ = some (I b.who)) (go_keep)
    (first | (go_at_call 30; (with_reducible refine (compareI_any _ _ _).mono ?_); rintro e w1 ⟨rfl, rfl⟩) | (go_at_call 29; refine (or2_any (cmpI a.time b.time) (cmpI a.who b.who) _ _ (by simp [go_sem]) (by simp [go_sem])).mono ?_; rintro e w1 ⟨rfl, rfl⟩))
  all_goals go_wp2
  all_goals
    refine bodyPost_K rfl (fun K HK => ?_)
    simp [results, Try.results26, go_sem, *]
    refine HK.out _ ⟨ri ?_, by (repeat' (first | (with_reducible exact Below.refl _ _) | (with_reducible assumption) | (with_reducible refine ba ?_ _) | (with_reducible refine bdr ?_) | (with_reducible refine below_rg ?_ _ _) | (with_reducible refine bset ?_ _ ?_ _) | (refine bt ?_ (by assumption)) | (simp; done) | (simp; omega)))⟩
    clear HK K
    (try simp only [wi_iff, wi_iffF, bne_iff_ne, beq_iff_eq, Bool.not_eq_true', bne_eq_false_iff_eq, beq_eq_false_iff_ne, ne_eq, Bool.not_eq_true, Bool.not_eq_false', Bool.not_true, Bool.not_false, decide_eq_true_eq, decide_eq_false_iff_not, Bool.and_eq_true, Bool.or_eq_true, Bool.and_eq_false_imp, Bool.or_eq_false_iff] at *)
    ((try simp only [Stamp.cmpN, orI, cmpI, decide_eq_true_eq]); (repeat' (first | rfl | (rw [if_pos (by first | assumption | omega | (simp [*]; done) | fail)]) | (rw [if_neg (by first | assumption | omega | (simp [*]; done) | fail)]) | split | fail)); all_goals (first | done | rfl | (exfalso; omega) | (simp; done) | (simp; omega) | (simp_all; done) | (simp_all; omega) | (rw [Bool.eq_iff_iff]; simp; done) | (rw [Bool.eq_iff_iff]; simp; omega) | (ext <;> (first | rfl | (simp; done) | (simp; omega) | omega | (simp_all; done) | fail)) | (simp_all [wi]; done) | (simp_all [wi]; omega) | simp_all))
theorem sless_any (a b : Stamp) (w : World) : Calls Try.prog 18 #[a.v, b.v] w fun e w' => e = .returned (.bool (a.lessB b)) ∧ Below w.heap.size w w' := by
  have hv := Lib.hid (Stamp.cmpN_neg a b)
  have b0 := Below.refl w.heap.size w
  have HK := Known.nil w
  go_enter Try.func18, Try.ntmps18
  go_wp2_with (first | (go_at_call 26; (with_reducible refine (scompare_any ⟨_, _⟩ ⟨_, _⟩ _).mono ?_); rintro e w1 ⟨rfl, b1⟩; have b9 : Below w.heap.size w _ := bt (by (repeat' (first | (with_reducible exact Below.refl _ _) | (with_reducible assumption) | (with_reducible refine ba ?_ _) | (with_reducible refine bdr ?_) | (with_reducible refine below_rg ?_ _ _) | (with_reducible refine bset ?_ _ ?_ _) | (refine bt ?_ (by assumption)) | (simp; done) | (simp; omega)))) b1; have HK' := Known.step b1 (by (repeat' (first | (with_reducible exact HK) | (with_reducible apply Known.drew) | (with_reducible apply Known.alloc) | (with_reducible apply Known.allocO) | (with_reducible apply Known.setCell)))); (try replace bm := bvia bm (by (repeat' (first | (with_reducible exact Below.refl _ _) | (with_reducible assumption) | (with_reducible refine ba ?_ _) | (with_reducible refine bdr ?_) | (with_reducible refine below_rg ?_ _ _) | (with_reducible refine bset ?_ _ ?_ _) | (refine bt ?_ (by assumption)) | (simp; done) | (simp; omega)))) b1); (try replace bm2 := bvia bm2 (by (repeat' (first | (with_reducible exact Below.refl _ _) | (with_reducible assumption) | (with_reducible refine ba ?_ _) | (with_reducible refine bdr ?_) | (with_reducible refine below_rg ?_ _ _) | (with_reducible refine bset ?_ _ ?_ _) | (refine bt ?_ (by assumption)) | (simp; done) | (simp; omega)))) b1); (try replace bm3 := bvia bm3 (by (repeat' (first | (with_reducible exact Below.refl _ _) | (with_reducible assumption) | (with_reducible refine ba ?_ _) | (with_reducible refine bdr ?_) | (with_reducible refine below_rg ?_ _ _) | (with_reducible refine bset ?_ _ ?_ _) | (refine bt ?_ (by assumption)) | (simp; done) | (simp; omega)))) b1); replace b0 := b9; clear b9 b1; (try clear kn); (try clear c0 f0 hz); replace HK := HK'; clear HK'; ((try simp only [World.size_alloc, World.size_setCell, World.size_drew] at HK); have kn := HK; simp [Known, setL] at kn); obtain ⟨c0, f0⟩ := bcell b0; have hz := b0.size))
  go_ret
  exact ⟨rb hv.out, by (repeat' (first | (with_reducible exact Below.refl _ _) | (with_reducible assumption) | (with_reducible refine ba ?_ _) | (with_reducible refine bdr ?_) | (with_reducible refine below_rg ?_ _ _) | (with_reducible refine bset ?_ _ ?_ _) | (refine bt ?_ (by assumption)) | (simp; done) | (simp; omega)))⟩
theorem at_any (a b : Int) (w : World) : Calls Try.prog 27 #[I a, I b] w fun e w' => e = .returned (.agg #[I a, I b]) ∧ Below w.heap.size w w' := by
  have b0 := Below.refl w.heap.size w
  have HK := Known.nil w
  go_enter Try.func27, Try.ntmps27
  go_wp2_with (fail)
  all_goals
    refine bodyPost_K rfl (fun K HK => ?_)
    simp [results, Try.results27, go_sem, *]
    exact HK.out _ ⟨rfl, by (repeat' (first | (with_reducible exact Below.refl _ _) | (with_reducible assumption) | (with_reducible refine ba ?_ _) | (with_reducible refine bdr ?_) | (with_reducible refine below_rg ?_ _ _) | (with_reducible refine bset ?_ _ ?_ _) | (refine bt ?_ (by assumption)) | (simp; done) | (simp; omega)))⟩
theorem rscheck_any (s : Stamp) (w : World) : Calls Try.prog 25 #[s.v] w fun e w' => e = .returned (I s.checkE) ∧ Below w.heap.size w w' := by
  have b0 := Below.refl w.heap.size w
  have HK := Known.nil w
  go_enter Try.func25, Try.ntmps25
  go_wp2_with (fail)
  all_goals
    refine bodyPost_K rfl (fun K HK => ?_)
    simp [results, Try.results25, go_sem, *]
    refine HK.out _ ⟨ri ?_, by (repeat' (first | (with_reducible exact Below.refl _ _) | (with_reducible assumption) | (with_reducible refine ba ?_ _) | (with_reducible refine bdr ?_) | (with_reducible refine below_rg ?_ _ _) | (with_reducible refine bset ?_ _ ?_ _) | (refine bt ?_ (by assumption)) | (simp; done) | (simp; omega)))⟩
    clear HK K
    (try simp only [wi_iff, wi_iffF, bne_iff_ne, beq_iff_eq, Bool.not_eq_true', bne_eq_false_iff_eq, beq_eq_false_iff_ne, ne_eq, Bool.not_eq_true, Bool.not_eq_false', Bool.not_true, Bool.not_false, decide_eq_true_eq, decide_eq_false_iff_not, Bool.and_eq_true, Bool.or_eq_true, Bool.and_eq_false_imp, Bool.or_eq_false_iff] at *)
    ((try simp only [Stamp.checkE, decide_eq_true_eq]); (repeat' (first | rfl | (rw [if_pos (by first | assumption | omega | (simp [*]; done) | fail)]) | (rw [if_neg (by first | assumption | omega | (simp [*]; done) | fail)]) | split | fail)); all_goals (first | done | rfl | (exfalso; omega) | (simp; done) | (simp; omega) | (simp_all; done) | (simp_all; omega) | (rw [Bool.eq_iff_iff]; simp; done) | (rw [Bool.eq_iff_iff]; simp; omega) | (ext <;> (first | rfl | (simp; done) | (simp; omega) | omega | (simp_all; done) | fail)) | (simp_all [wi]; done) | (simp_all [wi]; omega) | simp_all))
theorem rsless_any (a b : Stamp) (w : World) : Calls Try.prog 22 #[a.v, b.v] w fun e w' => e = .returned (.bool (a.lessB b)) ∧ Below w.heap.size w w' := by
  have b0 := Below.refl w.heap.size w
  have HK := Known.nil w
  go_enter Try.func22, Try.ntmps22
  go_wp2_with (fail)
  all_goals
    refine bodyPost_K rfl (fun K HK => ?_)
    simp [results, Try.results22, go_sem, *]
    refine HK.out _ ⟨rb ?_, by (repeat' (first | (with_reducible exact Below.refl _ _) | (with_reducible assumption) | (with_reducible refine ba ?_ _) | (with_reducible refine bdr ?_) | (with_reducible refine below_rg ?_ _ _) | (with_reducible refine bset ?_ _ ?_ _) | (refine bt ?_ (by assumption)) | (simp; done) | (simp; omega)))⟩
    clear HK K
    (try simp only [wi_iff, wi_iffF, bne_iff_ne, beq_iff_eq, Bool.not_eq_true', bne_eq_false_iff_eq, beq_eq_false_iff_ne, ne_eq, Bool.not_eq_true, Bool.not_eq_false', Bool.not_true, Bool.not_false, decide_eq_true_eq, decide_eq_false_iff_not, Bool.and_eq_true, Bool.or_eq_true, Bool.and_eq_false_imp, Bool.or_eq_false_iff] at *)
    ((try simp only [Stamp.lessB, decide_eq_true_eq]); (repeat' (first | rfl | (rw [if_pos (by first | assumption | omega | (simp [*]; done) | fail)]) | (rw [if_neg (by first | assumption | omega | (simp [*]; done) | fail)]) | split | fail)); all_goals (first | done | rfl | (exfalso; omega) | (simp; done) | (simp; omega) | (simp_all; done) | (simp_all; omega) | (rw [Bool.eq_iff_iff]; simp; done) | (rw [Bool.eq_iff_iff]; simp; omega) | (ext <;> (first | rfl | (simp; done) | (simp; omega) | omega | (simp_all; done) | fail)) | (simp_all [wi]; done) | (simp_all [wi]; omega) | simp_all))
end Go.Proofs.Ytnfffbgnjobkfaa
