/- Contracts of package stamp: what each call returns. No condition. -/
import Derived.Test.YtplgjcgebacjnaaRows
import Derived.Test.YtplgjcgebacjnaaStampM
import Derived.Test.YtplgjcgebacjnaaApp
import Derived.WalkKit
import Derived.Handy
import Derived.ProofKit
import Derived.OpenShut
import Derived.ShutString
import Derived.ChangeOld
import Derived.Below
import Derived.Lib.Hide
import Derived.WalkLawsBesides
import Derived.WalkSpells
import Derived.Deep.QuietTactic
import Derived.BigQuiet
import Derived.Outline
import Derived.Deep.RegionHeld3
import Derived.Deep.DrawnRows
namespace Go.Proofs.Ytplgjcgebacjnaa
set_option linter.unusedSimpArgs false
set_option linter.unusedVariables false
open Go.ChangeShapes Go.WideShapes Go.ChangeAt Go.RowKit
open Go.ChangeMaps (open_string shut_string)
attribute [local go_sem ↓] Go.wp_at_zero Go.wp_at_succ
theorem isNaN_any (n : Int) (w : World) : Calls Try.prog 22 #[I n] w fun e w' => e = .returned (.bool false) ∧ w = w' := by
  have b0 := Below.refl w.heap.size w
  have HK := Known.nil w
  go_enter Try.func22, Try.ntmps22
  go_wp2
  go_ret
  exact ⟨by simp, rfl⟩
def cmpI (a b : Int) : Int := if a < b then -1 else if b < a then 1 else 0
theorem compareI_any (a b : Int) (w : World) : Calls Try.prog 21 #[I a, I b] w fun e w' => e = .returned (I (cmpI a b)) ∧ w = w' := by
  have b0 := Below.refl w.heap.size w
  have HK := Known.nil w
  go_enter Try.func21, Try.ntmps21
  go_wp2_with (first | (go_at_call 22; (with_reducible refine (isNaN_any _ _).mono ?_); rintro e w1 ⟨rfl, rfl⟩))
  all_goals
    refine bodyPost_K rfl (fun K HK => ?_)
    simp [results, Try.results21, go_sem, *]
    refine HK.out _ ⟨ri ?_, rfl⟩
    clear HK K
    (try simp only [wi_iff, wi_iffF, bne_iff_ne, beq_iff_eq, Bool.not_eq_true', bne_eq_false_iff_eq, beq_eq_false_iff_ne, ne_eq, Bool.not_eq_true, Bool.not_eq_false', Bool.not_true, Bool.not_false, decide_eq_true_eq, decide_eq_false_iff_not, Bool.and_eq_true, Bool.or_eq_true, Bool.and_eq_false_imp, Bool.or_eq_false_iff] at *)
    ((try simp only [cmpI, decide_eq_true_eq]); (repeat' (first | rfl | (rw [if_pos (by first | assumption | omega | (simp [*]; done) | fail)]) | (rw [if_neg (by first | assumption | omega | (simp [*]; done) | fail)]) | split | fail)); all_goals (first | done | rfl | (exfalso; omega) | (simp; done) | (simp; omega) | (simp_all; done) | (simp_all; omega) | (rw [Bool.eq_iff_iff]; simp; done) | (rw [Bool.eq_iff_iff]; simp; omega) | (ext <;> (first | rfl | (simp; done) | (simp; omega) | omega | (simp_all; done) | fail)) | simp_all))
def orI (a b : Int) : Int := if a = 0 then b else a
theorem or2_any (a b : Int) (g : Nat) (w : World) (h0 : w.cell? ⟨g, 0, none⟩ = some (I a)) (h1 : w.cell? ⟨g, 1, none⟩ = some (I b)) :
    Calls Try.prog 20 #[.slice (some ⟨g, 0, none⟩) 2 2] w fun e w' => e = .returned (I (orI a b)) ∧ w = w' := by
  go_enter Try.func20, Try.ntmps20
  go_wp2
  go_rounds 3
  all_goals
    refine bodyPost_K rfl (fun K HK => ?_)
    simp [results, Try.results20, go_sem, *]
    refine HK.out _ ⟨ri ?_, rfl⟩
    clear HK K
    (try simp only [wi_iff, wi_iffF, bne_iff_ne, beq_iff_eq, Bool.not_eq_true', bne_eq_false_iff_eq, beq_eq_false_iff_ne, ne_eq, Bool.not_eq_true, Bool.not_eq_false', Bool.not_true, Bool.not_false, decide_eq_true_eq, decide_eq_false_iff_not, Bool.and_eq_true, Bool.or_eq_true, Bool.and_eq_false_imp, Bool.or_eq_false_iff] at *)
    ((try simp only [orI, decide_eq_true_eq]); (repeat' (first | rfl | (rw [if_pos (by first | assumption | omega | (simp [*]; done) | fail)]) | (rw [if_neg (by first | assumption | omega | (simp [*]; done) | fail)]) | split | fail)); all_goals (first | done | rfl | (exfalso; omega) | (simp; done) | (simp; omega) | (simp_all; done) | (simp_all; omega) | (rw [Bool.eq_iff_iff]; simp; done) | (rw [Bool.eq_iff_iff]; simp; omega) | (ext <;> (first | rfl | (simp; done) | (simp; omega) | omega | (simp_all; done) | fail)) | simp_all))
theorem who_any (n : Int) (w : World) : Calls Try.prog 18 #[I n] w fun e w' => e = .returned (.bool (wi n 0 31)) ∧ w = w' := by
  have b0 := Below.refl w.heap.size w
  have HK := Known.nil w
  go_enter Try.func18, Try.ntmps18
  go_wp2
  all_goals
    refine bodyPost_K rfl (fun K HK => ?_)
    simp [results, Try.results18, go_sem, *]
    refine HK.out _ ⟨rb ?_, rfl⟩
    clear HK K
    (try simp only [wi_iff, wi_iffF, bne_iff_ne, beq_iff_eq, Bool.not_eq_true', bne_eq_false_iff_eq, beq_eq_false_iff_ne, ne_eq, Bool.not_eq_true, Bool.not_eq_false', Bool.not_true, Bool.not_false, decide_eq_true_eq, decide_eq_false_iff_not, Bool.and_eq_true, Bool.or_eq_true, Bool.and_eq_false_imp, Bool.or_eq_false_iff] at *)
    ((try simp only [wi, decide_eq_true_eq]); (repeat' (first | rfl | (rw [if_pos (by first | assumption | omega | (simp [*]; done) | fail)]) | (rw [if_neg (by first | assumption | omega | (simp [*]; done) | fail)]) | split | fail)); all_goals (first | done | rfl | (exfalso; omega) | (simp; done) | (simp; omega) | (simp_all; done) | (simp_all; omega) | (rw [Bool.eq_iff_iff]; simp; done) | (rw [Bool.eq_iff_iff]; simp; omega) | (ext <;> (first | rfl | (simp; done) | (simp; omega) | omega | (simp_all; done) | fail)) | simp_all))
theorem scheck_any (s : Stamp) (w : World) : Calls Try.prog 12 #[s.v] w fun e w' => e = .returned (I s.checkE) ∧ Below w.heap.size w w' := by
  have b0 := Below.refl w.heap.size w
  have HK := Known.nil w
  go_enter Try.func12, Try.ntmps12
  go_wp2_with (first | (go_at_call 18; (with_reducible refine (who_any _ _).mono ?_); rintro e w1 ⟨rfl, rfl⟩))
  all_goals
    refine bodyPost_K rfl (fun K HK => ?_)
    simp [results, Try.results12, go_sem, *]
    refine HK.out _ ⟨ri ?_, by (repeat' (first | exact Below.refl _ _ | assumption | (refine ba ?_ _) | (refine bdr ?_) | (refine bset ?_ _ ?_ _) | (refine bt ?_ (by assumption)) | (simp; done) | (simp; omega)))⟩
    clear HK K
    (try simp only [wi_iff, wi_iffF, bne_iff_ne, beq_iff_eq, Bool.not_eq_true', bne_eq_false_iff_eq, beq_eq_false_iff_ne, ne_eq, Bool.not_eq_true, Bool.not_eq_false', Bool.not_true, Bool.not_false, decide_eq_true_eq, decide_eq_false_iff_not, Bool.and_eq_true, Bool.or_eq_true, Bool.and_eq_false_imp, Bool.or_eq_false_iff] at *)
    ((try simp only [Stamp.checkE, wi, decide_eq_true_eq]); (repeat' (first | rfl | (rw [if_pos (by first | assumption | omega | (simp [*]; done) | fail)]) | (rw [if_neg (by first | assumption | omega | (simp [*]; done) | fail)]) | split | fail)); all_goals (first | done | rfl | (exfalso; omega) | (simp; done) | (simp; omega) | (simp_all; done) | (simp_all; omega) | (rw [Bool.eq_iff_iff]; simp; done) | (rw [Bool.eq_iff_iff]; simp; omega) | (ext <;> (first | rfl | (simp; done) | (simp; omega) | omega | (simp_all; done) | fail)) | simp_all))
set_option maxRecDepth 100000 in
set_option maxHeartbeats 1000000 in
theorem scompare_any (a b : Stamp) (w : World) : Calls Try.prog 17 #[a.v, b.v] w fun e w' => e = .returned (I (a.cmpN b)) ∧ Below w.heap.size w w' := by
  go_enter Try.func17, Try.ntmps17
  go_wp2_with fail
  go_region_held3 (fun w' => w'.cell? ⟨w.heap.size, 0, none⟩ = some (I a.time) ∧ w'.cell? ⟨w.heap.size, 1, none⟩ = some (I a.who) ∧ w'.cell? ⟨w.heap.size + 1, 0, none⟩ = some (I b.time) ∧ w'.cell? ⟨w.heap.size + 1, 1, none⟩ = some (I b.who)) (go_keep)
    (first | (go_at_call 21; (with_reducible refine (compareI_any _ _ _).mono ?_); rintro e w1 ⟨rfl, rfl⟩) | (go_at_call 20; refine (or2_any (cmpI a.time b.time) (cmpI a.who b.who) _ _ (by simp [go_sem]) (by simp [go_sem])).mono ?_; rintro e w1 ⟨rfl, rfl⟩))
  all_goals go_wp2
  all_goals
    refine bodyPost_K rfl (fun K HK => ?_)
    simp [results, Try.results17, go_sem, *]
    refine HK.out _ ⟨ri ?_, by (repeat' (first | exact Below.refl _ _ | assumption | (refine ba ?_ _) | (refine bdr ?_) | (refine bset ?_ _ ?_ _) | (refine bt ?_ (by assumption)) | (simp; done) | (simp; omega)))⟩
    clear HK K
    (try simp only [wi_iff, wi_iffF, bne_iff_ne, beq_iff_eq, Bool.not_eq_true', bne_eq_false_iff_eq, beq_eq_false_iff_ne, ne_eq, Bool.not_eq_true, Bool.not_eq_false', Bool.not_true, Bool.not_false, decide_eq_true_eq, decide_eq_false_iff_not, Bool.and_eq_true, Bool.or_eq_true, Bool.and_eq_false_imp, Bool.or_eq_false_iff] at *)
    ((try simp only [Stamp.cmpN, orI, cmpI, decide_eq_true_eq]); (repeat' (first | rfl | (rw [if_pos (by first | assumption | omega | (simp [*]; done) | fail)]) | (rw [if_neg (by first | assumption | omega | (simp [*]; done) | fail)]) | split | fail)); all_goals (first | done | rfl | (exfalso; omega) | (simp; done) | (simp; omega) | (simp_all; done) | (simp_all; omega) | (rw [Bool.eq_iff_iff]; simp; done) | (rw [Bool.eq_iff_iff]; simp; omega) | (ext <;> (first | rfl | (simp; done) | (simp; omega) | omega | (simp_all; done) | fail)) | simp_all))
theorem sless_any (a b : Stamp) (w : World) : Calls Try.prog 14 #[a.v, b.v] w fun e w' => e = .returned (.bool (a.lessB b)) ∧ Below w.heap.size w w' := by
  have hv := Lib.hid (Stamp.cmpN_neg a b)
  have b0 := Below.refl w.heap.size w
  have HK := Known.nil w
  go_enter Try.func14, Try.ntmps14
  go_wp2_with (first | (go_at_call 17; (with_reducible refine (scompare_any ⟨_, _⟩ ⟨_, _⟩ _).mono ?_); rintro e w1 ⟨rfl, b1⟩; have bw := Known.bw HK (by (repeat' (first | exact Below.refl _ _ | assumption | (refine ba ?_ _) | (refine bdr ?_) | (refine bset ?_ _ ?_ _) | (refine bt ?_ (by assumption)) | (simp; done) | (simp; omega)))) b1; have HK' := Known.step b1 (by (repeat' (first | (with_reducible exact HK) | (with_reducible apply Known.drew) | (with_reducible apply Known.alloc) | (with_reducible apply Known.allocO) | (with_reducible apply Known.setCell)))); (try replace hr := GoT.step hr bw); (try replace hs := GoT.step hs bw); (try replace ht := GoT.step ht bw); (try replace hu := GoT.step hu bw); replace b0 := bt b0 bw; clear bw b1; (try clear kn); (try clear c0 f0 hz); replace HK := HK'; clear HK'; ((try simp only [World.size_alloc, World.size_setCell, World.size_drew] at HK); have kn := HK; simp [Known, setL] at kn); obtain ⟨c0, f0⟩ := bcell b0; have hz := b0.size))
  go_ret
  exact ⟨rb hv.out, by (repeat' (first | exact Below.refl _ _ | assumption | (refine ba ?_ _) | (refine bdr ?_) | (refine bset ?_ _ ?_ _) | (refine bt ?_ (by assumption)) | (simp; done) | (simp; omega)))⟩
theorem at_any (a b : Int) (w : World) : Calls Try.prog 19 #[I a, I b] w fun e w' => e = .returned (.agg #[I a, I b]) ∧ Below w.heap.size w w' := by
  have b0 := Below.refl w.heap.size w
  have HK := Known.nil w
  go_enter Try.func19, Try.ntmps19
  go_wp2
  all_goals
    refine bodyPost_K rfl (fun K HK => ?_)
    simp [results, Try.results19, go_sem, *]
    exact HK.out _ ⟨rfl, by (repeat' (first | exact Below.refl _ _ | assumption | (refine ba ?_ _) | (refine bdr ?_) | (refine bset ?_ _ ?_ _) | (refine bt ?_ (by assumption)) | (simp; done) | (simp; omega)))⟩
theorem rscheck_any (s : Stamp) (w : World) : Calls Try.prog 13 #[s.v] w fun e w' => e = .returned (I s.checkE) ∧ Below w.heap.size w w' := by
  have b0 := Below.refl w.heap.size w
  have HK := Known.nil w
  go_enter Try.func13, Try.ntmps13
  go_wp2
  all_goals
    refine bodyPost_K rfl (fun K HK => ?_)
    simp [results, Try.results13, go_sem, *]
    refine HK.out _ ⟨ri ?_, by (repeat' (first | exact Below.refl _ _ | assumption | (refine ba ?_ _) | (refine bdr ?_) | (refine bset ?_ _ ?_ _) | (refine bt ?_ (by assumption)) | (simp; done) | (simp; omega)))⟩
    clear HK K
    (try simp only [wi_iff, wi_iffF, bne_iff_ne, beq_iff_eq, Bool.not_eq_true', bne_eq_false_iff_eq, beq_eq_false_iff_ne, ne_eq, Bool.not_eq_true, Bool.not_eq_false', Bool.not_true, Bool.not_false, decide_eq_true_eq, decide_eq_false_iff_not, Bool.and_eq_true, Bool.or_eq_true, Bool.and_eq_false_imp, Bool.or_eq_false_iff] at *)
    ((try simp only [Stamp.checkE, decide_eq_true_eq]); (repeat' (first | rfl | (rw [if_pos (by first | assumption | omega | (simp [*]; done) | fail)]) | (rw [if_neg (by first | assumption | omega | (simp [*]; done) | fail)]) | split | fail)); all_goals (first | done | rfl | (exfalso; omega) | (simp; done) | (simp; omega) | (simp_all; done) | (simp_all; omega) | (rw [Bool.eq_iff_iff]; simp; done) | (rw [Bool.eq_iff_iff]; simp; omega) | (ext <;> (first | rfl | (simp; done) | (simp; omega) | omega | (simp_all; done) | fail)) | simp_all))
theorem rsless_any (a b : Stamp) (w : World) : Calls Try.prog 15 #[a.v, b.v] w fun e w' => e = .returned (.bool (a.lessB b)) ∧ Below w.heap.size w w' := by
  have b0 := Below.refl w.heap.size w
  have HK := Known.nil w
  go_enter Try.func15, Try.ntmps15
  go_wp2
  all_goals
    refine bodyPost_K rfl (fun K HK => ?_)
    simp [results, Try.results15, go_sem, *]
    refine HK.out _ ⟨rb ?_, by (repeat' (first | exact Below.refl _ _ | assumption | (refine ba ?_ _) | (refine bdr ?_) | (refine bset ?_ _ ?_ _) | (refine bt ?_ (by assumption)) | (simp; done) | (simp; omega)))⟩
    clear HK K
    (try simp only [wi_iff, wi_iffF, bne_iff_ne, beq_iff_eq, Bool.not_eq_true', bne_eq_false_iff_eq, beq_eq_false_iff_ne, ne_eq, Bool.not_eq_true, Bool.not_eq_false', Bool.not_true, Bool.not_false, decide_eq_true_eq, decide_eq_false_iff_not, Bool.and_eq_true, Bool.or_eq_true, Bool.and_eq_false_imp, Bool.or_eq_false_iff] at *)
    ((try simp only [Stamp.lessB, decide_eq_true_eq]); (repeat' (first | rfl | (rw [if_pos (by first | assumption | omega | (simp [*]; done) | fail)]) | (rw [if_neg (by first | assumption | omega | (simp [*]; done) | fail)]) | split | fail)); all_goals (first | done | rfl | (exfalso; omega) | (simp; done) | (simp; omega) | (simp_all; done) | (simp_all; omega) | (rw [Bool.eq_iff_iff]; simp; done) | (rw [Bool.eq_iff_iff]; simp; omega) | (ext <;> (first | rfl | (simp; done) | (simp; omega) | omega | (simp_all; done) | fail)) | simp_all))
/-- A list of stamps that lies in memory. -/
theorem stamps_open {w : World} {B : Nat} {A : Option Addr} {n c : Nat} {xs : List Stamp} (h : GoT.rep w B [.slice A n c] xs) :
    n = xs.length ∧ n ≤ c ∧ c ≤ 9223372036854775807 ∧ (xs = [] ∨ ∃ b off, A = some ⟨b, off, none⟩ ∧ b < B ∧ ∀ i (hi : i < xs.length), w.cell? ⟨b, off + i * 2, none⟩ = some (I xs[i].time) ∧ w.cell? ⟨b, off + i * 2 + 1, none⟩ = some (I xs[i].who)) := by
  obtain ⟨h1, h2, h3, _, h5⟩ := list_open Stamp.enc _ Stamp.flat h
  refine ⟨h1, h2, h3, h5.imp id ?_⟩
  rintro ⟨b, off, hA, hb, hs⟩
  exact ⟨b, off, hA, hb, fun i hi => ⟨hs i hi 0 _ rfl, hs i hi 1 _ rfl⟩⟩
set_option maxRecDepth 100000 in
set_option maxHeartbeats 1000000 in
theorem maxFunc_any (x : Stamp) (l : List Stamp) (A : Option Addr) (n c : Nat) (w : World) (hr : GoT.rep w w.heap.size [.slice A n c] (x :: l)) :
    Calls Try.prog 16 #[.slice A n c, .func (.func 17) #[] #[]] w fun e w' => e = .returned (l.foldl Stamp.mx x).v ∧ Below w.heap.size w w' := by
  obtain ⟨ln, l1, l2, l4⟩ := stamps_open hr
  rcases l4 with h | ⟨b, off, rfl, hb, hc⟩
  · simp at h
  have hn : 1 ≤ n := by rw [ln]; simp
  have Ln := Lib.hid ln
  have h0 := (hc 0 (by simp)).1
  have h1 := (hc 0 (by simp)).2
  simp only [Nat.zero_mul, Nat.add_zero, List.getElem_cons_zero] at h0 h1
  have Hc := Lib.hid hc
  clear hc hr ln
  have b0 := Below.refl w.heap.size w
  have HK := Known.nil w
  go_enter Try.func16, Try.ntmps16
  go_wp2
  go_loopw [6] (fun i wr => ∃ k : Nat, k + 1 ≤ n ∧ i = I (k + 1 : Nat) ∧ Known wr [(w.heap.size + 1, [I ((l.take k).foldl Stamp.mx x).time, I ((l.take k).foldl Stamp.mx x).who]), (w.heap.size, [I 0, I 0])] ∧ Below w.heap.size w wr) (fun i _ => (n - intOf i).toNat)
  case atStart => exact ⟨0, by omega, rfl, (by first | exact HK | exact HK.2.2 | exact HK.2.2.2.2 | exact HK.2.2.2.2.2.2 | exact Known.to (by (repeat' (first | (with_reducible exact HK) | (with_reducible apply Known.drew) | (with_reducible apply Known.alloc) | (with_reducible apply Known.allocO) | (with_reducible apply Known.setCell)))) (by first | rfl | (simp [setL]; done))), by (repeat' (first | exact Below.refl _ _ | assumption | (refine ba ?_ _) | (refine bdr ?_) | (refine bset ?_ _ ?_ _) | (refine bt ?_ (by assumption)) | (simp; done) | (simp; omega)))⟩
  case round =>
    obtain ⟨k, hk, rfl, HK, b0⟩ := hrel
    have hl : n = l.length + 1 := by have := Ln.out; simpa using this
    by_cases hlt : k + 1 < n
    · have hkl : k < l.length := by omega
      have d0 := (Hc.out (k + 1) (by simp; omega)).1
      have d1 := (Hc.out (k + 1) (by simp; omega)).2
      simp only [List.getElem_cons_succ] at d0 d1
      have hstep := Lib.hid (show (l.take (k + 1)).foldl Stamp.mx x = Stamp.mx ((l.take k).foldl Stamp.mx x) l[k] by rw [List.take_succ_eq_append_getElem hkl]; simp only [List.foldl_append, List.foldl_cons, List.foldl_nil])
      have hp := Lib.hid (Stamp.cmpN_pos l[k] ((l.take k).foldl Stamp.mx x))
      generalize (l.take k).foldl Stamp.mx x = m at *
      generalize l[k] = s at *
      have hn1 : ((k : Int) + 1) < (n : Int) := by omega
      clear hl
      (((try simp only [World.size_alloc, World.size_setCell, World.size_drew] at HK); have kn := HK; simp [Known, setL] at kn); obtain ⟨c0, f0⟩ := bcell b0; have hz := b0.size)
      have hp' := hp.out
      clear hp
      cases hL : m.lessB s
      · have hmx := Lib.hid (show Stamp.mx m s = m by simp [Stamp.mx, hL])
        rw [hL] at hp'
        clear hL
        go_wp2
        ((try (refine know_here (w0 := w) (by (repeat' (first | (with_reducible exact HK) | (with_reducible apply Known.drew) | (with_reducible apply Known.alloc) | (with_reducible apply Known.allocO) | (with_reducible apply Known.setCell)))) (by (repeat' (first | exact Below.refl _ _ | assumption | (refine ba ?_ _) | (refine bdr ?_) | (refine bset ?_ _ ?_ _) | (refine bt ?_ (by assumption)) | (simp; done) | (simp; omega)))) (fun HK' b0' => ?_); replace HK := HK'; replace b0 := b0'; clear HK' b0'; (try clear kn); (try clear c0 f0 hz); ((try simp only [World.size_alloc, World.size_setCell, World.size_drew] at HK); have kn := HK; simp [Known, setL] at kn); obtain ⟨c0, f0⟩ := bcell b0; have hz := b0.size))
         refine wp_region_quiet_below (by kernel_rfl) (by kernel_rfl) ?_
         repeat (any_goals (first | go_big_quiet_step (first | (go_at_call 17; exact Calls.regrown_of (scompare_any ⟨_, _⟩ ⟨_, _⟩ _))) | quiet_step (first | (go_at_call 17; exact Calls.regrown_of (scompare_any ⟨_, _⟩ ⟨_, _⟩ _)))))
         refine wpQuiet_nil ?_
         intro w1 hq
         have b1 := below_of_regrown hq
         clear hq
         have bw := Known.bw HK (by (repeat' (first | exact Below.refl _ _ | assumption | (refine ba ?_ _) | (refine bdr ?_) | (refine bset ?_ _ ?_ _) | (refine bt ?_ (by assumption)) | (simp; done) | (simp; omega)))) b1; have HK' := Known.step b1 (by (repeat' (first | (with_reducible exact HK) | (with_reducible apply Known.drew) | (with_reducible apply Known.alloc) | (with_reducible apply Known.allocO) | (with_reducible apply Known.setCell)))); (try replace hr := GoT.step hr bw); (try replace hs := GoT.step hs bw); (try replace ht := GoT.step ht bw); (try replace hu := GoT.step hu bw); replace b0 := bt b0 bw; clear bw b1; (try clear kn); (try clear c0 f0 hz); replace HK := HK'; clear HK'; ((try simp only [World.size_alloc, World.size_setCell, World.size_drew] at HK); have kn := HK; simp [Known, setL] at kn); obtain ⟨c0, f0⟩ := bcell b0; have hz := b0.size)
        go_wp2
        go_roundw
        case rel => exact ⟨k + 1, by omega, by go_num, by rw [hstep.out, hmx.out]; exact (by first | exact HK | exact HK.2.2 | exact HK.2.2.2.2 | exact HK.2.2.2.2.2.2 | exact Known.to (by (repeat' (first | (with_reducible exact HK) | (with_reducible apply Known.drew) | (with_reducible apply Known.alloc) | (with_reducible apply Known.allocO) | (with_reducible apply Known.setCell)))) (by first | rfl | (simp [setL]; done))), by (repeat' (first | exact Below.refl _ _ | assumption | (refine ba ?_ _) | (refine bdr ?_) | (refine bset ?_ _ ?_ _) | (refine bt ?_ (by assumption)) | (simp; done) | (simp; omega)))⟩
        case measure => simp [intOf]; omega
      · have hmx := Lib.hid (show Stamp.mx m s = s by simp [Stamp.mx, hL])
        rw [hL] at hp'
        clear hL
        go_wp2
        ((try (refine know_here (w0 := w) (by (repeat' (first | (with_reducible exact HK) | (with_reducible apply Known.drew) | (with_reducible apply Known.alloc) | (with_reducible apply Known.allocO) | (with_reducible apply Known.setCell)))) (by (repeat' (first | exact Below.refl _ _ | assumption | (refine ba ?_ _) | (refine bdr ?_) | (refine bset ?_ _ ?_ _) | (refine bt ?_ (by assumption)) | (simp; done) | (simp; omega)))) (fun HK' b0' => ?_); replace HK := HK'; replace b0 := b0'; clear HK' b0'; (try clear kn); (try clear c0 f0 hz); ((try simp only [World.size_alloc, World.size_setCell, World.size_drew] at HK); have kn := HK; simp [Known, setL] at kn); obtain ⟨c0, f0⟩ := bcell b0; have hz := b0.size))
         refine wp_region_quiet_below (by kernel_rfl) (by kernel_rfl) ?_
         repeat (any_goals (first | go_big_quiet_step (first | (go_at_call 17; exact Calls.regrown_of (scompare_any ⟨_, _⟩ ⟨_, _⟩ _))) | quiet_step (first | (go_at_call 17; exact Calls.regrown_of (scompare_any ⟨_, _⟩ ⟨_, _⟩ _)))))
         refine wpQuiet_nil ?_
         intro w1 hq
         have b1 := below_of_regrown hq
         clear hq
         have bw := Known.bw HK (by (repeat' (first | exact Below.refl _ _ | assumption | (refine ba ?_ _) | (refine bdr ?_) | (refine bset ?_ _ ?_ _) | (refine bt ?_ (by assumption)) | (simp; done) | (simp; omega)))) b1; have HK' := Known.step b1 (by (repeat' (first | (with_reducible exact HK) | (with_reducible apply Known.drew) | (with_reducible apply Known.alloc) | (with_reducible apply Known.allocO) | (with_reducible apply Known.setCell)))); (try replace hr := GoT.step hr bw); (try replace hs := GoT.step hs bw); (try replace ht := GoT.step ht bw); (try replace hu := GoT.step hu bw); replace b0 := bt b0 bw; clear bw b1; (try clear kn); (try clear c0 f0 hz); replace HK := HK'; clear HK'; ((try simp only [World.size_alloc, World.size_setCell, World.size_drew] at HK); have kn := HK; simp [Known, setL] at kn); obtain ⟨c0, f0⟩ := bcell b0; have hz := b0.size)
        go_wp2
        go_roundw
        case rel => exact ⟨k + 1, by omega, by go_num, by rw [hstep.out, hmx.out]; exact (by first | exact HK | exact HK.2.2 | exact HK.2.2.2.2 | exact HK.2.2.2.2.2.2 | exact Known.to (by (repeat' (first | (with_reducible exact HK) | (with_reducible apply Known.drew) | (with_reducible apply Known.alloc) | (with_reducible apply Known.allocO) | (with_reducible apply Known.setCell)))) (by first | rfl | (simp [setL]; done))), by (repeat' (first | exact Below.refl _ _ | assumption | (refine ba ?_ _) | (refine bdr ?_) | (refine bset ?_ _ ?_ _) | (refine bt ?_ (by assumption)) | (simp; done) | (simp; omega)))⟩
        case measure => simp [intOf]; omega
    · obtain rfl : k = l.length := by omega
      have hn1 : (n : Int) ≤ (l.length : Int) + 1 := by omega
      rw [List.take_length] at HK
      clear hl
      obtain ⟨m, hm⟩ : ∃ m, l.foldl Stamp.mx x = m := ⟨_, rfl⟩
      rw [hm] at HK
      have Hm := Lib.hid hm
      clear hm
      (((try simp only [World.size_alloc, World.size_setCell, World.size_drew] at HK); have kn := HK; simp [Known, setL] at kn); obtain ⟨c0, f0⟩ := bcell b0; have hz := b0.size)
      go_wp2
      all_goals
        refine bodyPost_K rfl (fun K HK => ?_)
        simp [results, Try.results16, go_sem, *]
        exact HK.out _ ⟨by rw [Hm.out], by (repeat' (first | exact Below.refl _ _ | assumption | (refine ba ?_ _) | (refine bdr ?_) | (refine bset ?_ _ ?_ _) | (refine bt ?_ (by assumption)) | (simp; done) | (simp; omega)))⟩
def Stamp.F : Flat Stamp where
  enc x := [I x.time, I x.who]
  len _ := rfl
  pos := by decide
  one x u h := by
    simp only [List.mem_cons, List.not_mem_nil, or_false] at h
    rcases h with rfl | rfl <;> rfl
theorem Stamp.info : ∃ i z, Try.prog.info? 23 = some i ∧ i.zero = some z ∧ i.size = GoT.size Stamp ∧ i.bytes = 16 ∧ z.cells.size = GoT.size Stamp := by
  have h : (Try.prog.info? 23).map (fun i => (i.zero, i.size, i.bytes)) = some (some (.agg #[.int .i64 0, .int .i64 0]), 2, 16) := by kernel_rfl
  obtain ⟨i, h1, h2, h3, h4⟩ := info_parts h
  exact ⟨i, _, h1, h2, h3, h4, rfl⟩
theorem stamps_src {w wr : World} {B : Nat} {A : Option Addr} {n c : Nat} {xs : List Stamp} (h : GoT.rep w B [.slice A n c] xs) (hk : ∀ b o, b < B → wr.cell? ⟨b, o, none⟩ = w.cell? ⟨b, o, none⟩) : SrcAt Stamp.F wr A n xs := by
  obtain ⟨h1, h2, h3, _, h5⟩ := list_open Stamp.enc _ Stamp.flat h
  refine src_of Stamp.F h1 (h5.imp id ?_)
  rintro ⟨b, off, hA, hb, hs⟩
  exact ⟨b, off, hA, fun i hi j u hu => (hk b _ hb).trans (hs i hi j u hu)⟩
theorem stamps_ok {w : World} {B : Nat} {A : Option Addr} {n c : Nat} {xs : List Stamp} (h : GoT.rep w B [.slice A n c] xs) : ∀ x, x ∈ xs → x.ok := (list_open Stamp.enc _ Stamp.flat h).2.2.2.1
theorem stamps_own {w : World} {base : Nat} {v : Value} {xs : List Stamp} (h : w.ownsRow base 23 2 v xs.length (xs.flatMap Stamp.F.enc)) (hk : ∀ x, x ∈ xs → x.ok) : ∃ A c, v = .slice A xs.length c ∧ GoT.rep w w.heap.size [.slice A xs.length c] xs :=
  owns_rep (α := Stamp) Stamp.F.enc h Stamp.F.len fun x hx _ _ => Stamp.rep (hk x hx)
set_option maxRecDepth 100000 in
set_option maxHeartbeats 2000000 in
theorem smax_any (l : List Stamp) (A : Option Addr) (n c : Nat) (w : World) (hr : GoT.rep w w.heap.size [.slice A n c] l) :
    Calls Try.prog 7 #[.slice A n c] w fun e w' => e = .returned (.tuple #[(Stamp.maxP l).1.v, I (Stamp.maxP l).2]) ∧ Below w.heap.size w w' := by
  obtain ⟨ln, l1, l2, l4⟩ := stamps_open hr
  have Hr := Lib.hid hr
  clear hr
  by_cases h64 : 64 < n
  · have hv := Lib.hid (show Stamp.maxP l = (⟨0, 0⟩, 2) by unfold Stamp.maxP; rw [if_pos (by omega)])
    have hn : (64 : Int) < (n : Int) := by omega
    clear h64 ln l4
    have b0 := Below.refl w.heap.size w
    have HK := Known.nil w
    go_enter Try.func7, Try.ntmps7
    go_wp2_with (first | (go_at_call 12; (with_reducible refine (scheck_any ⟨_, _⟩ _).mono ?_); rintro e w1 ⟨rfl, b1⟩; have bw := Known.bw HK (by (repeat' (first | exact Below.refl _ _ | assumption | (refine ba ?_ _) | (refine bdr ?_) | (refine bset ?_ _ ?_ _) | (refine bt ?_ (by assumption)) | (simp; done) | (simp; omega)))) b1; have HK' := Known.step b1 (by (repeat' (first | (with_reducible exact HK) | (with_reducible apply Known.drew) | (with_reducible apply Known.alloc) | (with_reducible apply Known.allocO) | (with_reducible apply Known.setCell)))); (try replace hr := GoT.step hr bw); (try replace hs := GoT.step hs bw); (try replace ht := GoT.step ht bw); (try replace hu := GoT.step hu bw); replace b0 := bt b0 bw; clear bw b1; (try clear kn); (try clear c0 f0 hz); replace HK := HK'; clear HK'; ((try simp only [World.size_alloc, World.size_setCell, World.size_drew] at HK); have kn := HK; simp [Known, setL] at kn); obtain ⟨c0, f0⟩ := bcell b0; have hz := b0.size) | (go_at_call 17; (with_reducible refine (scompare_any ⟨_, _⟩ ⟨_, _⟩ _).mono ?_); rintro e w1 ⟨rfl, b1⟩; have bw := Known.bw HK (by (repeat' (first | exact Below.refl _ _ | assumption | (refine ba ?_ _) | (refine bdr ?_) | (refine bset ?_ _ ?_ _) | (refine bt ?_ (by assumption)) | (simp; done) | (simp; omega)))) b1; have HK' := Known.step b1 (by (repeat' (first | (with_reducible exact HK) | (with_reducible apply Known.drew) | (with_reducible apply Known.alloc) | (with_reducible apply Known.allocO) | (with_reducible apply Known.setCell)))); (try replace hr := GoT.step hr bw); (try replace hs := GoT.step hs bw); (try replace ht := GoT.step ht bw); (try replace hu := GoT.step hu bw); replace b0 := bt b0 bw; clear bw b1; (try clear kn); (try clear c0 f0 hz); replace HK := HK'; clear HK'; ((try simp only [World.size_alloc, World.size_setCell, World.size_drew] at HK); have kn := HK; simp [Known, setL] at kn); obtain ⟨c0, f0⟩ := bcell b0; have hz := b0.size))
    all_goals
      refine bodyPost_K rfl (fun K HK => ?_)
      simp [results, Try.results7, go_sem, *]
      refine HK.out _ ⟨Stamp.r2 ?_, by (repeat' (first | exact Below.refl _ _ | assumption | (refine ba ?_ _) | (refine bdr ?_) | (refine bset ?_ _ ?_ _) | (refine bt ?_ (by assumption)) | (simp; done) | (simp; omega)))⟩
      clear HK K
      (try simp only [wi_iff, wi_iffF, bne_iff_ne, beq_iff_eq, Bool.not_eq_true', bne_eq_false_iff_eq, beq_eq_false_iff_ne, ne_eq, Bool.not_eq_true, Bool.not_eq_false', Bool.not_true, Bool.not_false, decide_eq_true_eq, decide_eq_false_iff_not, Bool.and_eq_true, Bool.or_eq_true, Bool.and_eq_false_imp, Bool.or_eq_false_iff] at *)
      exact hv.out
  · have hn : (n : Int) ≤ 64 := by omega
    have Ln := Lib.hid ln
    have L4 := Lib.hid l4
    clear ln l4 h64
    have b0 := Below.refl w.heap.size w
    have HK := Known.nil w
    go_enter Try.func7, Try.ntmps7
    go_wp2_with (first | (go_at_call 12; (with_reducible refine (scheck_any ⟨_, _⟩ _).mono ?_); rintro e w1 ⟨rfl, b1⟩; have bw := Known.bw HK (by (repeat' (first | exact Below.refl _ _ | assumption | (refine ba ?_ _) | (refine bdr ?_) | (refine bset ?_ _ ?_ _) | (refine bt ?_ (by assumption)) | (simp; done) | (simp; omega)))) b1; have HK' := Known.step b1 (by (repeat' (first | (with_reducible exact HK) | (with_reducible apply Known.drew) | (with_reducible apply Known.alloc) | (with_reducible apply Known.allocO) | (with_reducible apply Known.setCell)))); (try replace hr := GoT.step hr bw); (try replace hs := GoT.step hs bw); (try replace ht := GoT.step ht bw); (try replace hu := GoT.step hu bw); replace b0 := bt b0 bw; clear bw b1; (try clear kn); (try clear c0 f0 hz); replace HK := HK'; clear HK'; ((try simp only [World.size_alloc, World.size_setCell, World.size_drew] at HK); have kn := HK; simp [Known, setL] at kn); obtain ⟨c0, f0⟩ := bcell b0; have hz := b0.size) | (go_at_call 17; (with_reducible refine (scompare_any ⟨_, _⟩ ⟨_, _⟩ _).mono ?_); rintro e w1 ⟨rfl, b1⟩; have bw := Known.bw HK (by (repeat' (first | exact Below.refl _ _ | assumption | (refine ba ?_ _) | (refine bdr ?_) | (refine bset ?_ _ ?_ _) | (refine bt ?_ (by assumption)) | (simp; done) | (simp; omega)))) b1; have HK' := Known.step b1 (by (repeat' (first | (with_reducible exact HK) | (with_reducible apply Known.drew) | (with_reducible apply Known.alloc) | (with_reducible apply Known.allocO) | (with_reducible apply Known.setCell)))); (try replace hr := GoT.step hr bw); (try replace hs := GoT.step hs bw); (try replace ht := GoT.step ht bw); (try replace hu := GoT.step hu bw); replace b0 := bt b0 bw; clear bw b1; (try clear kn); (try clear c0 f0 hz); replace HK := HK'; clear HK'; ((try simp only [World.size_alloc, World.size_setCell, World.size_drew] at HK); have kn := HK; simp [Known, setL] at kn); obtain ⟨c0, f0⟩ := bcell b0; have hz := b0.size))
    go_loopw [13] (fun i wr => ∃ k : Nat, k ≤ n ∧ i = I k ∧ Hid (Stamp.okL (l.take k)) ∧ Known wr [(w.heap.size, [I 0, I 0])] ∧ Below w.heap.size w wr) (fun i _ => (n - intOf i).toNat)
    case atStart => exact ⟨0, by omega, rfl, Lib.hid (by simp [Stamp.okL]), (by first | exact HK | exact HK.2.2 | exact HK.2.2.2.2 | exact HK.2.2.2.2.2.2 | exact Known.to (by (repeat' (first | (with_reducible exact HK) | (with_reducible apply Known.drew) | (with_reducible apply Known.alloc) | (with_reducible apply Known.allocO) | (with_reducible apply Known.setCell)))) (by first | rfl | (simp [setL]; done))), by (repeat' (first | exact Below.refl _ _ | assumption | (refine ba ?_ _) | (refine bdr ?_) | (refine bset ?_ _ ?_ _) | (refine bt ?_ (by assumption)) | (simp; done) | (simp; omega)))⟩
    case round =>
      obtain ⟨k, hk, rfl, hok, HK, b0⟩ := hrel
      by_cases hlt : k < n
      · have hkl : k < l.length := by have := Ln.out; omega
        have hstep := Lib.hid (Stamp.okL_take hkl)
        rcases L4.out with h | ⟨b, off, rfl, hb, hc⟩
        · subst h; simp at hkl
        obtain ⟨d0, d1⟩ := hc k hkl
        have Hbad := Lib.hid (show l[k].checkE ≠ 0 → Stamp.maxP l = (⟨0, 0⟩, 3) by
          intro h
          unfold Stamp.maxP
          rw [if_neg (by have := Ln.out; omega), if_neg (fun hh => h (hh _ (List.getElem_mem hkl)))])
        have h3 := Lib.hid (@Stamp.check_3 l[k])
        clear hc
        generalize l[k] = s at *
        have hn1 : (k : Int) < (n : Int) := by omega
        (((try simp only [World.size_alloc, World.size_setCell, World.size_drew] at HK); have kn := HK; simp [Known, setL] at kn); obtain ⟨c0, f0⟩ := bcell b0; have hz := b0.size)
        cases he : (s.checkE != 0)
        · go_wp2_with (first | (go_at_call 12; (with_reducible refine (scheck_any ⟨_, _⟩ _).mono ?_); rintro e w1 ⟨rfl, b1⟩; have bw := Known.bw HK (by (repeat' (first | exact Below.refl _ _ | assumption | (refine ba ?_ _) | (refine bdr ?_) | (refine bset ?_ _ ?_ _) | (refine bt ?_ (by assumption)) | (simp; done) | (simp; omega)))) b1; have HK' := Known.step b1 (by (repeat' (first | (with_reducible exact HK) | (with_reducible apply Known.drew) | (with_reducible apply Known.alloc) | (with_reducible apply Known.allocO) | (with_reducible apply Known.setCell)))); (try replace hr := GoT.step hr bw); (try replace hs := GoT.step hs bw); (try replace ht := GoT.step ht bw); (try replace hu := GoT.step hu bw); replace b0 := bt b0 bw; clear bw b1; (try clear kn); (try clear c0 f0 hz); replace HK := HK'; clear HK'; ((try simp only [World.size_alloc, World.size_setCell, World.size_drew] at HK); have kn := HK; simp [Known, setL] at kn); obtain ⟨c0, f0⟩ := bcell b0; have hz := b0.size) | (go_at_call 17; (with_reducible refine (scompare_any ⟨_, _⟩ ⟨_, _⟩ _).mono ?_); rintro e w1 ⟨rfl, b1⟩; have bw := Known.bw HK (by (repeat' (first | exact Below.refl _ _ | assumption | (refine ba ?_ _) | (refine bdr ?_) | (refine bset ?_ _ ?_ _) | (refine bt ?_ (by assumption)) | (simp; done) | (simp; omega)))) b1; have HK' := Known.step b1 (by (repeat' (first | (with_reducible exact HK) | (with_reducible apply Known.drew) | (with_reducible apply Known.alloc) | (with_reducible apply Known.allocO) | (with_reducible apply Known.setCell)))); (try replace hr := GoT.step hr bw); (try replace hs := GoT.step hs bw); (try replace ht := GoT.step ht bw); (try replace hu := GoT.step hu bw); replace b0 := bt b0 bw; clear bw b1; (try clear kn); (try clear c0 f0 hz); replace HK := HK'; clear HK'; ((try simp only [World.size_alloc, World.size_setCell, World.size_drew] at HK); have kn := HK; simp [Known, setL] at kn); obtain ⟨c0, f0⟩ := bcell b0; have hz := b0.size))
          go_roundw
          case rel => exact ⟨k + 1, by omega, by go_num, Lib.hid (hstep.out.2 ⟨hok.out, by simpa using he⟩), (by first | exact HK | exact HK.2.2 | exact HK.2.2.2.2 | exact HK.2.2.2.2.2.2 | exact Known.to (by (repeat' (first | (with_reducible exact HK) | (with_reducible apply Known.drew) | (with_reducible apply Known.alloc) | (with_reducible apply Known.allocO) | (with_reducible apply Known.setCell)))) (by first | rfl | (simp [setL]; done))), by (repeat' (first | exact Below.refl _ _ | assumption | (refine ba ?_ _) | (refine bdr ?_) | (refine bset ?_ _ ?_ _) | (refine bt ?_ (by assumption)) | (simp; done) | (simp; omega)))⟩
          case measure => simp [intOf]; omega
        · have hne : ¬ s.checkE = 0 := by simpa using he
          have h3' := h3.out hne
          have Hb := Lib.hid (Hbad.out hne)
          clear hne h3 Hbad he
          go_wp2_with (first | (go_at_call 12; (with_reducible refine (scheck_any ⟨_, _⟩ _).mono ?_); rintro e w1 ⟨rfl, b1⟩; have bw := Known.bw HK (by (repeat' (first | exact Below.refl _ _ | assumption | (refine ba ?_ _) | (refine bdr ?_) | (refine bset ?_ _ ?_ _) | (refine bt ?_ (by assumption)) | (simp; done) | (simp; omega)))) b1; have HK' := Known.step b1 (by (repeat' (first | (with_reducible exact HK) | (with_reducible apply Known.drew) | (with_reducible apply Known.alloc) | (with_reducible apply Known.allocO) | (with_reducible apply Known.setCell)))); (try replace hr := GoT.step hr bw); (try replace hs := GoT.step hs bw); (try replace ht := GoT.step ht bw); (try replace hu := GoT.step hu bw); replace b0 := bt b0 bw; clear bw b1; (try clear kn); (try clear c0 f0 hz); replace HK := HK'; clear HK'; ((try simp only [World.size_alloc, World.size_setCell, World.size_drew] at HK); have kn := HK; simp [Known, setL] at kn); obtain ⟨c0, f0⟩ := bcell b0; have hz := b0.size) | (go_at_call 17; (with_reducible refine (scompare_any ⟨_, _⟩ ⟨_, _⟩ _).mono ?_); rintro e w1 ⟨rfl, b1⟩; have bw := Known.bw HK (by (repeat' (first | exact Below.refl _ _ | assumption | (refine ba ?_ _) | (refine bdr ?_) | (refine bset ?_ _ ?_ _) | (refine bt ?_ (by assumption)) | (simp; done) | (simp; omega)))) b1; have HK' := Known.step b1 (by (repeat' (first | (with_reducible exact HK) | (with_reducible apply Known.drew) | (with_reducible apply Known.alloc) | (with_reducible apply Known.allocO) | (with_reducible apply Known.setCell)))); (try replace hr := GoT.step hr bw); (try replace hs := GoT.step hs bw); (try replace ht := GoT.step ht bw); (try replace hu := GoT.step hu bw); replace b0 := bt b0 bw; clear bw b1; (try clear kn); (try clear c0 f0 hz); replace HK := HK'; clear HK'; ((try simp only [World.size_alloc, World.size_setCell, World.size_drew] at HK); have kn := HK; simp [Known, setL] at kn); obtain ⟨c0, f0⟩ := bcell b0; have hz := b0.size))
          all_goals
            refine bodyPost_K rfl (fun K HK => ?_)
            simp [results, Try.results7, go_sem, *]
            refine HK.out _ ⟨Stamp.r2 ?_, by (repeat' (first | exact Below.refl _ _ | assumption | (refine ba ?_ _) | (refine bdr ?_) | (refine bset ?_ _ ?_ _) | (refine bt ?_ (by assumption)) | (simp; done) | (simp; omega)))⟩
            clear HK K
            (try simp only [wi_iff, wi_iffF, bne_iff_ne, beq_iff_eq, Bool.not_eq_true', bne_eq_false_iff_eq, beq_eq_false_iff_ne, ne_eq, Bool.not_eq_true, Bool.not_eq_false', Bool.not_true, Bool.not_false, decide_eq_true_eq, decide_eq_false_iff_not, Bool.and_eq_true, Bool.or_eq_true, Bool.and_eq_false_imp, Bool.or_eq_false_iff] at *)
            exact Hb.out
      · obtain rfl : k = n := by omega
        have hv := Lib.hid (show Stamp.maxP l = (Stamp.maxS l, 0) by
          unfold Stamp.maxP
          rw [if_neg (by have := Ln.out; omega), if_pos (by have := hok.out; rwa [Ln.out, List.take_length] at this)])
        have hll : l.length ≤ 64 := by have := Ln.out; omega
        (((try simp only [World.size_alloc, World.size_setCell, World.size_drew] at HK); have kn := HK; simp [Known, setL] at kn); obtain ⟨c0, f0⟩ := bcell b0; have hz := b0.size)
        have hsrc : SrcAt Stamp.F (wr.alloc (.cells #[I 0, I 0] 23)) A k l := stamps_src Hr.out (fun b o hb => by have hb2 : b < wr.heap.size := Nat.lt_of_lt_of_le hb hz; simp [go_sem, *])
        have hown := World.ownsRow_lit (e := 23) (size := 2) wr #[I 0, I 0] 1 (Nat.le_refl _) (by decide) rfl
        have hok0 : ∀ x, x ∈ ([⟨0, 0⟩] ++ l : List Stamp) → x.ok := by
          intro x hx
          rcases List.mem_append.1 hx with h | h
          · rw [List.mem_singleton.1 h]; unfold Stamp.ok; decide
          · exact stamps_ok Hr.out x h
        go_wp2_with (first | (at_builtin; refine wpList_append_list Stamp.F rfl _ _ 24 rfl (wr.heap.size) 23 Try.underlying24 16 Stamp.info _ ([⟨0, 0⟩]) (l) rfl hown _ _ _ rfl hsrc (by (try simp only [List.length_cons, List.length_nil, List.length_append, List.length_map, List.length_take, List.length_drop]); omega) (by decide) (by (try simp only [World.size_alloc, World.size_setCell, World.size_drew]); omega) ?_; intro v' w1 ho hg; obtain ⟨A1, c1, rfl, hl1⟩ := owns_rep Stamp.F.enc ho Stamp.F.len (fun x hx _ _ => Stamp.rep (hok0 x hx)); have bw := Known.bwg HK (by (repeat' (first | exact Below.refl _ _ | assumption | (refine ba ?_ _) | (refine bdr ?_) | (refine bset ?_ _ ?_ _) | (refine bt ?_ (by assumption)) | (simp; done) | (simp; omega)))) hg (own_base hown); have HK' := Known.step bw HK; (try replace hr := GoT.step hr bw); (try replace hs := GoT.step hs bw); (try replace ht := GoT.step ht bw); (try replace hu := GoT.step hu bw); replace b0 := bt b0 bw; clear bw; (try clear kn); (try clear c0 f0 hz); replace HK := HK'; clear HK'; ((try simp only [World.size_alloc, World.size_setCell, World.size_drew] at HK); have kn := HK; simp [Known, setL] at kn); obtain ⟨c0, f0⟩ := bcell b0; have hz := b0.size) | (go_at_call 16; (refine ( maxFunc_any ⟨0, 0⟩ l _ _ _ _ hl1).mono ?_); rintro e w1 ⟨rfl, b1⟩; have bw := Known.bw HK (by (repeat' (first | exact Below.refl _ _ | assumption | (refine ba ?_ _) | (refine bdr ?_) | (refine bset ?_ _ ?_ _) | (refine bt ?_ (by assumption)) | (simp; done) | (simp; omega)))) b1; have HK' := Known.step b1 (by (repeat' (first | (with_reducible exact HK) | (with_reducible apply Known.drew) | (with_reducible apply Known.alloc) | (with_reducible apply Known.allocO) | (with_reducible apply Known.setCell)))); (try replace hr := GoT.step hr bw); (try replace hs := GoT.step hs bw); (try replace ht := GoT.step ht bw); (try replace hu := GoT.step hu bw); replace b0 := bt b0 bw; clear bw b1; (try clear kn); (try clear c0 f0 hz); replace HK := HK'; clear HK'; ((try simp only [World.size_alloc, World.size_setCell, World.size_drew] at HK); have kn := HK; simp [Known, setL] at kn); obtain ⟨c0, f0⟩ := bcell b0; have hz := b0.size) | (go_at_call 12; (with_reducible refine (scheck_any ⟨_, _⟩ _).mono ?_); rintro e w1 ⟨rfl, b1⟩; have bw := Known.bw HK (by (repeat' (first | exact Below.refl _ _ | assumption | (refine ba ?_ _) | (refine bdr ?_) | (refine bset ?_ _ ?_ _) | (refine bt ?_ (by assumption)) | (simp; done) | (simp; omega)))) b1; have HK' := Known.step b1 (by (repeat' (first | (with_reducible exact HK) | (with_reducible apply Known.drew) | (with_reducible apply Known.alloc) | (with_reducible apply Known.allocO) | (with_reducible apply Known.setCell)))); (try replace hr := GoT.step hr bw); (try replace hs := GoT.step hs bw); (try replace ht := GoT.step ht bw); (try replace hu := GoT.step hu bw); replace b0 := bt b0 bw; clear bw b1; (try clear kn); (try clear c0 f0 hz); replace HK := HK'; clear HK'; ((try simp only [World.size_alloc, World.size_setCell, World.size_drew] at HK); have kn := HK; simp [Known, setL] at kn); obtain ⟨c0, f0⟩ := bcell b0; have hz := b0.size) | (go_at_call 17; (with_reducible refine (scompare_any ⟨_, _⟩ ⟨_, _⟩ _).mono ?_); rintro e w1 ⟨rfl, b1⟩; have bw := Known.bw HK (by (repeat' (first | exact Below.refl _ _ | assumption | (refine ba ?_ _) | (refine bdr ?_) | (refine bset ?_ _ ?_ _) | (refine bt ?_ (by assumption)) | (simp; done) | (simp; omega)))) b1; have HK' := Known.step b1 (by (repeat' (first | (with_reducible exact HK) | (with_reducible apply Known.drew) | (with_reducible apply Known.alloc) | (with_reducible apply Known.allocO) | (with_reducible apply Known.setCell)))); (try replace hr := GoT.step hr bw); (try replace hs := GoT.step hs bw); (try replace ht := GoT.step ht bw); (try replace hu := GoT.step hu bw); replace b0 := bt b0 bw; clear bw b1; (try clear kn); (try clear c0 f0 hz); replace HK := HK'; clear HK'; ((try simp only [World.size_alloc, World.size_setCell, World.size_drew] at HK); have kn := HK; simp [Known, setL] at kn); obtain ⟨c0, f0⟩ := bcell b0; have hz := b0.size))
        all_goals
          refine bodyPost_K rfl (fun K HK => ?_)
          simp [results, Try.results7, go_sem, *]
          refine HK.out _ ⟨Stamp.r2 ?_, by (repeat' (first | exact Below.refl _ _ | assumption | (refine ba ?_ _) | (refine bdr ?_) | (refine bset ?_ _ ?_ _) | (refine bt ?_ (by assumption)) | (simp; done) | (simp; omega)))⟩
          clear HK K
          (try simp only [wi_iff, wi_iffF, bne_iff_ne, beq_iff_eq, Bool.not_eq_true', bne_eq_false_iff_eq, beq_eq_false_iff_ne, ne_eq, Bool.not_eq_true, Bool.not_eq_false', Bool.not_true, Bool.not_false, decide_eq_true_eq, decide_eq_false_iff_not, Bool.and_eq_true, Bool.or_eq_true, Bool.and_eq_false_imp, Bool.or_eq_false_iff] at *)
          exact hv.out
end Go.Proofs.Ytplgjcgebacjnaa
