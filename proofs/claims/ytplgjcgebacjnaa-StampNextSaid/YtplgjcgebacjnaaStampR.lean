/- Contracts of Next and of the reference's stamps. No condition. -/
import Derived.Test.YtplgjcgebacjnaaStamp
import Derived.Outline
namespace Go.Proofs.Ytplgjcgebacjnaa
set_option linter.unusedSimpArgs false
set_option linter.unusedVariables false
open Go.ChangeShapes Go.WideShapes Go.ChangeAt Go.RowKit
open Go.ChangeMaps (open_string shut_string)
set_option maxRecDepth 100000 in
set_option maxHeartbeats 2000000 in
theorem snext_any (l : List Stamp) (who : Int) (A : Option Addr) (n c : Nat) (w : World) (hr : GoT.rep w w.heap.size [.slice A n c] l) :
    Calls Try.prog 8 #[.slice A n c, I who] w fun e w' => e = .returned (.tuple #[(Stamp.nextP l who).1.v, I (Stamp.nextP l who).2]) ∧ Below w.heap.size w w' := by
  have hn : Hid (Stamp.nextP l who = if (Stamp.maxP l).2 = 0 then (if (0 ≤ who ∧ who ≤ 31) ∧ (Stamp.maxP l).1.time ≠ 1000000 then (⟨(Stamp.maxP l).1.time + 1, who⟩, 0) else (⟨0, 0⟩, 3)) else (⟨0, 0⟩, (Stamp.maxP l).2)) := Lib.hid rfl
  have hb : (Stamp.maxP l).2 = 0 → 0 ≤ (Stamp.maxP l).1.time ∧ (Stamp.maxP l).1.time ≤ 1000000 := by
    intro h
    unfold Stamp.maxP at *
    split at h
    · simp at h
    · split at h
      · rename_i h1 h2
        rw [if_neg h1, if_pos h2]
        exact (Stamp.check_0.1 (Stamp.max_ok h2)).1
      · simp at h
  obtain ⟨⟨m, e⟩, hm⟩ : ∃ x, Stamp.maxP l = x := ⟨_, rfl⟩
  have H := Lib.hid (fun w2 (h : GoT.rep w2 w2.heap.size [.slice A n c] l) => smax_any l A n c w2 h)
  have Hr := Lib.hid hr
  rw [hm] at hn hb H
  clear hr hm
  by_cases he : e = 0
  · obtain ⟨b1, b2⟩ := hb he
    subst he
    clear hb
    have b0 := Below.refl w.heap.size w
    have HK := Known.nil w
    go_enter Try.func8, Try.ntmps8
    go_wp2_with (first | (go_at_call 7; (refine ( H.out _ (GoT.step Hr.out (by (repeat' (first | exact Below.refl _ _ | assumption | (refine ba ?_ _) | (refine bdr ?_) | (refine bset ?_ _ ?_ _) | (refine bt ?_ (by assumption)) | (simp; done) | (simp; omega)))))).mono ?_); rintro e w1 ⟨rfl, b1⟩; have bw := Known.bw HK (by (repeat' (first | exact Below.refl _ _ | assumption | (refine ba ?_ _) | (refine bdr ?_) | (refine bset ?_ _ ?_ _) | (refine bt ?_ (by assumption)) | (simp; done) | (simp; omega)))) b1; have HK' := Known.step b1 (by (repeat' (first | (with_reducible exact HK) | (with_reducible apply Known.drew) | (with_reducible apply Known.alloc) | (with_reducible apply Known.allocO) | (with_reducible apply Known.setCell)))); (try replace hr := GoT.step hr bw); (try replace hs := GoT.step hs bw); (try replace ht := GoT.step ht bw); (try replace hu := GoT.step hu bw); replace b0 := bt b0 bw; clear bw b1; (try clear kn); (try clear c0 f0 hz); replace HK := HK'; clear HK'; ((try simp only [World.size_alloc, World.size_setCell, World.size_drew] at HK); have kn := HK; simp [Known, setL, NeAll] at kn); obtain ⟨c0, f0⟩ := bcell b0; have hz := b0.size) | (go_at_call 18; (with_reducible refine (who_any _ _).mono ?_); rintro e w1 ⟨rfl, rfl⟩))
    all_goals
      refine bodyPost_K rfl (fun K HK => ?_)
      simp [results, Try.results8, go_sem, *]
      refine HK.out _ ⟨Stamp.r2 ?_, by (repeat' (first | exact Below.refl _ _ | assumption | (refine ba ?_ _) | (refine bdr ?_) | (refine bset ?_ _ ?_ _) | (refine bt ?_ (by assumption)) | (simp; done) | (simp; omega)))⟩
      clear HK K
      (try simp only [wi_iff, wi_iffF, bne_iff_ne, beq_iff_eq, Bool.not_eq_true', bne_eq_false_iff_eq, beq_eq_false_iff_ne, ne_eq, Bool.not_eq_true, Bool.not_eq_false', Bool.not_true, Bool.not_false, decide_eq_true_eq, decide_eq_false_iff_not, Bool.and_eq_true, Bool.or_eq_true, Bool.and_eq_false_imp, Bool.or_eq_false_iff] at *)
      (rw [hn.out]; ((try simp only [decide_eq_true_eq]); (repeat' (first | rfl | (rw [if_pos (by first | assumption | omega | (simp [*]; done) | fail)]) | (rw [if_neg (by first | assumption | omega | (simp [*]; done) | fail)]) | split | fail)); all_goals (first | done | rfl | (exfalso; omega) | (simp; done) | (simp; omega) | (simp_all; done) | (simp_all; omega) | (rw [Bool.eq_iff_iff]; simp; done) | (rw [Bool.eq_iff_iff]; simp; omega) | (ext <;> (first | rfl | (simp; done) | (simp; omega) | omega | (simp_all; done) | fail)) | simp_all)))
  · have he' : (e == 0) = false := by simpa using he
    have he2 : (e != 0) = true := by simpa using he
    clear hb
    have b0 := Below.refl w.heap.size w
    have HK := Known.nil w
    go_enter Try.func8, Try.ntmps8
    go_wp2_with (first | (go_at_call 7; (refine ( H.out _ (GoT.step Hr.out (by (repeat' (first | exact Below.refl _ _ | assumption | (refine ba ?_ _) | (refine bdr ?_) | (refine bset ?_ _ ?_ _) | (refine bt ?_ (by assumption)) | (simp; done) | (simp; omega)))))).mono ?_); rintro e w1 ⟨rfl, b1⟩; have bw := Known.bw HK (by (repeat' (first | exact Below.refl _ _ | assumption | (refine ba ?_ _) | (refine bdr ?_) | (refine bset ?_ _ ?_ _) | (refine bt ?_ (by assumption)) | (simp; done) | (simp; omega)))) b1; have HK' := Known.step b1 (by (repeat' (first | (with_reducible exact HK) | (with_reducible apply Known.drew) | (with_reducible apply Known.alloc) | (with_reducible apply Known.allocO) | (with_reducible apply Known.setCell)))); (try replace hr := GoT.step hr bw); (try replace hs := GoT.step hs bw); (try replace ht := GoT.step ht bw); (try replace hu := GoT.step hu bw); replace b0 := bt b0 bw; clear bw b1; (try clear kn); (try clear c0 f0 hz); replace HK := HK'; clear HK'; ((try simp only [World.size_alloc, World.size_setCell, World.size_drew] at HK); have kn := HK; simp [Known, setL, NeAll] at kn); obtain ⟨c0, f0⟩ := bcell b0; have hz := b0.size) | (go_at_call 18; (with_reducible refine (who_any _ _).mono ?_); rintro e w1 ⟨rfl, rfl⟩))
    all_goals
      refine bodyPost_K rfl (fun K HK => ?_)
      simp [results, Try.results8, go_sem, *]
      refine HK.out _ ⟨Stamp.r2 ?_, by (repeat' (first | exact Below.refl _ _ | assumption | (refine ba ?_ _) | (refine bdr ?_) | (refine bset ?_ _ ?_ _) | (refine bt ?_ (by assumption)) | (simp; done) | (simp; omega)))⟩
      clear HK K
      (try simp only [wi_iff, wi_iffF, bne_iff_ne, beq_iff_eq, Bool.not_eq_true', bne_eq_false_iff_eq, beq_eq_false_iff_ne, ne_eq, Bool.not_eq_true, Bool.not_eq_false', Bool.not_true, Bool.not_false, decide_eq_true_eq, decide_eq_false_iff_not, Bool.and_eq_true, Bool.or_eq_true, Bool.and_eq_false_imp, Bool.or_eq_false_iff] at *)
      (rw [hn.out]; ((try simp only [decide_eq_true_eq]); (repeat' (first | rfl | (rw [if_pos (by first | assumption | omega | (simp [*]; done) | fail)]) | (rw [if_neg (by first | assumption | omega | (simp [*]; done) | fail)]) | split | fail)); all_goals (first | done | rfl | (exfalso; omega) | (simp; done) | (simp; omega) | (simp_all; done) | (simp_all; omega) | (rw [Bool.eq_iff_iff]; simp; done) | (rw [Bool.eq_iff_iff]; simp; omega) | (ext <;> (first | rfl | (simp; done) | (simp; omega) | omega | (simp_all; done) | fail)) | simp_all)))
set_option maxRecDepth 100000 in
set_option maxHeartbeats 4000000 in
theorem rsmax_any (l : List Stamp) (A : Option Addr) (n c : Nat) (w : World) (hr : GoT.rep w w.heap.size [.slice A n c] l) :
    Calls Try.prog 9 #[.slice A n c] w fun e w' => e = .returned (.tuple #[(Stamp.maxP l).1.v, I (Stamp.maxP l).2]) ∧ Below w.heap.size w w' := by
  obtain ⟨ln, l1, l2, l4⟩ := stamps_open hr
  by_cases h64 : 64 < n
  · have hv := Lib.hid (show Stamp.maxP l = (⟨0, 0⟩, 2) by unfold Stamp.maxP; rw [if_pos (by omega)])
    have hn : (64 : Int) < (n : Int) := by omega
    clear h64 ln l4 hr
    have b0 := Below.refl w.heap.size w
    have HK := Known.nil w
    go_enter Try.func9, Try.ntmps9
    go_wp2_with (first | (go_at_call 15; (with_reducible refine (rsless_any ⟨_, _⟩ ⟨_, _⟩ _).mono ?_); rintro e w1 ⟨rfl, b1⟩; have bw := Known.bw HK (by (repeat' (first | exact Below.refl _ _ | assumption | (refine ba ?_ _) | (refine bdr ?_) | (refine bset ?_ _ ?_ _) | (refine bt ?_ (by assumption)) | (simp; done) | (simp; omega)))) b1; have HK' := Known.step b1 (by (repeat' (first | (with_reducible exact HK) | (with_reducible apply Known.drew) | (with_reducible apply Known.alloc) | (with_reducible apply Known.allocO) | (with_reducible apply Known.setCell)))); (try replace hr := GoT.step hr bw); (try replace hs := GoT.step hs bw); (try replace ht := GoT.step ht bw); (try replace hu := GoT.step hu bw); replace b0 := bt b0 bw; clear bw b1; (try clear kn); (try clear c0 f0 hz); replace HK := HK'; clear HK'; ((try simp only [World.size_alloc, World.size_setCell, World.size_drew] at HK); have kn := HK; simp [Known, setL, NeAll] at kn); obtain ⟨c0, f0⟩ := bcell b0; have hz := b0.size) | (go_at_call 13; (with_reducible refine (rscheck_any ⟨_, _⟩ _).mono ?_); rintro e w1 ⟨rfl, b1⟩; have bw := Known.bw HK (by (repeat' (first | exact Below.refl _ _ | assumption | (refine ba ?_ _) | (refine bdr ?_) | (refine bset ?_ _ ?_ _) | (refine bt ?_ (by assumption)) | (simp; done) | (simp; omega)))) b1; have HK' := Known.step b1 (by (repeat' (first | (with_reducible exact HK) | (with_reducible apply Known.drew) | (with_reducible apply Known.alloc) | (with_reducible apply Known.allocO) | (with_reducible apply Known.setCell)))); (try replace hr := GoT.step hr bw); (try replace hs := GoT.step hs bw); (try replace ht := GoT.step ht bw); (try replace hu := GoT.step hu bw); replace b0 := bt b0 bw; clear bw b1; (try clear kn); (try clear c0 f0 hz); replace HK := HK'; clear HK'; ((try simp only [World.size_alloc, World.size_setCell, World.size_drew] at HK); have kn := HK; simp [Known, setL, NeAll] at kn); obtain ⟨c0, f0⟩ := bcell b0; have hz := b0.size))
    all_goals
      refine bodyPost_K rfl (fun K HK => ?_)
      simp [results, Try.results9, go_sem, *]
      refine HK.out _ ⟨Stamp.r2 ?_, by (repeat' (first | exact Below.refl _ _ | assumption | (refine ba ?_ _) | (refine bdr ?_) | (refine bset ?_ _ ?_ _) | (refine bt ?_ (by assumption)) | (simp; done) | (simp; omega)))⟩
      clear HK K
      (try simp only [wi_iff, wi_iffF, bne_iff_ne, beq_iff_eq, Bool.not_eq_true', bne_eq_false_iff_eq, beq_eq_false_iff_ne, ne_eq, Bool.not_eq_true, Bool.not_eq_false', Bool.not_true, Bool.not_false, decide_eq_true_eq, decide_eq_false_iff_not, Bool.and_eq_true, Bool.or_eq_true, Bool.and_eq_false_imp, Bool.or_eq_false_iff] at *)
      exact hv.out
  · have hn : (n : Int) ≤ 64 := by omega
    have Ln := Lib.hid ln
    have L4 := Lib.hid l4
    clear ln l4 h64 hr
    have b0 := Below.refl w.heap.size w
    have HK := Known.nil w
    go_enter Try.func9, Try.ntmps9
    go_wp2_with (first | (go_at_call 15; (with_reducible refine (rsless_any ⟨_, _⟩ ⟨_, _⟩ _).mono ?_); rintro e w1 ⟨rfl, b1⟩; have bw := Known.bw HK (by (repeat' (first | exact Below.refl _ _ | assumption | (refine ba ?_ _) | (refine bdr ?_) | (refine bset ?_ _ ?_ _) | (refine bt ?_ (by assumption)) | (simp; done) | (simp; omega)))) b1; have HK' := Known.step b1 (by (repeat' (first | (with_reducible exact HK) | (with_reducible apply Known.drew) | (with_reducible apply Known.alloc) | (with_reducible apply Known.allocO) | (with_reducible apply Known.setCell)))); (try replace hr := GoT.step hr bw); (try replace hs := GoT.step hs bw); (try replace ht := GoT.step ht bw); (try replace hu := GoT.step hu bw); replace b0 := bt b0 bw; clear bw b1; (try clear kn); (try clear c0 f0 hz); replace HK := HK'; clear HK'; ((try simp only [World.size_alloc, World.size_setCell, World.size_drew] at HK); have kn := HK; simp [Known, setL, NeAll] at kn); obtain ⟨c0, f0⟩ := bcell b0; have hz := b0.size) | (go_at_call 13; (with_reducible refine (rscheck_any ⟨_, _⟩ _).mono ?_); rintro e w1 ⟨rfl, b1⟩; have bw := Known.bw HK (by (repeat' (first | exact Below.refl _ _ | assumption | (refine ba ?_ _) | (refine bdr ?_) | (refine bset ?_ _ ?_ _) | (refine bt ?_ (by assumption)) | (simp; done) | (simp; omega)))) b1; have HK' := Known.step b1 (by (repeat' (first | (with_reducible exact HK) | (with_reducible apply Known.drew) | (with_reducible apply Known.alloc) | (with_reducible apply Known.allocO) | (with_reducible apply Known.setCell)))); (try replace hr := GoT.step hr bw); (try replace hs := GoT.step hs bw); (try replace ht := GoT.step ht bw); (try replace hu := GoT.step hu bw); replace b0 := bt b0 bw; clear bw b1; (try clear kn); (try clear c0 f0 hz); replace HK := HK'; clear HK'; ((try simp only [World.size_alloc, World.size_setCell, World.size_drew] at HK); have kn := HK; simp [Known, setL, NeAll] at kn); obtain ⟨c0, f0⟩ := bcell b0; have hz := b0.size))
    go_loopw [5] (fun i wr => ∃ k : Nat, k ≤ n ∧ i = I ((k : Int) - 1) ∧ Known wr [(w.heap.size + 1, [I (Stamp.maxS (l.drop k)).time, I (Stamp.maxS (l.drop k)).who]), (w.heap.size, [I 0, I 0])] ∧ Below w.heap.size w wr) (fun i _ => (intOf i + 1).toNat)
    case atStart => exact ⟨n, Nat.le_refl _, rfl, by rw [Ln.out, List.drop_length, show Stamp.maxS [] = ⟨0, 0⟩ from rfl]; exact (by first | exact HK | exact HK.2.2 | exact HK.2.2.2.2 | exact HK.2.2.2.2.2.2 | exact Known.to (by (repeat' (first | (with_reducible exact HK) | (with_reducible apply Known.drew) | (with_reducible apply Known.alloc) | (with_reducible apply Known.allocO) | (with_reducible apply Known.setCell)))) (by first | rfl | (simp [setL]; done))), by (repeat' (first | exact Below.refl _ _ | assumption | (refine ba ?_ _) | (refine bdr ?_) | (refine bset ?_ _ ?_ _) | (refine bt ?_ (by assumption)) | (simp; done) | (simp; omega)))⟩
    case round =>
      obtain ⟨k, hk, hi, HK, b0⟩ := hrel
      cases k with
      | zero =>
        obtain rfl : _ = I (-1) := hi
        rw [List.drop_zero] at HK
        obtain ⟨m, hm⟩ : ∃ m, Stamp.maxS l = m := ⟨_, rfl⟩
        rw [hm] at HK
        have Hm := Lib.hid hm
        clear hm
        (((try simp only [World.size_alloc, World.size_setCell, World.size_drew] at HK); have kn := HK; simp [Known, setL, NeAll] at kn); obtain ⟨c0, f0⟩ := bcell b0; have hz := b0.size)
        go_wp2
        go_loopw [6] (fun i wr => ∃ k : Nat, k ≤ n ∧ i = I k ∧ Hid (Stamp.okL (l.take k)) ∧ Known wr [(w.heap.size + 1, [I m.time, I m.who]), (w.heap.size, [I 0, I 0])] ∧ Below w.heap.size w wr) (fun i _ => (n - intOf i).toNat)
        case atStart => exact ⟨0, by omega, rfl, Lib.hid (by simp [Stamp.okL]), (by first | exact HK | exact HK.2.2 | exact HK.2.2.2.2 | exact HK.2.2.2.2.2.2 | exact Known.to (by (repeat' (first | (with_reducible exact HK) | (with_reducible apply Known.drew) | (with_reducible apply Known.alloc) | (with_reducible apply Known.allocO) | (with_reducible apply Known.setCell)))) (by first | rfl | (simp [setL]; done))), b0⟩
        case round =>
          obtain ⟨k, hk, rfl, hok, HK, b0⟩ := hrel
          by_cases hlt : k < n
          · have hkl : k < l.length := by have := Ln.out; omega
            have hstep := Lib.hid (Stamp.okL_take hkl)
            rcases L4.out with h | ⟨b, off, rfl, hb, hc⟩
            · subst h; simp at hkl
            obtain ⟨d0, d1⟩ := hc k hkl
            have Hbad := Lib.hid (show l[k].checkE ≠ 0 → Stamp.maxP l = (⟨0, 0⟩, 3) by
              intro h
              unfold Stamp.maxP
              rw [if_neg (by have := Ln.out; omega), if_neg (fun hh => h (hh _ (List.getElem_mem hkl)))])
            clear hc
            generalize l[k] = s at *
            have hn1 : (k : Int) < (n : Int) := by omega
            (((try simp only [World.size_alloc, World.size_setCell, World.size_drew] at HK); have kn := HK; simp [Known, setL, NeAll] at kn); obtain ⟨c0, f0⟩ := bcell b0; have hz := b0.size)
            cases he : (s.checkE != 0)
            · go_wp2_with (first | (go_at_call 15; (with_reducible refine (rsless_any ⟨_, _⟩ ⟨_, _⟩ _).mono ?_); rintro e w1 ⟨rfl, b1⟩; have bw := Known.bw HK (by (repeat' (first | exact Below.refl _ _ | assumption | (refine ba ?_ _) | (refine bdr ?_) | (refine bset ?_ _ ?_ _) | (refine bt ?_ (by assumption)) | (simp; done) | (simp; omega)))) b1; have HK' := Known.step b1 (by (repeat' (first | (with_reducible exact HK) | (with_reducible apply Known.drew) | (with_reducible apply Known.alloc) | (with_reducible apply Known.allocO) | (with_reducible apply Known.setCell)))); (try replace hr := GoT.step hr bw); (try replace hs := GoT.step hs bw); (try replace ht := GoT.step ht bw); (try replace hu := GoT.step hu bw); replace b0 := bt b0 bw; clear bw b1; (try clear kn); (try clear c0 f0 hz); replace HK := HK'; clear HK'; ((try simp only [World.size_alloc, World.size_setCell, World.size_drew] at HK); have kn := HK; simp [Known, setL, NeAll] at kn); obtain ⟨c0, f0⟩ := bcell b0; have hz := b0.size) | (go_at_call 13; (with_reducible refine (rscheck_any ⟨_, _⟩ _).mono ?_); rintro e w1 ⟨rfl, b1⟩; have bw := Known.bw HK (by (repeat' (first | exact Below.refl _ _ | assumption | (refine ba ?_ _) | (refine bdr ?_) | (refine bset ?_ _ ?_ _) | (refine bt ?_ (by assumption)) | (simp; done) | (simp; omega)))) b1; have HK' := Known.step b1 (by (repeat' (first | (with_reducible exact HK) | (with_reducible apply Known.drew) | (with_reducible apply Known.alloc) | (with_reducible apply Known.allocO) | (with_reducible apply Known.setCell)))); (try replace hr := GoT.step hr bw); (try replace hs := GoT.step hs bw); (try replace ht := GoT.step ht bw); (try replace hu := GoT.step hu bw); replace b0 := bt b0 bw; clear bw b1; (try clear kn); (try clear c0 f0 hz); replace HK := HK'; clear HK'; ((try simp only [World.size_alloc, World.size_setCell, World.size_drew] at HK); have kn := HK; simp [Known, setL, NeAll] at kn); obtain ⟨c0, f0⟩ := bcell b0; have hz := b0.size))
              go_roundw
              case rel => exact ⟨k + 1, by omega, by go_num, Lib.hid (hstep.out.2 ⟨hok.out, by simpa using he⟩), (by first | exact HK | exact HK.2.2 | exact HK.2.2.2.2 | exact HK.2.2.2.2.2.2 | exact Known.to (by (repeat' (first | (with_reducible exact HK) | (with_reducible apply Known.drew) | (with_reducible apply Known.alloc) | (with_reducible apply Known.allocO) | (with_reducible apply Known.setCell)))) (by first | rfl | (simp [setL]; done))), by (repeat' (first | exact Below.refl _ _ | assumption | (refine ba ?_ _) | (refine bdr ?_) | (refine bset ?_ _ ?_ _) | (refine bt ?_ (by assumption)) | (simp; done) | (simp; omega)))⟩
              case measure => simp [intOf]; omega
            · have hne : ¬ s.checkE = 0 := by simpa using he
              have Hb := Lib.hid (Hbad.out hne)
              clear hne Hbad
              go_wp2_with (first | (go_at_call 15; (with_reducible refine (rsless_any ⟨_, _⟩ ⟨_, _⟩ _).mono ?_); rintro e w1 ⟨rfl, b1⟩; have bw := Known.bw HK (by (repeat' (first | exact Below.refl _ _ | assumption | (refine ba ?_ _) | (refine bdr ?_) | (refine bset ?_ _ ?_ _) | (refine bt ?_ (by assumption)) | (simp; done) | (simp; omega)))) b1; have HK' := Known.step b1 (by (repeat' (first | (with_reducible exact HK) | (with_reducible apply Known.drew) | (with_reducible apply Known.alloc) | (with_reducible apply Known.allocO) | (with_reducible apply Known.setCell)))); (try replace hr := GoT.step hr bw); (try replace hs := GoT.step hs bw); (try replace ht := GoT.step ht bw); (try replace hu := GoT.step hu bw); replace b0 := bt b0 bw; clear bw b1; (try clear kn); (try clear c0 f0 hz); replace HK := HK'; clear HK'; ((try simp only [World.size_alloc, World.size_setCell, World.size_drew] at HK); have kn := HK; simp [Known, setL, NeAll] at kn); obtain ⟨c0, f0⟩ := bcell b0; have hz := b0.size) | (go_at_call 13; (with_reducible refine (rscheck_any ⟨_, _⟩ _).mono ?_); rintro e w1 ⟨rfl, b1⟩; have bw := Known.bw HK (by (repeat' (first | exact Below.refl _ _ | assumption | (refine ba ?_ _) | (refine bdr ?_) | (refine bset ?_ _ ?_ _) | (refine bt ?_ (by assumption)) | (simp; done) | (simp; omega)))) b1; have HK' := Known.step b1 (by (repeat' (first | (with_reducible exact HK) | (with_reducible apply Known.drew) | (with_reducible apply Known.alloc) | (with_reducible apply Known.allocO) | (with_reducible apply Known.setCell)))); (try replace hr := GoT.step hr bw); (try replace hs := GoT.step hs bw); (try replace ht := GoT.step ht bw); (try replace hu := GoT.step hu bw); replace b0 := bt b0 bw; clear bw b1; (try clear kn); (try clear c0 f0 hz); replace HK := HK'; clear HK'; ((try simp only [World.size_alloc, World.size_setCell, World.size_drew] at HK); have kn := HK; simp [Known, setL, NeAll] at kn); obtain ⟨c0, f0⟩ := bcell b0; have hz := b0.size))
              all_goals
                refine bodyPost_K rfl (fun K HK => ?_)
                simp [results, Try.results9, go_sem, *]
                refine HK.out _ ⟨Stamp.r2 ?_, by (repeat' (first | exact Below.refl _ _ | assumption | (refine ba ?_ _) | (refine bdr ?_) | (refine bset ?_ _ ?_ _) | (refine bt ?_ (by assumption)) | (simp; done) | (simp; omega)))⟩
                clear HK K
                (try simp only [wi_iff, wi_iffF, bne_iff_ne, beq_iff_eq, Bool.not_eq_true', bne_eq_false_iff_eq, beq_eq_false_iff_ne, ne_eq, Bool.not_eq_true, Bool.not_eq_false', Bool.not_true, Bool.not_false, decide_eq_true_eq, decide_eq_false_iff_not, Bool.and_eq_true, Bool.or_eq_true, Bool.and_eq_false_imp, Bool.or_eq_false_iff] at *)
                exact Hb.out
          · obtain rfl : k = n := by omega
            have hv := Lib.hid (show Stamp.maxP l = (m, 0) by
              unfold Stamp.maxP
              rw [if_neg (by have := Ln.out; omega), if_pos (by have := hok.out; rwa [Ln.out, List.take_length] at this), Hm.out])
            (((try simp only [World.size_alloc, World.size_setCell, World.size_drew] at HK); have kn := HK; simp [Known, setL, NeAll] at kn); obtain ⟨c0, f0⟩ := bcell b0; have hz := b0.size)
            go_wp2_with (first | (go_at_call 15; (with_reducible refine (rsless_any ⟨_, _⟩ ⟨_, _⟩ _).mono ?_); rintro e w1 ⟨rfl, b1⟩; have bw := Known.bw HK (by (repeat' (first | exact Below.refl _ _ | assumption | (refine ba ?_ _) | (refine bdr ?_) | (refine bset ?_ _ ?_ _) | (refine bt ?_ (by assumption)) | (simp; done) | (simp; omega)))) b1; have HK' := Known.step b1 (by (repeat' (first | (with_reducible exact HK) | (with_reducible apply Known.drew) | (with_reducible apply Known.alloc) | (with_reducible apply Known.allocO) | (with_reducible apply Known.setCell)))); (try replace hr := GoT.step hr bw); (try replace hs := GoT.step hs bw); (try replace ht := GoT.step ht bw); (try replace hu := GoT.step hu bw); replace b0 := bt b0 bw; clear bw b1; (try clear kn); (try clear c0 f0 hz); replace HK := HK'; clear HK'; ((try simp only [World.size_alloc, World.size_setCell, World.size_drew] at HK); have kn := HK; simp [Known, setL, NeAll] at kn); obtain ⟨c0, f0⟩ := bcell b0; have hz := b0.size) | (go_at_call 13; (with_reducible refine (rscheck_any ⟨_, _⟩ _).mono ?_); rintro e w1 ⟨rfl, b1⟩; have bw := Known.bw HK (by (repeat' (first | exact Below.refl _ _ | assumption | (refine ba ?_ _) | (refine bdr ?_) | (refine bset ?_ _ ?_ _) | (refine bt ?_ (by assumption)) | (simp; done) | (simp; omega)))) b1; have HK' := Known.step b1 (by (repeat' (first | (with_reducible exact HK) | (with_reducible apply Known.drew) | (with_reducible apply Known.alloc) | (with_reducible apply Known.allocO) | (with_reducible apply Known.setCell)))); (try replace hr := GoT.step hr bw); (try replace hs := GoT.step hs bw); (try replace ht := GoT.step ht bw); (try replace hu := GoT.step hu bw); replace b0 := bt b0 bw; clear bw b1; (try clear kn); (try clear c0 f0 hz); replace HK := HK'; clear HK'; ((try simp only [World.size_alloc, World.size_setCell, World.size_drew] at HK); have kn := HK; simp [Known, setL, NeAll] at kn); obtain ⟨c0, f0⟩ := bcell b0; have hz := b0.size))
            all_goals
              refine bodyPost_K rfl (fun K HK => ?_)
              simp [results, Try.results9, go_sem, *]
              refine HK.out _ ⟨Stamp.r2 ?_, by (repeat' (first | exact Below.refl _ _ | assumption | (refine ba ?_ _) | (refine bdr ?_) | (refine bset ?_ _ ?_ _) | (refine bt ?_ (by assumption)) | (simp; done) | (simp; omega)))⟩
              clear HK K
              (try simp only [wi_iff, wi_iffF, bne_iff_ne, beq_iff_eq, Bool.not_eq_true', bne_eq_false_iff_eq, beq_eq_false_iff_ne, ne_eq, Bool.not_eq_true, Bool.not_eq_false', Bool.not_true, Bool.not_false, decide_eq_true_eq, decide_eq_false_iff_not, Bool.and_eq_true, Bool.or_eq_true, Bool.and_eq_false_imp, Bool.or_eq_false_iff] at *)
              exact hv.out
      | succ j =>
        rw [show (((j + 1 : Nat) : Int) - 1) = (j : Int) by omega] at hi
        subst hi
        have hjl : j < l.length := by have := Ln.out; omega
        have hstep := Lib.hid (Stamp.maxS_drop hjl)
        rcases L4.out with h | ⟨b, off, rfl, hb, hc⟩
        · subst h; simp at hjl
        obtain ⟨d0, d1⟩ := hc j hjl
        clear hc
        generalize Stamp.maxS (l.drop (j + 1)) = m at *
        generalize l[j] = s at *
        have hn1 : (j : Int) < (n : Int) := by omega
        have hn2 : (0 : Int) ≤ (j : Int) := by omega
        (((try simp only [World.size_alloc, World.size_setCell, World.size_drew] at HK); have kn := HK; simp [Known, setL, NeAll] at kn); obtain ⟨c0, f0⟩ := bcell b0; have hz := b0.size)
        cases hL : m.lessB s
        · have hmx := Lib.hid (show Stamp.mx m s = m by simp [Stamp.mx, hL])
          go_wp2
          ((try (refine know_here (w0 := w) (by (repeat' (first | (with_reducible exact HK) | (with_reducible apply Known.drew) | (with_reducible apply Known.alloc) | (with_reducible apply Known.allocO) | (with_reducible apply Known.setCell)))) (by (repeat' (first | exact Below.refl _ _ | assumption | (refine ba ?_ _) | (refine bdr ?_) | (refine bset ?_ _ ?_ _) | (refine bt ?_ (by assumption)) | (simp; done) | (simp; omega)))) (fun HK' b0' => ?_); replace HK := HK'; replace b0 := b0'; clear HK' b0'; (try clear kn); (try clear c0 f0 hz); ((try simp only [World.size_alloc, World.size_setCell, World.size_drew] at HK); have kn := HK; simp [Known, setL, NeAll] at kn); obtain ⟨c0, f0⟩ := bcell b0; have hz := b0.size))
           refine wp_region_quiet_below (by kernel_rfl) (by kernel_rfl) ?_
           repeat (any_goals (first | go_big_quiet_step (first | (go_at_call 15; exact Calls.regrown_of (rsless_any m s _)) | (go_at_call 15; exact Calls.regrown_of (rsless_any ⟨_, _⟩ ⟨_, _⟩ _)) | (go_at_call 13; exact Calls.regrown_of (rscheck_any ⟨_, _⟩ _))) | quiet_step (first | (go_at_call 15; exact Calls.regrown_of (rsless_any m s _)) | (go_at_call 15; exact Calls.regrown_of (rsless_any ⟨_, _⟩ ⟨_, _⟩ _)) | (go_at_call 13; exact Calls.regrown_of (rscheck_any ⟨_, _⟩ _)))))
           refine wpQuiet_nil ?_
           intro w1 hq
           have b1 := below_of_regrown hq
           clear hq
           have bw := Known.bw HK (by (repeat' (first | exact Below.refl _ _ | assumption | (refine ba ?_ _) | (refine bdr ?_) | (refine bset ?_ _ ?_ _) | (refine bt ?_ (by assumption)) | (simp; done) | (simp; omega)))) b1; have HK' := Known.step b1 (by (repeat' (first | (with_reducible exact HK) | (with_reducible apply Known.drew) | (with_reducible apply Known.alloc) | (with_reducible apply Known.allocO) | (with_reducible apply Known.setCell)))); (try replace hr := GoT.step hr bw); (try replace hs := GoT.step hs bw); (try replace ht := GoT.step ht bw); (try replace hu := GoT.step hu bw); replace b0 := bt b0 bw; clear bw b1; (try clear kn); (try clear c0 f0 hz); replace HK := HK'; clear HK'; ((try simp only [World.size_alloc, World.size_setCell, World.size_drew] at HK); have kn := HK; simp [Known, setL, NeAll] at kn); obtain ⟨c0, f0⟩ := bcell b0; have hz := b0.size)
          rw [hL]
          go_wp2
          go_roundw
          case rel => exact ⟨j, by omega, rfl, by rw [hstep.out, hmx.out]; exact (by first | exact HK | exact HK.2.2 | exact HK.2.2.2.2 | exact HK.2.2.2.2.2.2 | exact Known.to (by (repeat' (first | (with_reducible exact HK) | (with_reducible apply Known.drew) | (with_reducible apply Known.alloc) | (with_reducible apply Known.allocO) | (with_reducible apply Known.setCell)))) (by first | rfl | (simp [setL]; done))), by (repeat' (first | exact Below.refl _ _ | assumption | (refine ba ?_ _) | (refine bdr ?_) | (refine bset ?_ _ ?_ _) | (refine bt ?_ (by assumption)) | (simp; done) | (simp; omega)))⟩
          case measure => simp [intOf]
        · have hmx := Lib.hid (show Stamp.mx m s = s by simp [Stamp.mx, hL])
          go_wp2
          ((try (refine know_here (w0 := w) (by (repeat' (first | (with_reducible exact HK) | (with_reducible apply Known.drew) | (with_reducible apply Known.alloc) | (with_reducible apply Known.allocO) | (with_reducible apply Known.setCell)))) (by (repeat' (first | exact Below.refl _ _ | assumption | (refine ba ?_ _) | (refine bdr ?_) | (refine bset ?_ _ ?_ _) | (refine bt ?_ (by assumption)) | (simp; done) | (simp; omega)))) (fun HK' b0' => ?_); replace HK := HK'; replace b0 := b0'; clear HK' b0'; (try clear kn); (try clear c0 f0 hz); ((try simp only [World.size_alloc, World.size_setCell, World.size_drew] at HK); have kn := HK; simp [Known, setL, NeAll] at kn); obtain ⟨c0, f0⟩ := bcell b0; have hz := b0.size))
           refine wp_region_quiet_below (by kernel_rfl) (by kernel_rfl) ?_
           repeat (any_goals (first | go_big_quiet_step (first | (go_at_call 15; exact Calls.regrown_of (rsless_any m s _)) | (go_at_call 15; exact Calls.regrown_of (rsless_any ⟨_, _⟩ ⟨_, _⟩ _)) | (go_at_call 13; exact Calls.regrown_of (rscheck_any ⟨_, _⟩ _))) | quiet_step (first | (go_at_call 15; exact Calls.regrown_of (rsless_any m s _)) | (go_at_call 15; exact Calls.regrown_of (rsless_any ⟨_, _⟩ ⟨_, _⟩ _)) | (go_at_call 13; exact Calls.regrown_of (rscheck_any ⟨_, _⟩ _)))))
           refine wpQuiet_nil ?_
           intro w1 hq
           have b1 := below_of_regrown hq
           clear hq
           have bw := Known.bw HK (by (repeat' (first | exact Below.refl _ _ | assumption | (refine ba ?_ _) | (refine bdr ?_) | (refine bset ?_ _ ?_ _) | (refine bt ?_ (by assumption)) | (simp; done) | (simp; omega)))) b1; have HK' := Known.step b1 (by (repeat' (first | (with_reducible exact HK) | (with_reducible apply Known.drew) | (with_reducible apply Known.alloc) | (with_reducible apply Known.allocO) | (with_reducible apply Known.setCell)))); (try replace hr := GoT.step hr bw); (try replace hs := GoT.step hs bw); (try replace ht := GoT.step ht bw); (try replace hu := GoT.step hu bw); replace b0 := bt b0 bw; clear bw b1; (try clear kn); (try clear c0 f0 hz); replace HK := HK'; clear HK'; ((try simp only [World.size_alloc, World.size_setCell, World.size_drew] at HK); have kn := HK; simp [Known, setL, NeAll] at kn); obtain ⟨c0, f0⟩ := bcell b0; have hz := b0.size)
          rw [hL]
          go_wp2
          go_roundw
          case rel => exact ⟨j, by omega, rfl, by rw [hstep.out, hmx.out]; exact (by first | exact HK | exact HK.2.2 | exact HK.2.2.2.2 | exact HK.2.2.2.2.2.2 | exact Known.to (by (repeat' (first | (with_reducible exact HK) | (with_reducible apply Known.drew) | (with_reducible apply Known.alloc) | (with_reducible apply Known.allocO) | (with_reducible apply Known.setCell)))) (by first | rfl | (simp [setL]; done))), by (repeat' (first | exact Below.refl _ _ | assumption | (refine ba ?_ _) | (refine bdr ?_) | (refine bset ?_ _ ?_ _) | (refine bt ?_ (by assumption)) | (simp; done) | (simp; omega)))⟩
          case measure => simp [intOf]
set_option maxRecDepth 100000 in
set_option maxHeartbeats 2000000 in
theorem rsnext_any (l : List Stamp) (who : Int) (A : Option Addr) (n c : Nat) (w : World) (hr : GoT.rep w w.heap.size [.slice A n c] l) :
    Calls Try.prog 10 #[.slice A n c, I who] w fun e w' => e = .returned (.tuple #[(Stamp.nextP l who).1.v, I (Stamp.nextP l who).2]) ∧ Below w.heap.size w w' := by
  have hn : Hid (Stamp.nextP l who = if (Stamp.maxP l).2 = 0 then (if (0 ≤ who ∧ who ≤ 31) ∧ (Stamp.maxP l).1.time ≠ 1000000 then (⟨(Stamp.maxP l).1.time + 1, who⟩, 0) else (⟨0, 0⟩, 3)) else (⟨0, 0⟩, (Stamp.maxP l).2)) := Lib.hid rfl
  have hb := Stamp.maxP_bd l
  obtain ⟨⟨m, e⟩, hm⟩ : ∃ x, Stamp.maxP l = x := ⟨_, rfl⟩
  have H := Lib.hid (fun w2 (h : GoT.rep w2 w2.heap.size [.slice A n c] l) => rsmax_any l A n c w2 h)
  have Hr := Lib.hid hr
  rw [hm] at hn hb H
  clear hr hm
  by_cases he : e = 0
  · obtain ⟨b1, b2⟩ := hb he
    subst he
    clear hb
    have b0 := Below.refl w.heap.size w
    have HK := Known.nil w
    go_enter Try.func10, Try.ntmps10
    go_wp2_with (first | (go_at_call 9; (refine ( H.out _ (GoT.step Hr.out (by (repeat' (first | exact Below.refl _ _ | assumption | (refine ba ?_ _) | (refine bdr ?_) | (refine bset ?_ _ ?_ _) | (refine bt ?_ (by assumption)) | (simp; done) | (simp; omega)))))).mono ?_); rintro e w1 ⟨rfl, b1⟩; have bw := Known.bw HK (by (repeat' (first | exact Below.refl _ _ | assumption | (refine ba ?_ _) | (refine bdr ?_) | (refine bset ?_ _ ?_ _) | (refine bt ?_ (by assumption)) | (simp; done) | (simp; omega)))) b1; have HK' := Known.step b1 (by (repeat' (first | (with_reducible exact HK) | (with_reducible apply Known.drew) | (with_reducible apply Known.alloc) | (with_reducible apply Known.allocO) | (with_reducible apply Known.setCell)))); (try replace hr := GoT.step hr bw); (try replace hs := GoT.step hs bw); (try replace ht := GoT.step ht bw); (try replace hu := GoT.step hu bw); replace b0 := bt b0 bw; clear bw b1; (try clear kn); (try clear c0 f0 hz); replace HK := HK'; clear HK'; ((try simp only [World.size_alloc, World.size_setCell, World.size_drew] at HK); have kn := HK; simp [Known, setL, NeAll] at kn); obtain ⟨c0, f0⟩ := bcell b0; have hz := b0.size))
    all_goals
      refine bodyPost_K rfl (fun K HK => ?_)
      simp [results, Try.results10, go_sem, *]
      refine HK.out _ ⟨Stamp.r2 ?_, by (repeat' (first | exact Below.refl _ _ | assumption | (refine ba ?_ _) | (refine bdr ?_) | (refine bset ?_ _ ?_ _) | (refine bt ?_ (by assumption)) | (simp; done) | (simp; omega)))⟩
      clear HK K
      (try simp only [wi_iff, wi_iffF, bne_iff_ne, beq_iff_eq, Bool.not_eq_true', bne_eq_false_iff_eq, beq_eq_false_iff_ne, ne_eq, Bool.not_eq_true, Bool.not_eq_false', Bool.not_true, Bool.not_false, decide_eq_true_eq, decide_eq_false_iff_not, Bool.and_eq_true, Bool.or_eq_true, Bool.and_eq_false_imp, Bool.or_eq_false_iff] at *)
      (rw [hn.out]; ((try simp only [decide_eq_true_eq]); (repeat' (first | rfl | (rw [if_pos (by first | assumption | omega | (simp [*]; done) | fail)]) | (rw [if_neg (by first | assumption | omega | (simp [*]; done) | fail)]) | split | fail)); all_goals (first | done | rfl | (exfalso; omega) | (simp; done) | (simp; omega) | (simp_all; done) | (simp_all; omega) | (rw [Bool.eq_iff_iff]; simp; done) | (rw [Bool.eq_iff_iff]; simp; omega) | (ext <;> (first | rfl | (simp; done) | (simp; omega) | omega | (simp_all; done) | fail)) | simp_all)))
  · have he' : (e == 0) = false := by simpa using he
    have he2 : (e != 0) = true := by simpa using he
    clear hb
    have b0 := Below.refl w.heap.size w
    have HK := Known.nil w
    go_enter Try.func10, Try.ntmps10
    go_wp2_with (first | (go_at_call 9; (refine ( H.out _ (GoT.step Hr.out (by (repeat' (first | exact Below.refl _ _ | assumption | (refine ba ?_ _) | (refine bdr ?_) | (refine bset ?_ _ ?_ _) | (refine bt ?_ (by assumption)) | (simp; done) | (simp; omega)))))).mono ?_); rintro e w1 ⟨rfl, b1⟩; have bw := Known.bw HK (by (repeat' (first | exact Below.refl _ _ | assumption | (refine ba ?_ _) | (refine bdr ?_) | (refine bset ?_ _ ?_ _) | (refine bt ?_ (by assumption)) | (simp; done) | (simp; omega)))) b1; have HK' := Known.step b1 (by (repeat' (first | (with_reducible exact HK) | (with_reducible apply Known.drew) | (with_reducible apply Known.alloc) | (with_reducible apply Known.allocO) | (with_reducible apply Known.setCell)))); (try replace hr := GoT.step hr bw); (try replace hs := GoT.step hs bw); (try replace ht := GoT.step ht bw); (try replace hu := GoT.step hu bw); replace b0 := bt b0 bw; clear bw b1; (try clear kn); (try clear c0 f0 hz); replace HK := HK'; clear HK'; ((try simp only [World.size_alloc, World.size_setCell, World.size_drew] at HK); have kn := HK; simp [Known, setL, NeAll] at kn); obtain ⟨c0, f0⟩ := bcell b0; have hz := b0.size))
    all_goals
      refine bodyPost_K rfl (fun K HK => ?_)
      simp [results, Try.results10, go_sem, *]
      refine HK.out _ ⟨Stamp.r2 ?_, by (repeat' (first | exact Below.refl _ _ | assumption | (refine ba ?_ _) | (refine bdr ?_) | (refine bset ?_ _ ?_ _) | (refine bt ?_ (by assumption)) | (simp; done) | (simp; omega)))⟩
      clear HK K
      (try simp only [wi_iff, wi_iffF, bne_iff_ne, beq_iff_eq, Bool.not_eq_true', bne_eq_false_iff_eq, beq_eq_false_iff_ne, ne_eq, Bool.not_eq_true, Bool.not_eq_false', Bool.not_true, Bool.not_false, decide_eq_true_eq, decide_eq_false_iff_not, Bool.and_eq_true, Bool.or_eq_true, Bool.and_eq_false_imp, Bool.or_eq_false_iff] at *)
      (rw [hn.out]; ((try simp only [decide_eq_true_eq]); (repeat' (first | rfl | (rw [if_pos (by first | assumption | omega | (simp [*]; done) | fail)]) | (rw [if_neg (by first | assumption | omega | (simp [*]; done) | fail)]) | split | fail)); all_goals (first | done | rfl | (exfalso; omega) | (simp; done) | (simp; omega) | (simp_all; done) | (simp_all; omega) | (rw [Bool.eq_iff_iff]; simp; done) | (rw [Bool.eq_iff_iff]; simp; omega) | (ext <;> (first | rfl | (simp; done) | (simp; omega) | omega | (simp_all; done) | fail)) | simp_all)))
end Go.Proofs.Ytplgjcgebacjnaa
