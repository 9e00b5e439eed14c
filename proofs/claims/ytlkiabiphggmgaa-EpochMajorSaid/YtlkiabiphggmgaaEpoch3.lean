/- Contracts of what the reference says of epochs. No condition. -/
import Derived.Test.YtlkiabiphggmgaaEpoch2
import Derived.Outline
import Derived.Deep.RegionHeld3
namespace Go.Proofs.Ytlkiabiphggmgaa
set_option linter.unusedSimpArgs false
set_option linter.unusedVariables false
open Go.ChangeShapes Go.WideShapes Go.ChangeAt Go.RowKit
open Go.ChangeMaps (open_string shut_string)
theorem inSet_any (s : U64) (k : Nat) (hk : k < 64) (w : World) : Calls Try.prog 20 #[.int .u64 (s.n : Int), I k] w fun e w' => e = .returned (.bool (decide (s.n / 2 ^ k % 2 = 1))) ∧ w = w' := by
  have b0 := Below.refl w.heap.size w
  have HK := Known.nil w
  go_enter Try.func20, Try.ntmps20
  go_wp2_with (fail)
  go_ret
  refine ⟨rb ?_, rfl⟩
  rw [bit_of, Bool.eq_iff_iff, beq_iff_eq, decide_eq_true_eq]
  omega
set_option maxRecDepth 100000 in
set_option maxHeartbeats 1000000 in
theorem rsize_u (s : U64) (w : World) : Calls Try.prog 19 #[.int .u64 (s.n : Int)] w fun e w' => e = .returned (I (pop s.n)) ∧ w = w' := by
  rw [pop_eq]
  go_enter Try.func19, Try.ntmps19
  go_wp2_with (first | (go_at_call 20; (with_reducible refine (inSet_any _ _ (by omega) _).mono ?_); rintro e w1 ⟨rfl, rfl⟩))
  go_loopw [4, 3] (fun i t wr => ∃ k : Nat, k ≤ 64 ∧ i = I k ∧ t = I (cnt k s.n) ∧ w = wr) (fun i _ _ => (64 - intOf i).toNat)
  case atStart => exact ⟨0, by omega, rfl, rfl, rfl⟩
  case round =>
    obtain ⟨k, hk, rfl, rfl, rfl⟩ := hrel
    have hc := cnt_le k s.n
    by_cases hlt : k < 64
    · have hn1 : (k : Int) < 64 := by omega
      go_wp2_with (first | (go_at_call 20; (with_reducible refine (inSet_any s k hlt _).mono ?_); rintro e w1 ⟨rfl, rfl⟩) | (go_at_call 20; (with_reducible refine (inSet_any _ _ (by omega) _).mono ?_); rintro e w1 ⟨rfl, rfl⟩))
      all_goals
        go_roundw
        case rel =>
          refine ⟨k + 1, by omega, by go_num, ?_, by first | rfl | trivial⟩
          (try simp only [wi_iff, wi_iffF, bne_iff_ne, beq_iff_eq, Bool.not_eq_true', bne_eq_false_iff_eq, beq_eq_false_iff_ne, ne_eq, Bool.not_eq_true, Bool.not_eq_false', Bool.not_true, Bool.not_false, decide_eq_true_eq, decide_eq_false_iff_not, Bool.and_eq_true, Bool.or_eq_true, Bool.and_eq_false_imp, Bool.or_eq_false_iff] at *)
          simp only [cnt]
          first | (go_num; omega) | (go_num; done) | (congr 1; omega)
        case measure => simp [intOf]; omega
    · obtain rfl : k = 64 := by omega
      go_wp2_with (first | (go_at_call 20; (with_reducible refine (inSet_any _ _ (by omega) _).mono ?_); rintro e w1 ⟨rfl, rfl⟩))
      go_ret
      exact ⟨rfl, rfl⟩
theorem rsize_xor (a b : U64) (w : World) : Calls Try.prog 19 #[.int .u64 (bits .xor .u64 (a.n : Int) (b.n : Int))] w fun e w' => e = .returned (I (pop (a.n ^^^ b.n))) ∧ w = w' := by
  rw [bits_xor_u64_nat _ _ a.lt b.lt]
  exact rsize_u ⟨_, Nat.xor_lt_two_pow (n := 64) a.lt b.lt⟩ w
theorem take_len {l : List Epoch} {k n : Nat} (ln : n = l.length) (hk : k < n) : (l.take k).length = k := by simp; omega
theorem take_last {l : List Epoch} {j n : Nat} {y : Epoch} (ln : n = l.length) (hk : j + 1 < n) (hy : l[j]? = some y) : Epoch.lastM (l.take (j + 1)) = y.members.n :=
  Epoch.lastM_get (m := j) (by simp; omega) (by rw [List.getElem?_take, if_pos (by omega), hy])
set_option maxRecDepth 100000 in
set_option maxHeartbeats 4000000 in
theorem rcheck_any (l : List Epoch) (A : Option Addr) (n c : Nat) (w : World) (hr : GoT.rep w w.heap.size [.slice A n c] l) :
    Calls Try.prog 12 #[.slice A n c] w fun e w' => e = .returned (I (Epoch.checkP l)) ∧ Below w.heap.size w w' := by
  have Hr := Lib.hid hr
  obtain ⟨ln0, l1, l2⟩ := rep_len hr
  have ln := Lib.hid ln0
  clear hr ln0
  by_cases h64 : 64 < n
  · have hv := Lib.hid (show Epoch.checkP l = 2 by unfold Epoch.checkP; rw [if_pos (by have := ln.out; omega)])
    have hn : (64 : Int) < (n : Int) := by omega
    have b0 := Below.refl w.heap.size w
    have HK := Known.nil w
    go_enter Try.func12, Try.ntmps12
    go_wp2_with (first | (go_at_call 19; (with_reducible refine (rsize_u _ _).mono ?_); rintro e w1 ⟨rfl, rfl⟩) | (go_at_call 19; (with_reducible refine (rsize_xor _ _ _).mono ?_); rintro e w1 ⟨rfl, rfl⟩))
    all_goals
      refine bodyPost_K rfl (fun K HK => ?_)
      simp [results, Try.results12, go_sem, *]
      refine HK.out _ ⟨ri ?_, by (repeat' (first | (with_reducible exact Below.refl _ _) | (with_reducible assumption) | (with_reducible refine ba ?_ _) | (with_reducible refine bdr ?_) | (with_reducible refine below_rg ?_ _ _) | (with_reducible refine bset ?_ _ ?_ _) | (refine bt ?_ (by assumption)) | (simp; done) | (simp; omega)))⟩
      clear HK K
      (try simp only [wi_iff, wi_iffF, bne_iff_ne, beq_iff_eq, Bool.not_eq_true', bne_eq_false_iff_eq, beq_eq_false_iff_ne, ne_eq, Bool.not_eq_true, Bool.not_eq_false', Bool.not_true, Bool.not_false, decide_eq_true_eq, decide_eq_false_iff_not, Bool.and_eq_true, Bool.or_eq_true, Bool.and_eq_false_imp, Bool.or_eq_false_iff] at *)
      exact hv.out.symm
  have hn : (n : Int) ≤ 64 := by omega
  have hv := Lib.hid (show Epoch.checkP l = Epoch.checkGo l 0 l by unfold Epoch.checkP; rw [if_neg (by have := ln.out; omega)])
  have b0 := Below.refl w.heap.size w
  have HK := Known.nil w
  go_enter Try.func12, Try.ntmps12
  go_wp2_with (first | (go_at_call 19; (with_reducible refine (rsize_u _ _).mono ?_); rintro e w1 ⟨rfl, rfl⟩) | (go_at_call 19; (with_reducible refine (rsize_xor _ _ _).mono ?_); rintro e w1 ⟨rfl, rfl⟩))
  go_loopw [3] (fun i wr => ∃ k : Nat, k ≤ n ∧ i = I k ∧ Hid (Epoch.checkGo l 0 l = Epoch.checkGo l k (l.drop k)) ∧ Below w.heap.size w wr) (fun i _ => (n - intOf i).toNat)
  case atStart => exact ⟨0, by omega, rfl, Lib.hid (by simp), by (repeat' (first | (with_reducible exact Below.refl _ _) | (with_reducible assumption) | (with_reducible refine ba ?_ _) | (with_reducible refine bdr ?_) | (with_reducible refine below_rg ?_ _ _) | (with_reducible refine bset ?_ _ ?_ _) | (refine bt ?_ (by assumption)) | (simp; done) | (simp; omega)))⟩
  case round =>
    obtain ⟨k, hk, rfl, hE, b0⟩ := hrel
    have HK := Known.nil wr
    by_cases hlt : k < n
    · obtain ⟨b, off, x, rfl, hb, hok, -, -, hd, d0, d1⟩ := Epoch.get Hr.out k hlt
      have hE := Lib.hid (hE.out.trans (congrArg (Epoch.checkGo l k) hd))
      have hn1 : (k : Int) < (n : Int) := by omega
      have hz0 := Lib.hid (Epoch.cnt_zero x.members)
      have hl := Lib.hid (take_len ln.out hlt)
      clear hd hok
      rcases Nat.eq_zero_or_pos k with hk0 | hk0
      · have hk1 : ¬ (0 : Int) < (k : Int) := by omega
        have hk3 : ¬ 0 < k := by omega
        have hk4 : decide (0 < k) = false := decide_eq_false hk3
        have hk2 := Lib.hid hk0
        clear hk0
        (((try simp only [World.size_alloc, World.size_setCell, World.size_drew] at HK); have kn := HK; simp [Known, setL, NeAll] at kn); obtain ⟨c0, f0⟩ := bcell b0; have hz := b0.size)
        go_wp2_with (first | (go_at_call 19; (with_reducible refine (rsize_u _ _).mono ?_); rintro e w1 ⟨rfl, rfl⟩) | (go_at_call 19; (with_reducible refine (rsize_xor _ _ _).mono ?_); rintro e w1 ⟨rfl, rfl⟩))
        all_goals try ((refine bodyPost_K rfl (fun K HK => ?_)); (simp [results, Try.results12, go_sem, *]); (refine HK.out _ ⟨ri ?_, by (repeat' (first | (with_reducible exact Below.refl _ _) | (with_reducible assumption) | (with_reducible refine ba ?_ _) | (with_reducible refine bdr ?_) | (with_reducible refine below_rg ?_ _ _) | (with_reducible refine bset ?_ _ ?_ _) | (refine bt ?_ (by assumption)) | (simp; done) | (simp; omega)))⟩); (clear HK K); (try simp only [wi_iff, wi_iffF, bne_iff_ne, beq_iff_eq, Bool.not_eq_true', bne_eq_false_iff_eq, beq_eq_false_iff_ne, ne_eq, Bool.not_eq_true, Bool.not_eq_false', Bool.not_true, Bool.not_false, decide_eq_true_eq, decide_eq_false_iff_not, Bool.and_eq_true, Bool.or_eq_true, Bool.and_eq_false_imp, Bool.or_eq_false_iff] at *); (rw [hv.out, hE.out]; have hzz := hz0.out; have hk0 := hk2.out; clear hE hv; (try clear c0); (try clear f0); (try clear d0); (try clear d1); (try clear d2); (try clear d3); (try clear d4); (try clear d5); (try clear e0); (try clear e1); (try clear e2); (try clear e3); (try clear hz); (try clear kn); (try clear Hr); (try clear ln); ((try simp only [Epoch.checkGo, Epoch.rightE, hl.out, decide_eq_true_eq]); (repeat' (first | rfl | (rw [if_pos (by first | assumption | omega | (simp [*]; done) | fail)]) | (rw [if_neg (by first | assumption | omega | (simp [*]; done) | fail)]) | split | fail)); all_goals (first | done | rfl | (exfalso; omega) | (simp; done) | (simp; omega) | (simp_all; done) | (simp_all; omega) | (rw [Bool.eq_iff_iff]; simp; done) | (rw [Bool.eq_iff_iff]; simp; omega) | (ext <;> (first | rfl | (simp; done) | (simp; omega) | omega | (simp_all; done) | fail)) | (simp_all [wi]; done) | (simp_all [wi]; omega) | simp_all))))
        ((try (refine know_here (w0 := w) (by (repeat' (first | (with_reducible exact HK) | (with_reducible apply Known.drew) | (with_reducible apply Known.alloc) | (with_reducible apply Known.allocO) | (with_reducible apply Known.setCell)))) (by (repeat' (first | (with_reducible exact Below.refl _ _) | (with_reducible assumption) | (with_reducible refine ba ?_ _) | (with_reducible refine bdr ?_) | (with_reducible refine below_rg ?_ _ _) | (with_reducible refine bset ?_ _ ?_ _) | (refine bt ?_ (by assumption)) | (simp; done) | (simp; omega)))) (fun HK' b0' => ?_); replace HK := HK'; replace b0 := b0'; clear HK' b0'; (try clear kn); (try clear c0 f0 hz); ((try simp only [World.size_alloc, World.size_setCell, World.size_drew] at HK); have kn := HK; simp [Known, setL, NeAll] at kn); obtain ⟨c0, f0⟩ := bcell b0; have hz := b0.size))
         refine wp_region_quiet_below (by kernel_rfl) (by kernel_rfl) ?_
         repeat (any_goals (first | go_big_quiet_step (first | (go_at_call 19; with_reducible exact Calls.regrown_same (rsize_u _ _)) | (go_at_call 19; with_reducible exact Calls.regrown_same (rsize_xor _ _ _))) | quiet_step (first | (go_at_call 19; with_reducible exact Calls.regrown_same (rsize_u _ _)) | (go_at_call 19; with_reducible exact Calls.regrown_same (rsize_xor _ _ _)))))
         refine wpQuiet_nil ?_
         intro w1 hq
         have b1 := below_of_regrown hq
         clear hq
         have b9 : Below w.heap.size w _ := bt (by (repeat' (first | (with_reducible exact Below.refl _ _) | (with_reducible assumption) | (with_reducible refine ba ?_ _) | (with_reducible refine bdr ?_) | (with_reducible refine below_rg ?_ _ _) | (with_reducible refine bset ?_ _ ?_ _) | (refine bt ?_ (by assumption)) | (simp; done) | (simp; omega)))) b1; have HK' := Known.step b1 (by (repeat' (first | (with_reducible exact HK) | (with_reducible apply Known.drew) | (with_reducible apply Known.alloc) | (with_reducible apply Known.allocO) | (with_reducible apply Known.setCell)))); replace b0 := b9; clear b9 b1; (try clear kn); (try clear c0 f0 hz); replace HK := HK'; clear HK'; ((try simp only [World.size_alloc, World.size_setCell, World.size_drew] at HK); have kn := HK; simp [Known, setL, NeAll] at kn); obtain ⟨c0, f0⟩ := bcell b0; have hz := b0.size)
        go_wp2_with (first | (go_at_call 19; (with_reducible refine (rsize_u _ _).mono ?_); rintro e w1 ⟨rfl, rfl⟩) | (go_at_call 19; (with_reducible refine (rsize_xor _ _ _).mono ?_); rintro e w1 ⟨rfl, rfl⟩))
        all_goals
          first
          | (go_roundw
             case rel => exact ⟨k + 1, by omega, by go_num, Lib.hid (by rw [hE.out]; (try simp only [wi_iff, wi_iffF, bne_iff_ne, beq_iff_eq, Bool.not_eq_true', bne_eq_false_iff_eq, beq_eq_false_iff_ne, ne_eq, Bool.not_eq_true, Bool.not_eq_false', Bool.not_true, Bool.not_false, decide_eq_true_eq, decide_eq_false_iff_not, Bool.and_eq_true, Bool.or_eq_true, Bool.and_eq_false_imp, Bool.or_eq_false_iff] at *); have hzz := hz0.out; have hk0 := hk2.out; clear hE hv; (try clear c0); (try clear f0); (try clear d0); (try clear d1); (try clear d2); (try clear d3); (try clear d4); (try clear d5); (try clear e0); (try clear e1); (try clear e2); (try clear e3); (try clear hz); (try clear kn); (try clear Hr); (try clear ln); ((try simp only [Epoch.checkGo, Epoch.rightE, hl.out, decide_eq_true_eq]); (repeat' (first | rfl | (rw [if_pos (by first | assumption | omega | (simp [*]; done) | fail)]) | (rw [if_neg (by first | assumption | omega | (simp [*]; done) | fail)]) | split | fail)); all_goals (first | done | rfl | (exfalso; omega) | (simp; done) | (simp; omega) | (simp_all; done) | (simp_all; omega) | (rw [Bool.eq_iff_iff]; simp; done) | (rw [Bool.eq_iff_iff]; simp; omega) | (ext <;> (first | rfl | (simp; done) | (simp; omega) | omega | (simp_all; done) | fail)) | (simp_all [wi]; done) | (simp_all [wi]; omega) | simp_all))), by (repeat' (first | (with_reducible exact Below.refl _ _) | (with_reducible assumption) | (with_reducible refine ba ?_ _) | (with_reducible refine bdr ?_) | (with_reducible refine below_rg ?_ _ _) | (with_reducible refine bset ?_ _ ?_ _) | (refine bt ?_ (by assumption)) | (simp; done) | (simp; omega)))⟩
             case measure => simp [intOf]; omega)
          | ((refine bodyPost_K rfl (fun K HK => ?_)); (simp [results, Try.results12, go_sem, *]); (refine HK.out _ ⟨ri ?_, by (repeat' (first | (with_reducible exact Below.refl _ _) | (with_reducible assumption) | (with_reducible refine ba ?_ _) | (with_reducible refine bdr ?_) | (with_reducible refine below_rg ?_ _ _) | (with_reducible refine bset ?_ _ ?_ _) | (refine bt ?_ (by assumption)) | (simp; done) | (simp; omega)))⟩); (clear HK K); (try simp only [wi_iff, wi_iffF, bne_iff_ne, beq_iff_eq, Bool.not_eq_true', bne_eq_false_iff_eq, beq_eq_false_iff_ne, ne_eq, Bool.not_eq_true, Bool.not_eq_false', Bool.not_true, Bool.not_false, decide_eq_true_eq, decide_eq_false_iff_not, Bool.and_eq_true, Bool.or_eq_true, Bool.and_eq_false_imp, Bool.or_eq_false_iff] at *); (rw [hv.out, hE.out]; have hzz := hz0.out; have hk0 := hk2.out; clear hE hv; (try clear c0); (try clear f0); (try clear d0); (try clear d1); (try clear d2); (try clear d3); (try clear d4); (try clear d5); (try clear e0); (try clear e1); (try clear e2); (try clear e3); (try clear hz); (try clear kn); (try clear Hr); (try clear ln); ((try simp only [Epoch.checkGo, Epoch.rightE, hl.out, decide_eq_true_eq]); (repeat' (first | rfl | (rw [if_pos (by first | assumption | omega | (simp [*]; done) | fail)]) | (rw [if_neg (by first | assumption | omega | (simp [*]; done) | fail)]) | split | fail)); all_goals (first | done | rfl | (exfalso; omega) | (simp; done) | (simp; omega) | (simp_all; done) | (simp_all; omega) | (rw [Bool.eq_iff_iff]; simp; done) | (rw [Bool.eq_iff_iff]; simp; omega) | (ext <;> (first | rfl | (simp; done) | (simp; omega) | omega | (simp_all; done) | fail)) | (simp_all [wi]; done) | (simp_all [wi]; omega) | simp_all))))
      · obtain ⟨j, rfl⟩ : ∃ j, k = j + 1 := ⟨k - 1, by omega⟩
        obtain ⟨b', off', y, hA, hb', -, -, hy, -, d2, d3⟩ := Epoch.get Hr.out j (by omega)
        obtain ⟨rfl, rfl⟩ : b' = b ∧ off' = off := by simpa using hA.symm
        have hL := Lib.hid (take_last ln.out hlt hy)
        clear hA hy
        (((try simp only [World.size_alloc, World.size_setCell, World.size_drew] at HK); have kn := HK; simp [Known, setL, NeAll] at kn); obtain ⟨c0, f0⟩ := bcell b0; have hz := b0.size)
        go_wp2_with (first | (go_at_call 19; (with_reducible refine (rsize_u _ _).mono ?_); rintro e w1 ⟨rfl, rfl⟩) | (go_at_call 19; (with_reducible refine (rsize_xor _ _ _).mono ?_); rintro e w1 ⟨rfl, rfl⟩))
        all_goals try ((refine bodyPost_K rfl (fun K HK => ?_)); (simp [results, Try.results12, go_sem, *]); (refine HK.out _ ⟨ri ?_, by (repeat' (first | (with_reducible exact Below.refl _ _) | (with_reducible assumption) | (with_reducible refine ba ?_ _) | (with_reducible refine bdr ?_) | (with_reducible refine below_rg ?_ _ _) | (with_reducible refine bset ?_ _ ?_ _) | (refine bt ?_ (by assumption)) | (simp; done) | (simp; omega)))⟩); (clear HK K); (try simp only [wi_iff, wi_iffF, bne_iff_ne, beq_iff_eq, Bool.not_eq_true', bne_eq_false_iff_eq, beq_eq_false_iff_ne, ne_eq, Bool.not_eq_true, Bool.not_eq_false', Bool.not_true, Bool.not_false, decide_eq_true_eq, decide_eq_false_iff_not, Bool.and_eq_true, Bool.or_eq_true, Bool.and_eq_false_imp, Bool.or_eq_false_iff] at *); (rw [hv.out, hE.out]; have hzz := hz0.out; clear hE hv; (try clear c0); (try clear f0); (try clear d0); (try clear d1); (try clear d2); (try clear d3); (try clear d4); (try clear d5); (try clear e0); (try clear e1); (try clear e2); (try clear e3); (try clear hz); (try clear kn); (try clear Hr); (try clear ln); ((try simp only [Epoch.checkGo, Epoch.rightE, hl.out, hL.out, decide_eq_true_eq]); (repeat' (first | rfl | (rw [if_pos (by first | assumption | omega | (simp [*]; done) | fail)]) | (rw [if_neg (by first | assumption | omega | (simp [*]; done) | fail)]) | split | fail)); all_goals (first | done | rfl | (exfalso; omega) | (simp; done) | (simp; omega) | (simp_all; done) | (simp_all; omega) | (rw [Bool.eq_iff_iff]; simp; done) | (rw [Bool.eq_iff_iff]; simp; omega) | (ext <;> (first | rfl | (simp; done) | (simp; omega) | omega | (simp_all; done) | fail)) | (simp_all [wi]; done) | (simp_all [wi]; omega) | simp_all))))
        ((try (refine know_here (w0 := w) (by (repeat' (first | (with_reducible exact HK) | (with_reducible apply Known.drew) | (with_reducible apply Known.alloc) | (with_reducible apply Known.allocO) | (with_reducible apply Known.setCell)))) (by (repeat' (first | (with_reducible exact Below.refl _ _) | (with_reducible assumption) | (with_reducible refine ba ?_ _) | (with_reducible refine bdr ?_) | (with_reducible refine below_rg ?_ _ _) | (with_reducible refine bset ?_ _ ?_ _) | (refine bt ?_ (by assumption)) | (simp; done) | (simp; omega)))) (fun HK' b0' => ?_); replace HK := HK'; replace b0 := b0'; clear HK' b0'; (try clear kn); (try clear c0 f0 hz); ((try simp only [World.size_alloc, World.size_setCell, World.size_drew] at HK); have kn := HK; simp [Known, setL, NeAll] at kn); obtain ⟨c0, f0⟩ := bcell b0; have hz := b0.size))
         refine wp_region_quiet_below (by kernel_rfl) (by kernel_rfl) ?_
         repeat (any_goals (first | go_big_quiet_step (first | (go_at_call 19; with_reducible exact Calls.regrown_same (rsize_u _ _)) | (go_at_call 19; with_reducible exact Calls.regrown_same (rsize_xor _ _ _))) | quiet_step (first | (go_at_call 19; with_reducible exact Calls.regrown_same (rsize_u _ _)) | (go_at_call 19; with_reducible exact Calls.regrown_same (rsize_xor _ _ _)))))
         refine wpQuiet_nil ?_
         intro w1 hq
         have b1 := below_of_regrown hq
         clear hq
         have b9 : Below w.heap.size w _ := bt (by (repeat' (first | (with_reducible exact Below.refl _ _) | (with_reducible assumption) | (with_reducible refine ba ?_ _) | (with_reducible refine bdr ?_) | (with_reducible refine below_rg ?_ _ _) | (with_reducible refine bset ?_ _ ?_ _) | (refine bt ?_ (by assumption)) | (simp; done) | (simp; omega)))) b1; have HK' := Known.step b1 (by (repeat' (first | (with_reducible exact HK) | (with_reducible apply Known.drew) | (with_reducible apply Known.alloc) | (with_reducible apply Known.allocO) | (with_reducible apply Known.setCell)))); replace b0 := b9; clear b9 b1; (try clear kn); (try clear c0 f0 hz); replace HK := HK'; clear HK'; ((try simp only [World.size_alloc, World.size_setCell, World.size_drew] at HK); have kn := HK; simp [Known, setL, NeAll] at kn); obtain ⟨c0, f0⟩ := bcell b0; have hz := b0.size)
        go_wp2_with (first | (go_at_call 19; (with_reducible refine (rsize_u _ _).mono ?_); rintro e w1 ⟨rfl, rfl⟩) | (go_at_call 19; (with_reducible refine (rsize_xor _ _ _).mono ?_); rintro e w1 ⟨rfl, rfl⟩))
        all_goals
          first
          | (go_roundw
             case rel => exact ⟨j + 1 + 1, by omega, by go_num, Lib.hid (by rw [hE.out]; (try simp only [wi_iff, wi_iffF, bne_iff_ne, beq_iff_eq, Bool.not_eq_true', bne_eq_false_iff_eq, beq_eq_false_iff_ne, ne_eq, Bool.not_eq_true, Bool.not_eq_false', Bool.not_true, Bool.not_false, decide_eq_true_eq, decide_eq_false_iff_not, Bool.and_eq_true, Bool.or_eq_true, Bool.and_eq_false_imp, Bool.or_eq_false_iff] at *); have hzz := hz0.out; clear hE hv; (try clear c0); (try clear f0); (try clear d0); (try clear d1); (try clear d2); (try clear d3); (try clear d4); (try clear d5); (try clear e0); (try clear e1); (try clear e2); (try clear e3); (try clear hz); (try clear kn); (try clear Hr); (try clear ln); ((try simp only [Epoch.checkGo, Epoch.rightE, hl.out, hL.out, decide_eq_true_eq]); (repeat' (first | rfl | (rw [if_pos (by first | assumption | omega | (simp [*]; done) | fail)]) | (rw [if_neg (by first | assumption | omega | (simp [*]; done) | fail)]) | split | fail)); all_goals (first | done | rfl | (exfalso; omega) | (simp; done) | (simp; omega) | (simp_all; done) | (simp_all; omega) | (rw [Bool.eq_iff_iff]; simp; done) | (rw [Bool.eq_iff_iff]; simp; omega) | (ext <;> (first | rfl | (simp; done) | (simp; omega) | omega | (simp_all; done) | fail)) | (simp_all [wi]; done) | (simp_all [wi]; omega) | simp_all))), by (repeat' (first | (with_reducible exact Below.refl _ _) | (with_reducible assumption) | (with_reducible refine ba ?_ _) | (with_reducible refine bdr ?_) | (with_reducible refine below_rg ?_ _ _) | (with_reducible refine bset ?_ _ ?_ _) | (refine bt ?_ (by assumption)) | (simp; done) | (simp; omega)))⟩
             case measure => simp [intOf]; omega)
          | ((refine bodyPost_K rfl (fun K HK => ?_)); (simp [results, Try.results12, go_sem, *]); (refine HK.out _ ⟨ri ?_, by (repeat' (first | (with_reducible exact Below.refl _ _) | (with_reducible assumption) | (with_reducible refine ba ?_ _) | (with_reducible refine bdr ?_) | (with_reducible refine below_rg ?_ _ _) | (with_reducible refine bset ?_ _ ?_ _) | (refine bt ?_ (by assumption)) | (simp; done) | (simp; omega)))⟩); (clear HK K); (try simp only [wi_iff, wi_iffF, bne_iff_ne, beq_iff_eq, Bool.not_eq_true', bne_eq_false_iff_eq, beq_eq_false_iff_ne, ne_eq, Bool.not_eq_true, Bool.not_eq_false', Bool.not_true, Bool.not_false, decide_eq_true_eq, decide_eq_false_iff_not, Bool.and_eq_true, Bool.or_eq_true, Bool.and_eq_false_imp, Bool.or_eq_false_iff] at *); (rw [hv.out, hE.out]; have hzz := hz0.out; clear hE hv; (try clear c0); (try clear f0); (try clear d0); (try clear d1); (try clear d2); (try clear d3); (try clear d4); (try clear d5); (try clear e0); (try clear e1); (try clear e2); (try clear e3); (try clear hz); (try clear kn); (try clear Hr); (try clear ln); ((try simp only [Epoch.checkGo, Epoch.rightE, hl.out, hL.out, decide_eq_true_eq]); (repeat' (first | rfl | (rw [if_pos (by first | assumption | omega | (simp [*]; done) | fail)]) | (rw [if_neg (by first | assumption | omega | (simp [*]; done) | fail)]) | split | fail)); all_goals (first | done | rfl | (exfalso; omega) | (simp; done) | (simp; omega) | (simp_all; done) | (simp_all; omega) | (rw [Bool.eq_iff_iff]; simp; done) | (rw [Bool.eq_iff_iff]; simp; omega) | (ext <;> (first | rfl | (simp; done) | (simp; omega) | omega | (simp_all; done) | fail)) | (simp_all [wi]; done) | (simp_all [wi]; omega) | simp_all))))
    · obtain rfl : k = n := by omega
      have hs := Lib.hid (show Epoch.checkGo l 0 l = 0 by rw [hE.out, ln.out, List.drop_length]; rfl)
      (((try simp only [World.size_alloc, World.size_setCell, World.size_drew] at HK); have kn := HK; simp [Known, setL, NeAll] at kn); obtain ⟨c0, f0⟩ := bcell b0; have hz := b0.size)
      go_wp2_with (first | (go_at_call 19; (with_reducible refine (rsize_u _ _).mono ?_); rintro e w1 ⟨rfl, rfl⟩) | (go_at_call 19; (with_reducible refine (rsize_xor _ _ _).mono ?_); rintro e w1 ⟨rfl, rfl⟩))
      all_goals
        refine bodyPost_K rfl (fun K HK => ?_)
        simp [results, Try.results12, go_sem, *]
        refine HK.out _ ⟨ri ?_, by (repeat' (first | (with_reducible exact Below.refl _ _) | (with_reducible assumption) | (with_reducible refine ba ?_ _) | (with_reducible refine bdr ?_) | (with_reducible refine below_rg ?_ _ _) | (with_reducible refine bset ?_ _ ?_ _) | (refine bt ?_ (by assumption)) | (simp; done) | (simp; omega)))⟩
        clear HK K
        (try simp only [wi_iff, wi_iffF, bne_iff_ne, beq_iff_eq, Bool.not_eq_true', bne_eq_false_iff_eq, beq_eq_false_iff_ne, ne_eq, Bool.not_eq_true, Bool.not_eq_false', Bool.not_true, Bool.not_false, decide_eq_true_eq, decide_eq_false_iff_not, Bool.and_eq_true, Bool.or_eq_true, Bool.and_eq_false_imp, Bool.or_eq_false_iff] at *)
        rw [hv.out, hs.out]
end Go.Proofs.Ytlkiabiphggmgaa
