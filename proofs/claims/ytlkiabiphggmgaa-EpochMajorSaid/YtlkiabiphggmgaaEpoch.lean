/- Contracts of package epoch: what each call returns. No condition. -/
import Derived.Test.YtlkiabiphggmgaaEpochM
import Derived.Test.YtlkiabiphggmgaaApp
import Derived.Test.YtlkiabiphggmgaaGrow
import Derived.Outline
namespace Go.Proofs.Ytlkiabiphggmgaa
set_option linter.unusedSimpArgs false
set_option linter.unusedVariables false
open Go.ChangeShapes Go.WideShapes Go.ChangeAt Go.RowKit
open Go.ChangeMaps (open_string shut_string)
def Epoch.F : Flat Epoch where
  enc x := [I x.no, .int .u64 (x.members.n : Int)]
  len _ := rfl
  pos := by decide
  one x u h := by
    simp only [List.mem_cons, List.not_mem_nil, or_false] at h
    rcases h with rfl | rfl <;> rfl
theorem Epoch.info : ∃ i z, Try.prog.info? 25 = some i ∧ i.zero = some z ∧ i.size = GoT.size Epoch ∧ i.bytes = 16 ∧ z.cells.size = GoT.size Epoch := by
  have h : (Try.prog.info? 25).map (fun i => (i.zero, i.size, i.bytes)) = some (some (.agg #[.int .i64 0, .int .u64 0]), 2, 16) := by kernel_rfl
  obtain ⟨i, h1, h2, h3, h4⟩ := info_parts h
  exact ⟨i, _, h1, h2, h3, h4, rfl⟩
theorem src_rep {α : Type} [GoT α] (F : Flat α) (ok : α → Prop) (hf : ∀ {w B cs} {x : α}, GoT.rep w B cs x → cs = F.enc x ∧ ok x) {w : World} {Bd : Nat} {A : Option Addr} {n c : Nat} {xs : List α} (h : GoT.rep w Bd [.slice A n c] xs) : SrcAt F w A n xs := by
  obtain ⟨h1, h2, h3, h4, h5⟩ := list_open F.enc _ hf h
  exact src_of F h1 (h5.imp id fun ⟨b, off, hA, _, hs⟩ => ⟨b, off, hA, hs⟩)
theorem rep_take {α : Type} [GoT α] {w : World} {Bd : Nat} {A : Option Addr} {n c : Nat} {xs : List α} (h : GoT.rep w Bd [.slice A n c] xs) (k : Nat) (hk : k ≤ n) : GoT.rep w Bd [.slice A k c] (xs.take k) := by
  obtain ⟨A', n', c', e, hn, hnc, hc, hs⟩ := h
  simp only [List.cons.injEq, Value.slice.injEq, and_true] at e
  obtain ⟨rfl, rfl, rfl⟩ := e
  refine ⟨A, k, c, rfl, by simp; omega, by omega, hc, ?_⟩
  rcases hs with rfl | ⟨b, off, hA, hb, hs⟩
  · left; simp
  · refine .inr ⟨b, off, hA, hb, fun i x hx => hs i x ?_⟩
    rw [List.getElem?_take] at hx
    split at hx
    · exact hx
    · cases hx
theorem uand (a b : Nat) (ha : a < 18446744073709551616) (hb : b < 18446744073709551616) : bits .and .u64 (a : Int) (b : Int) = ((a &&& b : Nat) : Int) := bits_and_u64_nat _ _ ha hb
theorem uadd (a b : Nat) (h : a + b < 18446744073709551616) : IntKind.u64.wrap ((a : Int) + (b : Int)) = ((a + b : Nat) : Int) := by rw [IntKind.wrap_u64]; omega
theorem uandk (a b : Nat) (K : Int) (hK : K = (b : Int)) (ha : a < 18446744073709551616) (hb : b < 18446744073709551616) : bits .and .u64 (a : Int) K = ((a &&& b : Nat) : Int) := by subst hK; exact uand a b ha hb
set_option maxRecDepth 100000 in
set_option maxHeartbeats 1000000 in
theorem ones_any (x : Nat) (hx : x < 18446744073709551616) (w : World) : Calls Try.prog 23 #[.int .u64 (x : Int)] w fun e w' => e = .returned (I (pop x)) ∧ w = w' := by
  go_enter Try.func23, Try.ntmps23
  go_wp2
  go_ret
  refine ⟨ri ?_, rfl⟩
  rw [pop_eq]
  obtain ⟨ha, hb, hc⟩ := pop_bounds x
  have e1 := ones_eq x
  have a := pop_a x
  have b := pop_b x
  have c := pop_c x
  unfold ones at e1
  simp only [a, b, c] at e1
  rw [show ((x : Int) / 2) = ((x / 2 : Nat) : Int) by omega, uandk (x / 2) 0x5555555555555555 0x5555555555555555 rfl (by omega) (by decide), uandk x 0x5555555555555555 0x5555555555555555 rfl hx (by decide), uadd _ _ (by rw [a]; exact ha), a]
  generalize bmap p1 8 x = y at *
  rw [show ((y : Int) / 4) = ((y / 4 : Nat) : Int) by omega, uandk (y / 4) 0x3333333333333333 0x3333333333333333 rfl (by omega) (by decide), uandk y 0x3333333333333333 0x3333333333333333 rfl ha (by decide), uadd _ _ (by rw [b]; omega), b]
  generalize bmap h2 8 x = z at *
  rw [show ((z : Int) / 16) = ((z / 16 : Nat) : Int) by omega, uadd _ _ (by omega), uandk (z / 16 + z) 0x0f0f0f0f0f0f0f0f 0x0f0f0f0f0f0f0f0f rfl (by omega) (by decide), c]
  generalize bmap (cnt 8) 8 x = q at *
  rw [show ((q : Int) / 256) = ((q / 256 : Nat) : Int) by omega, uadd _ _ (by omega)]
  generalize hd : q + q / 256 = d at *
  rw [show ((d : Int) / 65536) = ((d / 65536 : Nat) : Int) by omega, uadd _ _ (by omega)]
  generalize he : d + d / 65536 = g at *
  rw [show ((g : Int) / 4294967296) = ((g / 4294967296 : Nat) : Int) by omega, uadd _ _ (by omega)]
  generalize hf : g + g / 4294967296 = r at *
  rw [← e1, show wrap64 (r : Int) = (r : Int) by rw [wrap64]; omega, show (127 : Int) = ((127 : Nat) : Int) from rfl, i64_and_nat _ _ (by omega) (by decide), show (127 : Nat) = 2 ^ 7 - 1 from rfl, Nat.and_two_pow_sub_one_eq_mod]
theorem ones_u (s : U64) (w : World) : Calls Try.prog 23 #[.int .u64 (s.n : Int)] w fun e w' => e = .returned (I (pop s.n)) ∧ w = w' := ones_any s.n s.lt w
theorem ones_xor (a b : U64) (w : World) : Calls Try.prog 23 #[.int .u64 (bits .xor .u64 (a.n : Int) (b.n : Int))] w fun e w' => e = .returned (I (pop (a.n ^^^ b.n))) ∧ w = w' := by
  rw [bits_xor_u64_nat _ _ a.lt b.lt]
  exact ones_any _ (Nat.xor_lt_two_pow (n := 64) a.lt b.lt) w
theorem ones_and (a b : U64) (w : World) : Calls Try.prog 23 #[.int .u64 (bits .and .u64 (a.n : Int) (b.n : Int))] w fun e w' => e = .returned (I (pop (a.n &&& b.n))) ∧ w = w' := by
  rw [bits_and_u64_nat _ _ a.lt b.lt]
  exact ones_any _ (Nat.and_lt_two_pow (n := 64) a.n b.lt) w
set_option maxRecDepth 100000 in
set_option maxHeartbeats 1000000 in
theorem eright_any (l : List Epoch) (x : Epoch) (A : Option Addr) (n c : Nat) (w : World) (hr : GoT.rep w w.heap.size [.slice A n c] l) (h64 : n ≤ 64) :
    Calls Try.prog 21 #[.slice A n c, x.v] w fun e w' => e = .returned (I (Epoch.rightE l x)) ∧ Below w.heap.size w w' := by
  have Hr := Lib.hid hr
  obtain ⟨ln0, l1, l2⟩ := rep_len hr
  have ln := Lib.hid ln0
  clear hr ln0
  by_cases h0 : n = 0
  · subst h0
    have hl := ln.out.symm
    clear Hr ln
    have b0 := Below.refl w.heap.size w
    have HK := Known.nil w
    go_enter Try.func21, Try.ntmps21
    go_wp2_with (first | (go_at_call 23; (with_reducible refine (ones_u _ _).mono ?_); rintro e w1 ⟨rfl, rfl⟩) | (go_at_call 23; (with_reducible refine (ones_xor _ _ _).mono ?_); rintro e w1 ⟨rfl, rfl⟩) | (go_at_call 23; (with_reducible refine (ones_and _ _ _).mono ?_); rintro e w1 ⟨rfl, rfl⟩))
    all_goals try ((refine bodyPost_K rfl (fun K HK => ?_)); (simp [results, Try.results21, go_sem, *]); (refine HK.out _ ⟨ri ?_, by (repeat' (first | (with_reducible exact Below.refl _ _) | (with_reducible assumption) | (with_reducible refine ba ?_ _) | (with_reducible refine bdr ?_) | (with_reducible refine below_rg ?_ _ _) | (with_reducible refine bset ?_ _ ?_ _) | (refine bt ?_ (by assumption)) | (simp; done) | (simp; omega)))⟩); (clear HK K); (try simp only [wi_iff, wi_iffF, bne_iff_ne, beq_iff_eq, Bool.not_eq_true', bne_eq_false_iff_eq, beq_eq_false_iff_ne, ne_eq, Bool.not_eq_true, Bool.not_eq_false', Bool.not_true, Bool.not_false, decide_eq_true_eq, decide_eq_false_iff_not, Bool.and_eq_true, Bool.or_eq_true, Bool.and_eq_false_imp, Bool.or_eq_false_iff] at *); (((try simp only [Epoch.rightE, hl, decide_eq_true_eq]); (repeat' (first | rfl | (rw [if_pos (by first | assumption | omega | (simp [*]; done) | fail)]) | (rw [if_neg (by first | assumption | omega | (simp [*]; done) | fail)]) | split | fail)); all_goals (first | done | rfl | (exfalso; omega) | (simp; done) | (simp; omega) | (simp_all; done) | (simp_all; omega) | (rw [Bool.eq_iff_iff]; simp; done) | (rw [Bool.eq_iff_iff]; simp; omega) | (ext <;> (first | rfl | (simp; done) | (simp; omega) | omega | (simp_all; done) | fail)) | (simp_all [wi]; done) | (simp_all [wi]; omega) | simp_all))))
    ((try (refine know_here (w0 := w) (by (repeat' (first | (with_reducible exact HK) | (with_reducible apply Known.drew) | (with_reducible apply Known.alloc) | (with_reducible apply Known.allocO) | (with_reducible apply Known.setCell)))) (by (repeat' (first | (with_reducible exact Below.refl _ _) | (with_reducible assumption) | (with_reducible refine ba ?_ _) | (with_reducible refine bdr ?_) | (with_reducible refine below_rg ?_ _ _) | (with_reducible refine bset ?_ _ ?_ _) | (refine bt ?_ (by assumption)) | (simp; done) | (simp; omega)))) (fun HK' b0' => ?_); replace HK := HK'; replace b0 := b0'; clear HK' b0'; (try clear kn); (try clear c0 f0 hz); ((try simp only [World.size_alloc, World.size_setCell, World.size_drew] at HK); have kn := HK; simp [Known, setL, NeAll] at kn); obtain ⟨c0, f0⟩ := bcell b0; have hz := b0.size))
     refine wp_region_quiet_below (by kernel_rfl) (by kernel_rfl) ?_
     repeat (any_goals (first | go_big_quiet_step (first | (go_at_call 23; with_reducible exact Calls.regrown_same (ones_u _ _)) | (go_at_call 23; with_reducible exact Calls.regrown_same (ones_xor _ _ _)) | (go_at_call 23; with_reducible exact Calls.regrown_same (ones_and _ _ _))) | quiet_step (first | (go_at_call 23; with_reducible exact Calls.regrown_same (ones_u _ _)) | (go_at_call 23; with_reducible exact Calls.regrown_same (ones_xor _ _ _)) | (go_at_call 23; with_reducible exact Calls.regrown_same (ones_and _ _ _)))))
     refine wpQuiet_nil ?_
     intro w1 hq
     have b1 := below_of_regrown hq
     clear hq
     have b9 : Below w.heap.size w _ := bt (by (repeat' (first | (with_reducible exact Below.refl _ _) | (with_reducible assumption) | (with_reducible refine ba ?_ _) | (with_reducible refine bdr ?_) | (with_reducible refine below_rg ?_ _ _) | (with_reducible refine bset ?_ _ ?_ _) | (refine bt ?_ (by assumption)) | (simp; done) | (simp; omega)))) b1; have HK' := Known.step b1 (by (repeat' (first | (with_reducible exact HK) | (with_reducible apply Known.drew) | (with_reducible apply Known.alloc) | (with_reducible apply Known.allocO) | (with_reducible apply Known.setCell)))); replace b0 := b9; clear b9 b1; (try clear kn); (try clear c0 f0 hz); replace HK := HK'; clear HK'; ((try simp only [World.size_alloc, World.size_setCell, World.size_drew] at HK); have kn := HK; simp [Known, setL, NeAll] at kn); obtain ⟨c0, f0⟩ := bcell b0; have hz := b0.size)
    go_wp2_with (first | (go_at_call 23; (with_reducible refine (ones_u _ _).mono ?_); rintro e w1 ⟨rfl, rfl⟩) | (go_at_call 23; (with_reducible refine (ones_xor _ _ _).mono ?_); rintro e w1 ⟨rfl, rfl⟩) | (go_at_call 23; (with_reducible refine (ones_and _ _ _).mono ?_); rintro e w1 ⟨rfl, rfl⟩))
    all_goals
      refine bodyPost_K rfl (fun K HK => ?_)
      simp [results, Try.results21, go_sem, *]
      refine HK.out _ ⟨ri ?_, by (repeat' (first | (with_reducible exact Below.refl _ _) | (with_reducible assumption) | (with_reducible refine ba ?_ _) | (with_reducible refine bdr ?_) | (with_reducible refine below_rg ?_ _ _) | (with_reducible refine bset ?_ _ ?_ _) | (refine bt ?_ (by assumption)) | (simp; done) | (simp; omega)))⟩
      clear HK K
      (try simp only [wi_iff, wi_iffF, bne_iff_ne, beq_iff_eq, Bool.not_eq_true', bne_eq_false_iff_eq, beq_eq_false_iff_ne, ne_eq, Bool.not_eq_true, Bool.not_eq_false', Bool.not_true, Bool.not_false, decide_eq_true_eq, decide_eq_false_iff_not, Bool.and_eq_true, Bool.or_eq_true, Bool.and_eq_false_imp, Bool.or_eq_false_iff] at *)
      ((try simp only [Epoch.rightE, hl, decide_eq_true_eq]); (repeat' (first | rfl | (rw [if_pos (by first | assumption | omega | (simp [*]; done) | fail)]) | (rw [if_neg (by first | assumption | omega | (simp [*]; done) | fail)]) | split | fail)); all_goals (first | done | rfl | (exfalso; omega) | (simp; done) | (simp; omega) | (simp_all; done) | (simp_all; omega) | (rw [Bool.eq_iff_iff]; simp; done) | (rw [Bool.eq_iff_iff]; simp; omega) | (ext <;> (first | rfl | (simp; done) | (simp; omega) | omega | (simp_all; done) | fail)) | (simp_all [wi]; done) | (simp_all [wi]; omega) | simp_all))
  · obtain ⟨m, rfl⟩ : ∃ m, n = m + 1 := ⟨n - 1, by omega⟩
    obtain ⟨b, off, y, rfl, hb, hok, -, hx, hd, d0, d1⟩ := Epoch.get Hr.out m (by omega)
    have hL := Lib.hid (Epoch.lastM_get ln.out.symm hx)
    have hl := Lib.hid ln.out.symm
    clear hd hok hx ln Hr
    have b0 := Below.refl w.heap.size w
    have HK := Known.nil w
    go_enter Try.func21, Try.ntmps21
    go_wp2_with (first | (go_at_call 23; (with_reducible refine (ones_u _ _).mono ?_); rintro e w1 ⟨rfl, rfl⟩) | (go_at_call 23; (with_reducible refine (ones_xor _ _ _).mono ?_); rintro e w1 ⟨rfl, rfl⟩) | (go_at_call 23; (with_reducible refine (ones_and _ _ _).mono ?_); rintro e w1 ⟨rfl, rfl⟩))
    all_goals try ((refine bodyPost_K rfl (fun K HK => ?_)); (simp [results, Try.results21, go_sem, *]); (refine HK.out _ ⟨ri ?_, by (repeat' (first | (with_reducible exact Below.refl _ _) | (with_reducible assumption) | (with_reducible refine ba ?_ _) | (with_reducible refine bdr ?_) | (with_reducible refine below_rg ?_ _ _) | (with_reducible refine bset ?_ _ ?_ _) | (refine bt ?_ (by assumption)) | (simp; done) | (simp; omega)))⟩); (clear HK K); (try simp only [wi_iff, wi_iffF, bne_iff_ne, beq_iff_eq, Bool.not_eq_true', bne_eq_false_iff_eq, beq_eq_false_iff_ne, ne_eq, Bool.not_eq_true, Bool.not_eq_false', Bool.not_true, Bool.not_false, decide_eq_true_eq, decide_eq_false_iff_not, Bool.and_eq_true, Bool.or_eq_true, Bool.and_eq_false_imp, Bool.or_eq_false_iff] at *); (((try simp only [Epoch.rightE, hl.out, hL.out, decide_eq_true_eq]); (repeat' (first | rfl | (rw [if_pos (by first | assumption | omega | (simp [*]; done) | fail)]) | (rw [if_neg (by first | assumption | omega | (simp [*]; done) | fail)]) | split | fail)); all_goals (first | done | rfl | (exfalso; omega) | (simp; done) | (simp; omega) | (simp_all; done) | (simp_all; omega) | (rw [Bool.eq_iff_iff]; simp; done) | (rw [Bool.eq_iff_iff]; simp; omega) | (ext <;> (first | rfl | (simp; done) | (simp; omega) | omega | (simp_all; done) | fail)) | (simp_all [wi]; done) | (simp_all [wi]; omega) | simp_all))))
    ((try (refine know_here (w0 := w) (by (repeat' (first | (with_reducible exact HK) | (with_reducible apply Known.drew) | (with_reducible apply Known.alloc) | (with_reducible apply Known.allocO) | (with_reducible apply Known.setCell)))) (by (repeat' (first | (with_reducible exact Below.refl _ _) | (with_reducible assumption) | (with_reducible refine ba ?_ _) | (with_reducible refine bdr ?_) | (with_reducible refine below_rg ?_ _ _) | (with_reducible refine bset ?_ _ ?_ _) | (refine bt ?_ (by assumption)) | (simp; done) | (simp; omega)))) (fun HK' b0' => ?_); replace HK := HK'; replace b0 := b0'; clear HK' b0'; (try clear kn); (try clear c0 f0 hz); ((try simp only [World.size_alloc, World.size_setCell, World.size_drew] at HK); have kn := HK; simp [Known, setL, NeAll] at kn); obtain ⟨c0, f0⟩ := bcell b0; have hz := b0.size))
     refine wp_region_quiet_below (by kernel_rfl) (by kernel_rfl) ?_
     repeat (any_goals (first | go_big_quiet_step (first | (go_at_call 23; with_reducible exact Calls.regrown_same (ones_u _ _)) | (go_at_call 23; with_reducible exact Calls.regrown_same (ones_xor _ _ _)) | (go_at_call 23; with_reducible exact Calls.regrown_same (ones_and _ _ _))) | quiet_step (first | (go_at_call 23; with_reducible exact Calls.regrown_same (ones_u _ _)) | (go_at_call 23; with_reducible exact Calls.regrown_same (ones_xor _ _ _)) | (go_at_call 23; with_reducible exact Calls.regrown_same (ones_and _ _ _)))))
     refine wpQuiet_nil ?_
     intro w1 hq
     have b1 := below_of_regrown hq
     clear hq
     have b9 : Below w.heap.size w _ := bt (by (repeat' (first | (with_reducible exact Below.refl _ _) | (with_reducible assumption) | (with_reducible refine ba ?_ _) | (with_reducible refine bdr ?_) | (with_reducible refine below_rg ?_ _ _) | (with_reducible refine bset ?_ _ ?_ _) | (refine bt ?_ (by assumption)) | (simp; done) | (simp; omega)))) b1; have HK' := Known.step b1 (by (repeat' (first | (with_reducible exact HK) | (with_reducible apply Known.drew) | (with_reducible apply Known.alloc) | (with_reducible apply Known.allocO) | (with_reducible apply Known.setCell)))); replace b0 := b9; clear b9 b1; (try clear kn); (try clear c0 f0 hz); replace HK := HK'; clear HK'; ((try simp only [World.size_alloc, World.size_setCell, World.size_drew] at HK); have kn := HK; simp [Known, setL, NeAll] at kn); obtain ⟨c0, f0⟩ := bcell b0; have hz := b0.size)
    go_wp2_with (first | (go_at_call 23; (with_reducible refine (ones_u _ _).mono ?_); rintro e w1 ⟨rfl, rfl⟩) | (go_at_call 23; (with_reducible refine (ones_xor _ _ _).mono ?_); rintro e w1 ⟨rfl, rfl⟩) | (go_at_call 23; (with_reducible refine (ones_and _ _ _).mono ?_); rintro e w1 ⟨rfl, rfl⟩))
    all_goals
      refine bodyPost_K rfl (fun K HK => ?_)
      simp [results, Try.results21, go_sem, *]
      refine HK.out _ ⟨ri ?_, by (repeat' (first | (with_reducible exact Below.refl _ _) | (with_reducible assumption) | (with_reducible refine ba ?_ _) | (with_reducible refine bdr ?_) | (with_reducible refine below_rg ?_ _ _) | (with_reducible refine bset ?_ _ ?_ _) | (refine bt ?_ (by assumption)) | (simp; done) | (simp; omega)))⟩
      clear HK K
      (try simp only [wi_iff, wi_iffF, bne_iff_ne, beq_iff_eq, Bool.not_eq_true', bne_eq_false_iff_eq, beq_eq_false_iff_ne, ne_eq, Bool.not_eq_true, Bool.not_eq_false', Bool.not_true, Bool.not_false, decide_eq_true_eq, decide_eq_false_iff_not, Bool.and_eq_true, Bool.or_eq_true, Bool.and_eq_false_imp, Bool.or_eq_false_iff] at *)
      ((try simp only [Epoch.rightE, hl.out, hL.out, decide_eq_true_eq]); (repeat' (first | rfl | (rw [if_pos (by first | assumption | omega | (simp [*]; done) | fail)]) | (rw [if_neg (by first | assumption | omega | (simp [*]; done) | fail)]) | split | fail)); all_goals (first | done | rfl | (exfalso; omega) | (simp; done) | (simp; omega) | (simp_all; done) | (simp_all; omega) | (rw [Bool.eq_iff_iff]; simp; done) | (rw [Bool.eq_iff_iff]; simp; omega) | (ext <;> (first | rfl | (simp; done) | (simp; omega) | omega | (simp_all; done) | fail)) | (simp_all [wi]; done) | (simp_all [wi]; omega) | simp_all))
set_option maxRecDepth 100000 in
set_option maxHeartbeats 2000000 in
theorem echeck_any (l : List Epoch) (A : Option Addr) (n c : Nat) (w : World) (hr : GoT.rep w w.heap.size [.slice A n c] l) :
    Calls Try.prog 15 #[.slice A n c] w fun e w' => e = .returned (I (Epoch.checkP l)) ∧ Below w.heap.size w w' := by
  have Hr := Lib.hid hr
  obtain ⟨ln0, l1, l2⟩ := rep_len hr
  have ln := Lib.hid ln0
  clear hr ln0
  by_cases h64 : 64 < n
  · have hv := Lib.hid (show Epoch.checkP l = 2 by unfold Epoch.checkP; rw [if_pos (by have := ln.out; omega)])
    have hn : (64 : Int) < (n : Int) := by omega
    have b0 := Below.refl w.heap.size w
    have HK := Known.nil w
    go_enter Try.func15, Try.ntmps15
    go_wp2_with (fail)
    all_goals
      refine bodyPost_K rfl (fun K HK => ?_)
      simp [results, Try.results15, go_sem, *]
      refine HK.out _ ⟨ri ?_, by (repeat' (first | (with_reducible exact Below.refl _ _) | (with_reducible assumption) | (with_reducible refine ba ?_ _) | (with_reducible refine bdr ?_) | (with_reducible refine below_rg ?_ _ _) | (with_reducible refine bset ?_ _ ?_ _) | (refine bt ?_ (by assumption)) | (simp; done) | (simp; omega)))⟩
      clear HK K
      (try simp only [wi_iff, wi_iffF, bne_iff_ne, beq_iff_eq, Bool.not_eq_true', bne_eq_false_iff_eq, beq_eq_false_iff_ne, ne_eq, Bool.not_eq_true, Bool.not_eq_false', Bool.not_true, Bool.not_false, decide_eq_true_eq, decide_eq_false_iff_not, Bool.and_eq_true, Bool.or_eq_true, Bool.and_eq_false_imp, Bool.or_eq_false_iff] at *)
      exact hv.out.symm
  have hn : (n : Int) ≤ 64 := by omega
  have hv := Lib.hid (show Epoch.checkP l = Epoch.checkGo l 0 l by unfold Epoch.checkP; rw [if_neg (by have := ln.out; omega)])
  have b0 := Below.refl w.heap.size w
  have HK := Known.nil w
  go_enter Try.func15, Try.ntmps15
  go_wp2_with (fail)
  go_loopw [11] (fun i wr => ∃ k : Nat, k ≤ n ∧ i = I k ∧ Hid (Epoch.checkGo l 0 l = Epoch.checkGo l k (l.drop k)) ∧ Below w.heap.size w wr) (fun i _ => (n - intOf i).toNat)
  case atStart => exact ⟨0, by omega, rfl, Lib.hid (by simp), by (repeat' (first | (with_reducible exact Below.refl _ _) | (with_reducible assumption) | (with_reducible refine ba ?_ _) | (with_reducible refine bdr ?_) | (with_reducible refine below_rg ?_ _ _) | (with_reducible refine bset ?_ _ ?_ _) | (refine bt ?_ (by assumption)) | (simp; done) | (simp; omega)))⟩
  case round =>
    obtain ⟨k, hk, rfl, hE, b0⟩ := hrel
    have HK := Known.nil wr
    by_cases hlt : k < n
    · obtain ⟨b, off, x, rfl, hb, hok, -, -, hd, d0, d1⟩ := Epoch.get Hr.out k hlt
      have hE := Lib.hid (hE.out.trans (congrArg (Epoch.checkGo l k) hd))
      have hn1 : (k : Int) < (n : Int) := by omega
      clear hd hok
      (((try simp only [World.size_alloc, World.size_setCell, World.size_drew] at HK); have kn := HK; simp [Known, setL, NeAll] at kn); obtain ⟨c0, f0⟩ := bcell b0; have hz := b0.size)
      go_wp2_with (fail)
      ((try (refine know_here (w0 := w) (by (repeat' (first | (with_reducible exact HK) | (with_reducible apply Known.drew) | (with_reducible apply Known.alloc) | (with_reducible apply Known.allocO) | (with_reducible apply Known.setCell)))) (by (repeat' (first | (with_reducible exact Below.refl _ _) | (with_reducible assumption) | (with_reducible refine ba ?_ _) | (with_reducible refine bdr ?_) | (with_reducible refine below_rg ?_ _ _) | (with_reducible refine bset ?_ _ ?_ _) | (refine bt ?_ (by assumption)) | (simp; done) | (simp; omega)))) (fun HK' b0' => ?_); replace HK := HK'; replace b0 := b0'; clear HK' b0'; (try clear kn); (try clear c0 f0 hz); ((try simp only [World.size_alloc, World.size_setCell, World.size_drew] at HK); have kn := HK; simp [Known, setL, NeAll] at kn); obtain ⟨c0, f0⟩ := bcell b0; have hz := b0.size))
       refine wp_region_quiet_below (by kernel_rfl) (by kernel_rfl) ?_
       repeat (any_goals (first | go_big_quiet_step (first | (go_at_call 21; exact Calls.regrown_of (eright_any (l.take k) x _ _ _ _ (rep_take (GoT.step Hr.out (by (repeat' (first | (with_reducible exact Below.refl _ _) | (with_reducible assumption) | (with_reducible refine ba ?_ _) | (with_reducible refine bdr ?_) | (with_reducible refine below_rg ?_ _ _) | (with_reducible refine bset ?_ _ ?_ _) | (refine bt ?_ (by assumption)) | (simp; done) | (simp; omega))))) k hk) (by omega)))) | quiet_step (first | (go_at_call 21; exact Calls.regrown_of (eright_any (l.take k) x _ _ _ _ (rep_take (GoT.step Hr.out (by (repeat' (first | (with_reducible exact Below.refl _ _) | (with_reducible assumption) | (with_reducible refine ba ?_ _) | (with_reducible refine bdr ?_) | (with_reducible refine below_rg ?_ _ _) | (with_reducible refine bset ?_ _ ?_ _) | (refine bt ?_ (by assumption)) | (simp; done) | (simp; omega))))) k hk) (by omega))))))
       refine wpQuiet_nil ?_
       intro w1 hq
       have b1 := below_of_regrown hq
       clear hq
       have b9 : Below w.heap.size w _ := bt (by (repeat' (first | (with_reducible exact Below.refl _ _) | (with_reducible assumption) | (with_reducible refine ba ?_ _) | (with_reducible refine bdr ?_) | (with_reducible refine below_rg ?_ _ _) | (with_reducible refine bset ?_ _ ?_ _) | (refine bt ?_ (by assumption)) | (simp; done) | (simp; omega)))) b1; have HK' := Known.step b1 (by (repeat' (first | (with_reducible exact HK) | (with_reducible apply Known.drew) | (with_reducible apply Known.alloc) | (with_reducible apply Known.allocO) | (with_reducible apply Known.setCell)))); replace b0 := b9; clear b9 b1; (try clear kn); (try clear c0 f0 hz); replace HK := HK'; clear HK'; ((try simp only [World.size_alloc, World.size_setCell, World.size_drew] at HK); have kn := HK; simp [Known, setL, NeAll] at kn); obtain ⟨c0, f0⟩ := bcell b0; have hz := b0.size)
      go_wp2_with (fail)
      all_goals
        first
        | (go_roundw
           case rel => exact ⟨k + 1, by omega, by go_num, Lib.hid (by rw [hE.out]; (try simp only [wi_iff, wi_iffF, bne_iff_ne, beq_iff_eq, Bool.not_eq_true', bne_eq_false_iff_eq, beq_eq_false_iff_ne, ne_eq, Bool.not_eq_true, Bool.not_eq_false', Bool.not_true, Bool.not_false, decide_eq_true_eq, decide_eq_false_iff_not, Bool.and_eq_true, Bool.or_eq_true, Bool.and_eq_false_imp, Bool.or_eq_false_iff] at *); ((try simp only [Epoch.checkGo, decide_eq_true_eq]); (repeat' (first | rfl | (rw [if_pos (by first | assumption | omega | (simp [*]; done) | fail)]) | (rw [if_neg (by first | assumption | omega | (simp [*]; done) | fail)]) | split | fail)); all_goals (first | done | rfl | (exfalso; omega) | (simp; done) | (simp; omega) | (simp_all; done) | (simp_all; omega) | (rw [Bool.eq_iff_iff]; simp; done) | (rw [Bool.eq_iff_iff]; simp; omega) | (ext <;> (first | rfl | (simp; done) | (simp; omega) | omega | (simp_all; done) | fail)) | (simp_all [wi]; done) | (simp_all [wi]; omega) | simp_all))), by (repeat' (first | (with_reducible exact Below.refl _ _) | (with_reducible assumption) | (with_reducible refine ba ?_ _) | (with_reducible refine bdr ?_) | (with_reducible refine below_rg ?_ _ _) | (with_reducible refine bset ?_ _ ?_ _) | (refine bt ?_ (by assumption)) | (simp; done) | (simp; omega)))⟩
           case measure => simp [intOf]; omega)
        | ((refine bodyPost_K rfl (fun K HK => ?_)); (simp [results, Try.results15, go_sem, *]); (refine HK.out _ ⟨ri ?_, by (repeat' (first | (with_reducible exact Below.refl _ _) | (with_reducible assumption) | (with_reducible refine ba ?_ _) | (with_reducible refine bdr ?_) | (with_reducible refine below_rg ?_ _ _) | (with_reducible refine bset ?_ _ ?_ _) | (refine bt ?_ (by assumption)) | (simp; done) | (simp; omega)))⟩); (clear HK K); (try simp only [wi_iff, wi_iffF, bne_iff_ne, beq_iff_eq, Bool.not_eq_true', bne_eq_false_iff_eq, beq_eq_false_iff_ne, ne_eq, Bool.not_eq_true, Bool.not_eq_false', Bool.not_true, Bool.not_false, decide_eq_true_eq, decide_eq_false_iff_not, Bool.and_eq_true, Bool.or_eq_true, Bool.and_eq_false_imp, Bool.or_eq_false_iff] at *); (rw [hv.out, hE.out]; ((try simp only [Epoch.checkGo, decide_eq_true_eq]); (repeat' (first | rfl | (rw [if_pos (by first | assumption | omega | (simp [*]; done) | fail)]) | (rw [if_neg (by first | assumption | omega | (simp [*]; done) | fail)]) | split | fail)); all_goals (first | done | rfl | (exfalso; omega) | (simp; done) | (simp; omega) | (simp_all; done) | (simp_all; omega) | (rw [Bool.eq_iff_iff]; simp; done) | (rw [Bool.eq_iff_iff]; simp; omega) | (ext <;> (first | rfl | (simp; done) | (simp; omega) | omega | (simp_all; done) | fail)) | (simp_all [wi]; done) | (simp_all [wi]; omega) | simp_all))))
    · obtain rfl : k = n := by omega
      have hs := Lib.hid (show Epoch.checkGo l 0 l = 0 by rw [hE.out, ln.out, List.drop_length]; rfl)
      (((try simp only [World.size_alloc, World.size_setCell, World.size_drew] at HK); have kn := HK; simp [Known, setL, NeAll] at kn); obtain ⟨c0, f0⟩ := bcell b0; have hz := b0.size)
      go_wp2_with (fail)
      all_goals
        refine bodyPost_K rfl (fun K HK => ?_)
        simp [results, Try.results15, go_sem, *]
        refine HK.out _ ⟨ri ?_, by (repeat' (first | (with_reducible exact Below.refl _ _) | (with_reducible assumption) | (with_reducible refine ba ?_ _) | (with_reducible refine bdr ?_) | (with_reducible refine below_rg ?_ _ _) | (with_reducible refine bset ?_ _ ?_ _) | (refine bt ?_ (by assumption)) | (simp; done) | (simp; omega)))⟩
        clear HK K
        (try simp only [wi_iff, wi_iffF, bne_iff_ne, beq_iff_eq, Bool.not_eq_true', bne_eq_false_iff_eq, beq_eq_false_iff_ne, ne_eq, Bool.not_eq_true, Bool.not_eq_false', Bool.not_true, Bool.not_false, decide_eq_true_eq, decide_eq_false_iff_not, Bool.and_eq_true, Bool.or_eq_true, Bool.and_eq_false_imp, Bool.or_eq_false_iff] at *)
        rw [hv.out, hs.out]
theorem emajor_any (x : Epoch) (s : U64) (w : World) : Calls Try.prog 17 #[x.v, .int .u64 (s.n : Int)] w fun e w' => e = .returned (.bool (x.majorB s.n)) ∧ Below w.heap.size w w' := by
  have h1 := pop_le x.members.n
  have h2 := pop_le (x.members.n &&& s.n)
  have b0 := Below.refl w.heap.size w
  have HK := Known.nil w
  go_enter Try.func17, Try.ntmps17
  go_wp2_with (first | (go_at_call 23; (with_reducible refine (ones_u _ _).mono ?_); rintro e w1 ⟨rfl, rfl⟩) | (go_at_call 23; (with_reducible refine (ones_xor _ _ _).mono ?_); rintro e w1 ⟨rfl, rfl⟩) | (go_at_call 23; (with_reducible refine (ones_and _ _ _).mono ?_); rintro e w1 ⟨rfl, rfl⟩))
  ((try (refine know_here (w0 := w) (by (repeat' (first | (with_reducible exact HK) | (with_reducible apply Known.drew) | (with_reducible apply Known.alloc) | (with_reducible apply Known.allocO) | (with_reducible apply Known.setCell)))) (by (repeat' (first | (with_reducible exact Below.refl _ _) | (with_reducible assumption) | (with_reducible refine ba ?_ _) | (with_reducible refine bdr ?_) | (with_reducible refine below_rg ?_ _ _) | (with_reducible refine bset ?_ _ ?_ _) | (refine bt ?_ (by assumption)) | (simp; done) | (simp; omega)))) (fun HK' b0' => ?_); replace HK := HK'; replace b0 := b0'; clear HK' b0'; (try clear kn); (try clear c0 f0 hz); ((try simp only [World.size_alloc, World.size_setCell, World.size_drew] at HK); have kn := HK; simp [Known, setL, NeAll] at kn); obtain ⟨c0, f0⟩ := bcell b0; have hz := b0.size))
   refine wp_region_quiet_below (by kernel_rfl) (by kernel_rfl) ?_
   repeat (any_goals (first | go_big_quiet_step (first | (go_at_call 23; with_reducible exact Calls.regrown_same (ones_u _ _)) | (go_at_call 23; with_reducible exact Calls.regrown_same (ones_xor _ _ _)) | (go_at_call 23; with_reducible exact Calls.regrown_same (ones_and _ _ _))) | quiet_step (first | (go_at_call 23; with_reducible exact Calls.regrown_same (ones_u _ _)) | (go_at_call 23; with_reducible exact Calls.regrown_same (ones_xor _ _ _)) | (go_at_call 23; with_reducible exact Calls.regrown_same (ones_and _ _ _)))))
   refine wpQuiet_nil ?_
   intro w1 hq
   have b1 := below_of_regrown hq
   clear hq
   have b9 : Below w.heap.size w _ := bt (by (repeat' (first | (with_reducible exact Below.refl _ _) | (with_reducible assumption) | (with_reducible refine ba ?_ _) | (with_reducible refine bdr ?_) | (with_reducible refine below_rg ?_ _ _) | (with_reducible refine bset ?_ _ ?_ _) | (refine bt ?_ (by assumption)) | (simp; done) | (simp; omega)))) b1; have HK' := Known.step b1 (by (repeat' (first | (with_reducible exact HK) | (with_reducible apply Known.drew) | (with_reducible apply Known.alloc) | (with_reducible apply Known.allocO) | (with_reducible apply Known.setCell)))); replace b0 := b9; clear b9 b1; (try clear kn); (try clear c0 f0 hz); replace HK := HK'; clear HK'; ((try simp only [World.size_alloc, World.size_setCell, World.size_drew] at HK); have kn := HK; simp [Known, setL, NeAll] at kn); obtain ⟨c0, f0⟩ := bcell b0; have hz := b0.size)
  go_wp2_with (first | (go_at_call 23; (with_reducible refine (ones_u _ _).mono ?_); rintro e w1 ⟨rfl, rfl⟩) | (go_at_call 23; (with_reducible refine (ones_xor _ _ _).mono ?_); rintro e w1 ⟨rfl, rfl⟩) | (go_at_call 23; (with_reducible refine (ones_and _ _ _).mono ?_); rintro e w1 ⟨rfl, rfl⟩))
  all_goals
    refine bodyPost_K rfl (fun K HK => ?_)
    simp [results, Try.results17, go_sem, *]
    refine HK.out _ ⟨rb ?_, by (repeat' (first | (with_reducible exact Below.refl _ _) | (with_reducible assumption) | (with_reducible refine ba ?_ _) | (with_reducible refine bdr ?_) | (with_reducible refine below_rg ?_ _ _) | (with_reducible refine bset ?_ _ ?_ _) | (refine bt ?_ (by assumption)) | (simp; done) | (simp; omega)))⟩
    clear HK K
    (try simp only [wi_iff, wi_iffF, bne_iff_ne, beq_iff_eq, Bool.not_eq_true', bne_eq_false_iff_eq, beq_eq_false_iff_ne, ne_eq, Bool.not_eq_true, Bool.not_eq_false', Bool.not_true, Bool.not_false, decide_eq_true_eq, decide_eq_false_iff_not, Bool.and_eq_true, Bool.or_eq_true, Bool.and_eq_false_imp, Bool.or_eq_false_iff] at *)
    ((try simp only [Epoch.majorB, decide_eq_true_eq]); (repeat' (first | rfl | (rw [if_pos (by first | assumption | omega | (simp [*]; done) | fail)]) | (rw [if_neg (by first | assumption | omega | (simp [*]; done) | fail)]) | split | fail)); all_goals (first | done | rfl | (exfalso; omega) | (simp; done) | (simp; omega) | (simp_all; done) | (simp_all; omega) | (rw [Bool.eq_iff_iff]; simp; done) | (rw [Bool.eq_iff_iff]; simp; omega) | (ext <;> (first | rfl | (simp; done) | (simp; omega) | omega | (simp_all; done) | fail)) | (simp_all [wi]; done) | (simp_all [wi]; omega) | simp_all))
theorem Epoch.r2z {x : Epoch × Int} {e : Int} (h : x = (⟨0, ⟨0, by decide⟩⟩, e)) : Ending.returned (.tuple #[.agg #[.int .i64 0, .int .u64 0], I e]) = .returned (.tuple #[x.1.v, I x.2]) := by subst h; rfl
set_option maxRecDepth 100000 in
set_option maxHeartbeats 2000000 in
theorem eat_any (l : List Epoch) (no : Int) (A : Option Addr) (n c : Nat) (w : World) (hr : GoT.rep w w.heap.size [.slice A n c] l) :
    Calls Try.prog 9 #[.slice A n c, I no] w fun e w' => e = .returned (.tuple #[(Epoch.atP l no).1.v, I (Epoch.atP l no).2]) ∧ Below w.heap.size w w' := by
  have Hr := Lib.hid hr
  obtain ⟨ln0, l1, l2⟩ := rep_len hr
  have ln := Lib.hid ln0
  clear hr ln0
  by_cases h0 : Epoch.checkP l = 0
  · by_cases hno : 1 ≤ no ∧ no ≤ (n : Int)
    · obtain ⟨m, rfl⟩ : ∃ m : Nat, no = (m : Int) + 1 := ⟨(no - 1).toNat, by omega⟩
      obtain ⟨b, off, x, rfl, hb, hok, -, hx, -, d0, d1⟩ := Epoch.get Hr.out m (by omega)
      have hv := Lib.hid (show Epoch.atP l ((m : Int) + 1) = (x, 0) by
        unfold Epoch.atP
        rw [if_pos h0, if_neg (by have := ln.out; omega), show ((m : Int) + 1 - 1).toNat = m by omega, List.getD_eq_getElem?_getD, hx]; rfl)
      obtain ⟨hn1, hn2⟩ := hno
      clear hx
      have b0 := Below.refl w.heap.size w
      have HK := Known.nil w
      go_enter Try.func9, Try.ntmps9
      go_wp2_with (first | (go_at_call 15; (refine ( echeck_any l _ _ _ _ (GoT.step Hr.out (by (repeat' (first | (with_reducible exact Below.refl _ _) | (with_reducible assumption) | (with_reducible refine ba ?_ _) | (with_reducible refine bdr ?_) | (with_reducible refine below_rg ?_ _ _) | (with_reducible refine bset ?_ _ ?_ _) | (refine bt ?_ (by assumption)) | (simp; done) | (simp; omega)))))).mono ?_); rintro e w1 ⟨rfl, b1⟩; have b9 : Below w.heap.size w _ := bt (by (repeat' (first | (with_reducible exact Below.refl _ _) | (with_reducible assumption) | (with_reducible refine ba ?_ _) | (with_reducible refine bdr ?_) | (with_reducible refine below_rg ?_ _ _) | (with_reducible refine bset ?_ _ ?_ _) | (refine bt ?_ (by assumption)) | (simp; done) | (simp; omega)))) b1; have HK' := Known.step b1 (by (repeat' (first | (with_reducible exact HK) | (with_reducible apply Known.drew) | (with_reducible apply Known.alloc) | (with_reducible apply Known.allocO) | (with_reducible apply Known.setCell)))); replace b0 := b9; clear b9 b1; (try clear kn); (try clear c0 f0 hz); replace HK := HK'; clear HK'; ((try simp only [World.size_alloc, World.size_setCell, World.size_drew] at HK); have kn := HK; simp [Known, setL, NeAll] at kn); obtain ⟨c0, f0⟩ := bcell b0; have hz := b0.size))
      all_goals
        refine bodyPost_K rfl (fun K HK => ?_)
        simp [results, Try.results9, go_sem, *]
        refine HK.out _ ⟨Epoch.r2 ?_, by (repeat' (first | (with_reducible exact Below.refl _ _) | (with_reducible assumption) | (with_reducible refine ba ?_ _) | (with_reducible refine bdr ?_) | (with_reducible refine below_rg ?_ _ _) | (with_reducible refine bset ?_ _ ?_ _) | (refine bt ?_ (by assumption)) | (simp; done) | (simp; omega)))⟩
        clear HK K
        (try simp only [wi_iff, wi_iffF, bne_iff_ne, beq_iff_eq, Bool.not_eq_true', bne_eq_false_iff_eq, beq_eq_false_iff_ne, ne_eq, Bool.not_eq_true, Bool.not_eq_false', Bool.not_true, Bool.not_false, decide_eq_true_eq, decide_eq_false_iff_not, Bool.and_eq_true, Bool.or_eq_true, Bool.and_eq_false_imp, Bool.or_eq_false_iff] at *)
        exact hv.out
    · have hv := Lib.hid (show Epoch.atP l no = (⟨0, ⟨0, by decide⟩⟩, 5) by
        unfold Epoch.atP
        rw [if_pos h0, if_pos (by have := ln.out; omega)]; rfl)
      have b0 := Below.refl w.heap.size w
      have HK := Known.nil w
      go_enter Try.func9, Try.ntmps9
      go_wp2_with (first | (go_at_call 15; (refine ( echeck_any l _ _ _ _ (GoT.step Hr.out (by (repeat' (first | (with_reducible exact Below.refl _ _) | (with_reducible assumption) | (with_reducible refine ba ?_ _) | (with_reducible refine bdr ?_) | (with_reducible refine below_rg ?_ _ _) | (with_reducible refine bset ?_ _ ?_ _) | (refine bt ?_ (by assumption)) | (simp; done) | (simp; omega)))))).mono ?_); rintro e w1 ⟨rfl, b1⟩; have b9 : Below w.heap.size w _ := bt (by (repeat' (first | (with_reducible exact Below.refl _ _) | (with_reducible assumption) | (with_reducible refine ba ?_ _) | (with_reducible refine bdr ?_) | (with_reducible refine below_rg ?_ _ _) | (with_reducible refine bset ?_ _ ?_ _) | (refine bt ?_ (by assumption)) | (simp; done) | (simp; omega)))) b1; have HK' := Known.step b1 (by (repeat' (first | (with_reducible exact HK) | (with_reducible apply Known.drew) | (with_reducible apply Known.alloc) | (with_reducible apply Known.allocO) | (with_reducible apply Known.setCell)))); replace b0 := b9; clear b9 b1; (try clear kn); (try clear c0 f0 hz); replace HK := HK'; clear HK'; ((try simp only [World.size_alloc, World.size_setCell, World.size_drew] at HK); have kn := HK; simp [Known, setL, NeAll] at kn); obtain ⟨c0, f0⟩ := bcell b0; have hz := b0.size))
      all_goals
        refine bodyPost_K rfl (fun K HK => ?_)
        simp [results, Try.results9, go_sem, *]
        refine HK.out _ ⟨Epoch.r2z ?_, by (repeat' (first | (with_reducible exact Below.refl _ _) | (with_reducible assumption) | (with_reducible refine ba ?_ _) | (with_reducible refine bdr ?_) | (with_reducible refine below_rg ?_ _ _) | (with_reducible refine bset ?_ _ ?_ _) | (refine bt ?_ (by assumption)) | (simp; done) | (simp; omega)))⟩
        clear HK K
        (try simp only [wi_iff, wi_iffF, bne_iff_ne, beq_iff_eq, Bool.not_eq_true', bne_eq_false_iff_eq, beq_eq_false_iff_ne, ne_eq, Bool.not_eq_true, Bool.not_eq_false', Bool.not_true, Bool.not_false, decide_eq_true_eq, decide_eq_false_iff_not, Bool.and_eq_true, Bool.or_eq_true, Bool.and_eq_false_imp, Bool.or_eq_false_iff] at *)
        first | exact hv.out | (exfalso; omega)
  · have hv := Lib.hid (show Epoch.atP l no = (⟨0, ⟨0, by decide⟩⟩, Epoch.checkP l) by unfold Epoch.atP; rw [if_neg h0]; rfl)
    have b0 := Below.refl w.heap.size w
    have HK := Known.nil w
    go_enter Try.func9, Try.ntmps9
    go_wp2_with (first | (go_at_call 15; (refine ( echeck_any l _ _ _ _ (GoT.step Hr.out (by (repeat' (first | (with_reducible exact Below.refl _ _) | (with_reducible assumption) | (with_reducible refine ba ?_ _) | (with_reducible refine bdr ?_) | (with_reducible refine below_rg ?_ _ _) | (with_reducible refine bset ?_ _ ?_ _) | (refine bt ?_ (by assumption)) | (simp; done) | (simp; omega)))))).mono ?_); rintro e w1 ⟨rfl, b1⟩; have b9 : Below w.heap.size w _ := bt (by (repeat' (first | (with_reducible exact Below.refl _ _) | (with_reducible assumption) | (with_reducible refine ba ?_ _) | (with_reducible refine bdr ?_) | (with_reducible refine below_rg ?_ _ _) | (with_reducible refine bset ?_ _ ?_ _) | (refine bt ?_ (by assumption)) | (simp; done) | (simp; omega)))) b1; have HK' := Known.step b1 (by (repeat' (first | (with_reducible exact HK) | (with_reducible apply Known.drew) | (with_reducible apply Known.alloc) | (with_reducible apply Known.allocO) | (with_reducible apply Known.setCell)))); replace b0 := b9; clear b9 b1; (try clear kn); (try clear c0 f0 hz); replace HK := HK'; clear HK'; ((try simp only [World.size_alloc, World.size_setCell, World.size_drew] at HK); have kn := HK; simp [Known, setL, NeAll] at kn); obtain ⟨c0, f0⟩ := bcell b0; have hz := b0.size))
    all_goals
      refine bodyPost_K rfl (fun K HK => ?_)
      simp [results, Try.results9, go_sem, *]
      refine HK.out _ ⟨Epoch.r2z ?_, by (repeat' (first | (with_reducible exact Below.refl _ _) | (with_reducible assumption) | (with_reducible refine ba ?_ _) | (with_reducible refine bdr ?_) | (with_reducible refine below_rg ?_ _ _) | (with_reducible refine bset ?_ _ ?_ _) | (refine bt ?_ (by assumption)) | (simp; done) | (simp; omega)))⟩
      clear HK K
      (try simp only [wi_iff, wi_iffF, bne_iff_ne, beq_iff_eq, Bool.not_eq_true', bne_eq_false_iff_eq, beq_eq_false_iff_ne, ne_eq, Bool.not_eq_true, Bool.not_eq_false', Bool.not_true, Bool.not_false, decide_eq_true_eq, decide_eq_false_iff_not, Bool.and_eq_true, Bool.or_eq_true, Bool.and_eq_false_imp, Bool.or_eq_false_iff] at *)
      exact hv.out
set_option maxRecDepth 100000 in
set_option maxHeartbeats 2000000 in
theorem ecommon_any (l : List Epoch) (A : Option Addr) (n c : Nat) (w : World) (hr : GoT.rep w w.heap.size [.slice A n c] l) :
    Calls Try.prog 10 #[.slice A n c] w fun e w' => e = .returned (.tuple #[.int .u64 ((Epoch.commonP l).1 : Int), I (Epoch.commonP l).2]) ∧ Below w.heap.size w w' := by
  have Hr := Lib.hid hr
  obtain ⟨ln0, l1, l2⟩ := rep_len hr
  have ln := Lib.hid ln0
  clear hr ln0
  by_cases h0 : Epoch.checkP l = 0
  · have hv := Lib.hid (show Epoch.commonP l = (Epoch.commonGo 0 l 0, 0) by unfold Epoch.commonP; rw [if_pos h0])
    have b0 := Below.refl w.heap.size w
    have HK := Known.nil w
    go_enter Try.func10, Try.ntmps10
    go_wp2_with (first | (go_at_call 15; (refine ( echeck_any l _ _ _ _ (GoT.step Hr.out (by (repeat' (first | (with_reducible exact Below.refl _ _) | (with_reducible assumption) | (with_reducible refine ba ?_ _) | (with_reducible refine bdr ?_) | (with_reducible refine below_rg ?_ _ _) | (with_reducible refine bset ?_ _ ?_ _) | (refine bt ?_ (by assumption)) | (simp; done) | (simp; omega)))))).mono ?_); rintro e w1 ⟨rfl, b1⟩; have b9 : Below w.heap.size w _ := bt (by (repeat' (first | (with_reducible exact Below.refl _ _) | (with_reducible assumption) | (with_reducible refine ba ?_ _) | (with_reducible refine bdr ?_) | (with_reducible refine below_rg ?_ _ _) | (with_reducible refine bset ?_ _ ?_ _) | (refine bt ?_ (by assumption)) | (simp; done) | (simp; omega)))) b1; have HK' := Known.step b1 (by (repeat' (first | (with_reducible exact HK) | (with_reducible apply Known.drew) | (with_reducible apply Known.alloc) | (with_reducible apply Known.allocO) | (with_reducible apply Known.setCell)))); replace b0 := b9; clear b9 b1; (try clear kn); (try clear c0 f0 hz); replace HK := HK'; clear HK'; ((try simp only [World.size_alloc, World.size_setCell, World.size_drew] at HK); have kn := HK; simp [Known, setL, NeAll] at kn); obtain ⟨c0, f0⟩ := bcell b0; have hz := b0.size))
    go_loopw [14, 2] (fun i t wr => ∃ (k : Nat) (s : U64), k ≤ n ∧ i = I k ∧ t = .int .u64 (s.n : Int) ∧ Hid (Epoch.commonGo 0 l 0 = Epoch.commonGo k (l.drop k) s.n) ∧ Below w.heap.size w wr) (fun i _ _ => (n - intOf i).toNat)
    case atStart => exact ⟨0, ⟨0, by decide⟩, by omega, rfl, rfl, Lib.hid rfl, by (repeat' (first | (with_reducible exact Below.refl _ _) | (with_reducible assumption) | (with_reducible refine ba ?_ _) | (with_reducible refine bdr ?_) | (with_reducible refine below_rg ?_ _ _) | (with_reducible refine bset ?_ _ ?_ _) | (refine bt ?_ (by assumption)) | (simp; done) | (simp; omega)))⟩
    case round =>
      obtain ⟨k, s, hk, rfl, rfl, hE, b0⟩ := hrel
      have HK := Known.nil wr
      by_cases hlt : k < n
      · obtain ⟨b, off, x, rfl, hb, hok, -, -, hd, d0, d1⟩ := Epoch.get Hr.out k hlt
        have hE := Lib.hid (hE.out.trans (congrArg (fun y => Epoch.commonGo k y s.n) hd))
        have hn1 : (k : Int) < (n : Int) := by omega
        have hx1 := Lib.hid (bits_and_u64_nat _ _ x.members.lt x.members.lt)
        have hx2 := Lib.hid (bits_and_u64_nat _ _ s.lt x.members.lt)
        clear hd hok
        (((try simp only [World.size_alloc, World.size_setCell, World.size_drew] at HK); have kn := HK; simp [Known, setL, NeAll] at kn); obtain ⟨c0, f0⟩ := bcell b0; have hz := b0.size)
        go_wp2_with (fail)
        all_goals
          go_roundw
          case rel =>
            refine ⟨k + 1, ⟨(if k = 0 then x.members.n else s.n) &&& x.members.n, Nat.and_lt_two_pow (n := 64) _ x.members.lt⟩, by omega, by go_num, ?_, ?_, by (repeat' (first | (with_reducible exact Below.refl _ _) | (with_reducible assumption) | (with_reducible refine ba ?_ _) | (with_reducible refine bdr ?_) | (with_reducible refine below_rg ?_ _ _) | (with_reducible refine bset ?_ _ ?_ _) | (refine bt ?_ (by assumption)) | (simp; done) | (simp; omega)))⟩
            · (try simp only [wi_iff, wi_iffF, bne_iff_ne, beq_iff_eq, Bool.not_eq_true', bne_eq_false_iff_eq, beq_eq_false_iff_ne, ne_eq, Bool.not_eq_true, Bool.not_eq_false', Bool.not_true, Bool.not_false, decide_eq_true_eq, decide_eq_false_iff_not, Bool.and_eq_true, Bool.or_eq_true, Bool.and_eq_false_imp, Bool.or_eq_false_iff] at *)
              first | (rw [hx1.out, if_pos (by omega)]) | (rw [hx2.out, if_neg (by omega)])
            · refine Lib.hid ?_
              rw [hE.out]
              rfl
          case measure => simp [intOf]; omega
      · obtain rfl : k = n := by omega
        have hx := Lib.hid (show Epoch.commonGo 0 l 0 = s.n by rw [hE.out, ln.out, List.drop_length]; rfl)
        (((try simp only [World.size_alloc, World.size_setCell, World.size_drew] at HK); have kn := HK; simp [Known, setL, NeAll] at kn); obtain ⟨c0, f0⟩ := bcell b0; have hz := b0.size)
        go_wp2_with (fail)
        all_goals
          refine bodyPost_K rfl (fun K HK => ?_)
          simp [results, Try.results10, go_sem, *]
          refine HK.out _ ⟨ru2 ?_, by (repeat' (first | (with_reducible exact Below.refl _ _) | (with_reducible assumption) | (with_reducible refine ba ?_ _) | (with_reducible refine bdr ?_) | (with_reducible refine below_rg ?_ _ _) | (with_reducible refine bset ?_ _ ?_ _) | (refine bt ?_ (by assumption)) | (simp; done) | (simp; omega)))⟩
          clear HK K
          (try simp only [wi_iff, wi_iffF, bne_iff_ne, beq_iff_eq, Bool.not_eq_true', bne_eq_false_iff_eq, beq_eq_false_iff_ne, ne_eq, Bool.not_eq_true, Bool.not_eq_false', Bool.not_true, Bool.not_false, decide_eq_true_eq, decide_eq_false_iff_not, Bool.and_eq_true, Bool.or_eq_true, Bool.and_eq_false_imp, Bool.or_eq_false_iff] at *)
          rw [hv.out, hx.out]
  · have hv := Lib.hid (show Epoch.commonP l = (0, Epoch.checkP l) by unfold Epoch.commonP; rw [if_neg h0])
    have b0 := Below.refl w.heap.size w
    have HK := Known.nil w
    go_enter Try.func10, Try.ntmps10
    go_wp2_with (first | (go_at_call 15; (refine ( echeck_any l _ _ _ _ (GoT.step Hr.out (by (repeat' (first | (with_reducible exact Below.refl _ _) | (with_reducible assumption) | (with_reducible refine ba ?_ _) | (with_reducible refine bdr ?_) | (with_reducible refine below_rg ?_ _ _) | (with_reducible refine bset ?_ _ ?_ _) | (refine bt ?_ (by assumption)) | (simp; done) | (simp; omega)))))).mono ?_); rintro e w1 ⟨rfl, b1⟩; have b9 : Below w.heap.size w _ := bt (by (repeat' (first | (with_reducible exact Below.refl _ _) | (with_reducible assumption) | (with_reducible refine ba ?_ _) | (with_reducible refine bdr ?_) | (with_reducible refine below_rg ?_ _ _) | (with_reducible refine bset ?_ _ ?_ _) | (refine bt ?_ (by assumption)) | (simp; done) | (simp; omega)))) b1; have HK' := Known.step b1 (by (repeat' (first | (with_reducible exact HK) | (with_reducible apply Known.drew) | (with_reducible apply Known.alloc) | (with_reducible apply Known.allocO) | (with_reducible apply Known.setCell)))); replace b0 := b9; clear b9 b1; (try clear kn); (try clear c0 f0 hz); replace HK := HK'; clear HK'; ((try simp only [World.size_alloc, World.size_setCell, World.size_drew] at HK); have kn := HK; simp [Known, setL, NeAll] at kn); obtain ⟨c0, f0⟩ := bcell b0; have hz := b0.size))
    go_ret2
    exact ⟨by rw [hv.out]; rfl, by (repeat' (first | (with_reducible exact Below.refl _ _) | (with_reducible assumption) | (with_reducible refine ba ?_ _) | (with_reducible refine bdr ?_) | (with_reducible refine below_rg ?_ _ _) | (with_reducible refine bset ?_ _ ?_ _) | (refine bt ?_ (by assumption)) | (simp; done) | (simp; omega)))⟩
end Go.Proofs.Ytlkiabiphggmgaa
