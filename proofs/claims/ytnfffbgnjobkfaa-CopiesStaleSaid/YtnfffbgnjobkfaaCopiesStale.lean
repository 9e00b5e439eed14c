/- Not all copies are stale, and a stale one has a smaller timestamp than another one: the law CopiesStale returns true. No condition. -/
import Derived.Test.YtnfffbgnjobkfaaCopiesB
import Derived.Outline
--! nea
namespace Go.Proofs.Ytnfffbgnjobkfaa
set_option linter.unusedSimpArgs false
set_option linter.unusedVariables false
open Go.ChangeShapes Go.WideShapes Go.ChangeAt Go.RowKit
open Go.ChangeMaps (open_string shut_string)
namespace Copy
open Stamp
def topB (s : Nat) : Nat → List Copy → Bool → Bool
  | _, [], t => t
  | k, _ :: l, t => topB s (k + 1) l (t || !decide (s / 2 ^ k % 2 = 1))
theorem stale_bit (top : Stamp) : ∀ (l : List Copy) (k s : Nat), (∀ m, k ≤ m → s.testBit m = false) → ∀ m, (staleGo top k l s).testBit m = if m < k then s.testBit m else (l[m - k]?.any fun c => !decide (c.at_.time = top.time ∧ c.at_.who = top.who))
  | [], k, s, h, m => by
    rw [staleGo]; split
    · rfl
    · simp [h m (by omega)]
  | c :: l, k, s, h, m => by
    rw [staleGo, stale_bit top l (k + 1) _ (fun m hm => by
      split
      · exact h m (by omega)
      · rw [Nat.testBit_or, h m (by omega), Nat.testBit_two_pow]; simp; omega)]
    by_cases h1 : m < k
    · rw [if_pos (by omega), if_pos h1]
      split
      · rfl
      · rw [Nat.testBit_or, Nat.testBit_two_pow]; simp; omega
    · rw [if_neg h1]
      by_cases h2 : m = k
      · subst h2
        rw [if_pos (by omega), Nat.sub_self]
        simp only [List.getElem?_cons_zero, Option.any_some]
        split
        · rename_i hc; rw [h m (by omega)]; simp [hc]
        · rename_i hc; rw [Nat.testBit_or, h m (by omega), Nat.testBit_two_pow]; simp [hc]
      · rw [if_neg (by omega), show m - k = (m - (k + 1)) + 1 by omega, List.getElem?_cons_succ]
theorem top_true {s : Nat} : ∀ (l : List Copy) (k : Nat) (t : Bool), (t = true ∨ ∃ j c, l[j]? = some c ∧ ¬ s / 2 ^ (k + j) % 2 = 1) → topB s k l t = true
  | [], k, t, h => by
    rcases h with h | ⟨j, c, h, _⟩
    · exact h
    · simp at h
  | d :: l, k, t, h => by
    rw [topB]
    apply top_true l
    rcases h with h | ⟨j, c, h1, h2⟩
    · left; rw [h]; rfl
    · cases j with
      | zero => left; simp at h2; simp [h2]
      | succ j => right; exact ⟨j, c, by simpa using h1, by rw [show k + 1 + j = k + (j + 1) by omega]; exact h2⟩
theorem stale_laws {l : List Copy} (hm : mergeP l = (mergeL l, 0)) {i : Nat} {x : Copy} (hi : l[i]? = some x) :
    topB (staleP l).1 0 l false = true ∧ decide ((staleP l).1 / 2 ^ i % 2 = 1) = aboveB x.at_ l false := by
  have hs : (staleP l).1 = staleGo (mergeL l).at_ 0 l 0 := by unfold staleP; rw [hm, if_pos rfl]
  have hne : l ≠ [] := by rintro rfl; simp at hi
  have hx : x ∈ l := List.mem_of_getElem? hi
  have bit : ∀ (j : Nat) (c : Copy), l[j]? = some c → ((staleP l).1 / 2 ^ j % 2 = 1 ↔ ¬ c.at_ = (mergeL l).at_) := by
    intro j c hc
    have := stale_bit (mergeL l).at_ l 0 0 (by simp) j
    rw [if_neg (by omega), Nat.sub_zero, hc, ← hs] at this
    rw [Nat.testBit_eq_decide_div_mod_eq] at this
    simp only [Option.any_some] at this
    rw [← decide_eq_true_iff (p := (staleP l).1 / 2 ^ j % 2 = 1), this, eq_iff]
    simp
    omega
  constructor
  · apply top_true
    right
    obtain ⟨j, hj⟩ := List.getElem?_of_mem (top_mem hne)
    exact ⟨j, _, hj, by rw [Nat.zero_add, bit j _ hj]; simp⟩
  · rw [Bool.eq_iff_iff, decide_eq_true_eq, bit i x hi, above_iff]
    constructor
    · intro h
      refine ⟨mergeL l, top_mem hne, ?_⟩
      have h1 := top_le hx
      rw [lessF] at h1
      rw [eq_iff] at h
      rw [lessB_iff]
      omega
    · rintro ⟨c, hc, hl⟩ h
      have h1 := top_le hc
      rw [h] at hl
      rw [hl] at h1
      cases h1
end Copy
theorem staleGo_lt (top : Stamp) : ∀ (l : List Copy) (k s : Nat), s < 2 ^ 12 → k + l.length ≤ 12 → Copy.staleGo top k l s < 2 ^ 12
  | [], _, _, h, _ => h
  | c :: l, k, s, h, hk => by
    simp only [List.length_cons] at hk
    rw [Copy.staleGo]
    refine staleGo_lt top l _ _ ?_ (by omega)
    split
    · exact h
    · exact or_lt h (by omega)
theorem staleP_lt (l : List Copy) : (Copy.staleP l).1 < 18446744073709551616 := by
  unfold Copy.staleP
  split
  · rename_i h
    have hl := Copy.mergeP_len h
    have := staleGo_lt (Copy.mergeP l).1.at_ l 0 0 (by decide) (by omega)
    show Copy.staleGo _ _ _ _ < _
    omega
  · simp
set_option maxRecDepth 100000 in
set_option maxHeartbeats 8000000 in
theorem CopiesStale_walk {w : World} (l : List Copy) (A : Option Addr) (n c : Nat) (hr : GoT.rep w w.heap.size [.slice A n c] l) (i : Int) (_ : (Lit.int .i64 i).wf = true) :
    Calls Try.prog 7 #[.slice A n c, I i] w fun e w' => e = .returned (.bool true) ∧ Below w.heap.size w w' := by
  have Hr := Lib.hid hr
  obtain ⟨ln0, l1, l2⟩ := rep_len hr
  have ln := Lib.hid ln0
  clear hr ln0
  rcases Copy.mergeP_cases l with ⟨e, he, hm⟩ | ⟨h12, -, hm⟩
  · have hS : Copy.staleP l = (0, e) := by unfold Copy.staleP; rw [hm, if_neg (by simpa using he)]
    clear hm
    have b0 := Below.refl w.heap.size w
    have HK := Known.nil w
    go_enter Try.func7, Try.ntmps7
    go_wp2_with (first | (go_at_call 11; (refine ( cstale_any l _ _ _ _ (GoT.step Hr.out (by (repeat' (first | (with_reducible exact Below.refl _ _) | (with_reducible assumption) | (with_reducible refine ba ?_ _) | (with_reducible refine bdr ?_) | (with_reducible refine bset ?_ _ ?_ _) | (refine bt ?_ (by assumption)) | (simp; done) | (simp; omega)))))).mono ?_); rintro e w1 ⟨rfl, b1⟩; have b9 : Below w.heap.size w _ := bt (by (repeat' (first | (with_reducible exact Below.refl _ _) | (with_reducible assumption) | (with_reducible refine ba ?_ _) | (with_reducible refine bdr ?_) | (with_reducible refine bset ?_ _ ?_ _) | (refine bt ?_ (by assumption)) | (simp; done) | (simp; omega)))) b1; have HK' := Known.step b1 (by (repeat' (first | (with_reducible exact HK) | (with_reducible apply Known.drew) | (with_reducible apply Known.alloc) | (with_reducible apply Known.allocO) | (with_reducible apply Known.setCell)))); replace b0 := b9; clear b9 b1; (try clear kn); (try clear c0 f0 hz); replace HK := HK'; clear HK'; ((try simp only [World.size_alloc, World.size_setCell, World.size_drew] at HK); have kn := HK; simp [Known, setL, NeAll] at kn); obtain ⟨c0, f0⟩ := bcell b0; have hz := b0.size) | (go_at_call 15; (with_reducible refine (cbegun_any  _).mono ?_); rintro e w1 ⟨rfl, b1⟩; have b9 : Below w.heap.size w _ := bt (by (repeat' (first | (with_reducible exact Below.refl _ _) | (with_reducible assumption) | (with_reducible refine ba ?_ _) | (with_reducible refine bdr ?_) | (with_reducible refine bset ?_ _ ?_ _) | (refine bt ?_ (by assumption)) | (simp; done) | (simp; omega)))) b1; have HK' := Known.step b1 (by (repeat' (first | (with_reducible exact HK) | (with_reducible apply Known.drew) | (with_reducible apply Known.alloc) | (with_reducible apply Known.allocO) | (with_reducible apply Known.setCell)))); replace b0 := b9; clear b9 b1; (try clear kn); (try clear c0 f0 hz); replace HK := HK'; clear HK'; ((try simp only [World.size_alloc, World.size_setCell, World.size_drew] at HK); have kn := HK; simp [Known, setL, NeAll] at kn); obtain ⟨c0, f0⟩ := bcell b0; have hz := b0.size) | (go_at_call 18; (with_reducible refine (sless_any ⟨_, _⟩ ⟨_, _⟩ _).mono ?_); rintro e w1 ⟨rfl, b1⟩; have b9 : Below w.heap.size w _ := bt (by (repeat' (first | (with_reducible exact Below.refl _ _) | (with_reducible assumption) | (with_reducible refine ba ?_ _) | (with_reducible refine bdr ?_) | (with_reducible refine bset ?_ _ ?_ _) | (refine bt ?_ (by assumption)) | (simp; done) | (simp; omega)))) b1; have HK' := Known.step b1 (by (repeat' (first | (with_reducible exact HK) | (with_reducible apply Known.drew) | (with_reducible apply Known.alloc) | (with_reducible apply Known.allocO) | (with_reducible apply Known.setCell)))); replace b0 := b9; clear b9 b1; (try clear kn); (try clear c0 f0 hz); replace HK := HK'; clear HK'; ((try simp only [World.size_alloc, World.size_setCell, World.size_drew] at HK); have kn := HK; simp [Known, setL, NeAll] at kn); obtain ⟨c0, f0⟩ := bcell b0; have hz := b0.size))
    all_goals first | (go_ret; refine ⟨rb ?_, by (repeat' (first | (with_reducible exact Below.refl _ _) | (with_reducible assumption) | (with_reducible refine ba ?_ _) | (with_reducible refine bdr ?_) | (with_reducible refine bset ?_ _ ?_ _) | (refine bt ?_ (by assumption)) | (simp; done) | (simp; omega)))⟩; (first | rfl | (simp; done) | (simp [*]; done) | ((try simp only [wi_iff, wi_iffF, bne_iff_ne, beq_iff_eq, Bool.not_eq_true', bne_eq_false_iff_eq, beq_eq_false_iff_ne, ne_eq, Bool.not_eq_true, Bool.not_eq_false', Bool.not_true, Bool.not_false, decide_eq_true_eq, decide_eq_false_iff_not, Bool.and_eq_true, Bool.or_eq_true, Bool.and_eq_false_imp, Bool.or_eq_false_iff] at *); simp; omega) | (exfalso; (try simp only [wi_iff, wi_iffF, bne_iff_ne, beq_iff_eq, Bool.not_eq_true', bne_eq_false_iff_eq, beq_eq_false_iff_ne, ne_eq, Bool.not_eq_true, Bool.not_eq_false', Bool.not_true, Bool.not_false, decide_eq_true_eq, decide_eq_false_iff_not, Bool.and_eq_true, Bool.or_eq_true, Bool.and_eq_false_imp, Bool.or_eq_false_iff] at *); omega) | (simp_all; done) | (simp_all; omega))) | (exfalso; (try simp only [wi_iff, wi_iffF, bne_iff_ne, beq_iff_eq, Bool.not_eq_true', bne_eq_false_iff_eq, beq_eq_false_iff_ne, ne_eq, Bool.not_eq_true, Bool.not_eq_false', Bool.not_true, Bool.not_false, decide_eq_true_eq, decide_eq_false_iff_not, Bool.and_eq_true, Bool.or_eq_true, Bool.and_eq_false_imp, Bool.or_eq_false_iff] at *); omega) | (exfalso; simp_all; done) | (exfalso; simp_all; omega) | (go_ret; refine ⟨rb ?_, by (repeat' (first | (with_reducible exact Below.refl _ _) | (with_reducible assumption) | (with_reducible refine ba ?_ _) | (with_reducible refine bdr ?_) | (with_reducible refine bset ?_ _ ?_ _) | (refine bt ?_ (by assumption)) | (simp; done) | (simp; omega)))⟩) | skip
  · have hn : (n : Int) ≤ 12 := by have := ln.out; omega
    have hlt := staleP_lt l
    have hS : (Copy.staleP l).2 = 0 := by unfold Copy.staleP; rw [hm, if_pos rfl]
    by_cases hi : 0 ≤ i ∧ i < n
    · obtain ⟨i0, i1⟩ := hi
      obtain ⟨j, rfl⟩ := Int.eq_ofNat_of_zero_le i0
      obtain ⟨b, off, x, rfl, hb, -, -, hget, -, d0, d1, d2⟩ := Copy.get Hr.out j (by omega)
      have hlaw := Lib.hid (Copy.stale_laws hm hget)
      clear hget hm h12
      have j0 : decide ((j : Int) < 0) = false := by simp
      have j1 : decide (n ≤ j) = false := by simp; omega
      have b0 := Below.refl w.heap.size w
      have HK := Known.nil w
      go_enter Try.func7, Try.ntmps7
      go_wp2_with (first | (go_at_call 11; (refine ( cstale_any l _ _ _ _ (GoT.step Hr.out (by (repeat' (first | (with_reducible exact Below.refl _ _) | (with_reducible assumption) | (with_reducible refine ba ?_ _) | (with_reducible refine bdr ?_) | (with_reducible refine bset ?_ _ ?_ _) | (refine bt ?_ (by assumption)) | (simp; done) | (simp; omega)))))).mono ?_); rintro e w1 ⟨rfl, b1⟩; have b9 : Below w.heap.size w _ := bt (by (repeat' (first | (with_reducible exact Below.refl _ _) | (with_reducible assumption) | (with_reducible refine ba ?_ _) | (with_reducible refine bdr ?_) | (with_reducible refine bset ?_ _ ?_ _) | (refine bt ?_ (by assumption)) | (simp; done) | (simp; omega)))) b1; have HK' := Known.step b1 (by (repeat' (first | (with_reducible exact HK) | (with_reducible apply Known.drew) | (with_reducible apply Known.alloc) | (with_reducible apply Known.allocO) | (with_reducible apply Known.setCell)))); replace b0 := b9; clear b9 b1; (try clear kn); (try clear c0 f0 hz); replace HK := HK'; clear HK'; ((try simp only [World.size_alloc, World.size_setCell, World.size_drew] at HK); have kn := HK; simp [Known, setL, NeAll] at kn); obtain ⟨c0, f0⟩ := bcell b0; have hz := b0.size) | (go_at_call 15; (with_reducible refine (cbegun_any  _).mono ?_); rintro e w1 ⟨rfl, b1⟩; have b9 : Below w.heap.size w _ := bt (by (repeat' (first | (with_reducible exact Below.refl _ _) | (with_reducible assumption) | (with_reducible refine ba ?_ _) | (with_reducible refine bdr ?_) | (with_reducible refine bset ?_ _ ?_ _) | (refine bt ?_ (by assumption)) | (simp; done) | (simp; omega)))) b1; have HK' := Known.step b1 (by (repeat' (first | (with_reducible exact HK) | (with_reducible apply Known.drew) | (with_reducible apply Known.alloc) | (with_reducible apply Known.allocO) | (with_reducible apply Known.setCell)))); replace b0 := b9; clear b9 b1; (try clear kn); (try clear c0 f0 hz); replace HK := HK'; clear HK'; ((try simp only [World.size_alloc, World.size_setCell, World.size_drew] at HK); have kn := HK; simp [Known, setL, NeAll] at kn); obtain ⟨c0, f0⟩ := bcell b0; have hz := b0.size) | (go_at_call 18; (with_reducible refine (sless_any ⟨_, _⟩ ⟨_, _⟩ _).mono ?_); rintro e w1 ⟨rfl, b1⟩; have b9 : Below w.heap.size w _ := bt (by (repeat' (first | (with_reducible exact Below.refl _ _) | (with_reducible assumption) | (with_reducible refine ba ?_ _) | (with_reducible refine bdr ?_) | (with_reducible refine bset ?_ _ ?_ _) | (refine bt ?_ (by assumption)) | (simp; done) | (simp; omega)))) b1; have HK' := Known.step b1 (by (repeat' (first | (with_reducible exact HK) | (with_reducible apply Known.drew) | (with_reducible apply Known.alloc) | (with_reducible apply Known.allocO) | (with_reducible apply Known.setCell)))); replace b0 := b9; clear b9 b1; (try clear kn); (try clear c0 f0 hz); replace HK := HK'; clear HK'; ((try simp only [World.size_alloc, World.size_setCell, World.size_drew] at HK); have kn := HK; simp [Known, setL, NeAll] at kn); obtain ⟨c0, f0⟩ := bcell b0; have hz := b0.size))
      go_loopw [9, 7, 8] (fun q f t wr => ∃ (k : Nat) (ff tt : Bool), k ≤ n ∧ q = I k ∧ f = .bool ff ∧ t = .bool tt ∧ Hid (Copy.aboveB x.at_ l false = Copy.aboveB x.at_ (l.drop k) ff) ∧ Hid (Copy.topB (Copy.staleP l).1 0 l false = Copy.topB (Copy.staleP l).1 k (l.drop k) tt) ∧ Below w.heap.size w wr) (fun q _ _ _ => (n - intOf q).toNat)
      case atStart => exact ⟨0, false, false, by omega, rfl, rfl, rfl, Lib.hid rfl, Lib.hid rfl, by (repeat' (first | (with_reducible exact Below.refl _ _) | (with_reducible assumption) | (with_reducible refine ba ?_ _) | (with_reducible refine bdr ?_) | (with_reducible refine bset ?_ _ ?_ _) | (refine bt ?_ (by assumption)) | (simp; done) | (simp; omega)))⟩
      case round =>
        clear HK b0 kn c0 f0 hz
        obtain ⟨k, ff, tt, hk, rfl, rfl, rfl, hF, hT, b0⟩ := hrel
        have HK := Known.nil wr
        by_cases hlk : k < n
        · obtain ⟨b', off', y, hA, hb', -, -, -, hd, d3, d4, d5⟩ := Copy.get Hr.out k hlk
          obtain ⟨rfl, rfl⟩ : b' = b ∧ off' = off := by simpa using hA.symm
          have hF := Lib.hid (hF.out.trans (congrArg (fun z => Copy.aboveB x.at_ z ff) hd))
          have hT := Lib.hid (hT.out.trans (congrArg (fun z => Copy.topB (Copy.staleP l).1 k z tt) hd))
          have hn2 : (k : Int) < (n : Int) := by omega
          clear hd hA
          (((try simp only [World.size_alloc, World.size_setCell, World.size_drew] at HK); have kn := HK; simp [Known, setL, NeAll] at kn); obtain ⟨c0, f0⟩ := bcell b0; have hz := b0.size)
          cases ff <;> cases tt
          all_goals
            go_wp2_with (first | (go_at_call 15; (with_reducible refine (cbegun_any  _).mono ?_); rintro e w1 ⟨rfl, b1⟩; have b9 : Below w.heap.size w _ := bt (by (repeat' (first | (with_reducible exact Below.refl _ _) | (with_reducible assumption) | (with_reducible refine ba ?_ _) | (with_reducible refine bdr ?_) | (with_reducible refine bset ?_ _ ?_ _) | (refine bt ?_ (by assumption)) | (simp; done) | (simp; omega)))) b1; have HK' := Known.step b1 (by (repeat' (first | (with_reducible exact HK) | (with_reducible apply Known.drew) | (with_reducible apply Known.alloc) | (with_reducible apply Known.allocO) | (with_reducible apply Known.setCell)))); replace b0 := b9; clear b9 b1; (try clear kn); (try clear c0 f0 hz); replace HK := HK'; clear HK'; ((try simp only [World.size_alloc, World.size_setCell, World.size_drew] at HK); have kn := HK; simp [Known, setL, NeAll] at kn); obtain ⟨c0, f0⟩ := bcell b0; have hz := b0.size) | (go_at_call 18; (with_reducible refine (sless_any ⟨_, _⟩ ⟨_, _⟩ _).mono ?_); rintro e w1 ⟨rfl, b1⟩; have b9 : Below w.heap.size w _ := bt (by (repeat' (first | (with_reducible exact Below.refl _ _) | (with_reducible assumption) | (with_reducible refine ba ?_ _) | (with_reducible refine bdr ?_) | (with_reducible refine bset ?_ _ ?_ _) | (refine bt ?_ (by assumption)) | (simp; done) | (simp; omega)))) b1; have HK' := Known.step b1 (by (repeat' (first | (with_reducible exact HK) | (with_reducible apply Known.drew) | (with_reducible apply Known.alloc) | (with_reducible apply Known.allocO) | (with_reducible apply Known.setCell)))); replace b0 := b9; clear b9 b1; (try clear kn); (try clear c0 f0 hz); replace HK := HK'; clear HK'; ((try simp only [World.size_alloc, World.size_setCell, World.size_drew] at HK); have kn := HK; simp [Known, setL, NeAll] at kn); obtain ⟨c0, f0⟩ := bcell b0; have hz := b0.size))
            ((try (refine know_here (w0 := w) (by (repeat' (first | (with_reducible exact HK) | (with_reducible apply Known.drew) | (with_reducible apply Known.alloc) | (with_reducible apply Known.allocO) | (with_reducible apply Known.setCell)))) (by (repeat' (first | (with_reducible exact Below.refl _ _) | (with_reducible assumption) | (with_reducible refine ba ?_ _) | (with_reducible refine bdr ?_) | (with_reducible refine bset ?_ _ ?_ _) | (refine bt ?_ (by assumption)) | (simp; done) | (simp; omega)))) (fun HK' b0' => ?_); replace HK := HK'; replace b0 := b0'; clear HK' b0'; (try clear kn); (try clear c0 f0 hz); ((try simp only [World.size_alloc, World.size_setCell, World.size_drew] at HK); have kn := HK; simp [Known, setL, NeAll] at kn); obtain ⟨c0, f0⟩ := bcell b0; have hz := b0.size))
             refine wp_region_quiet_below (by kernel_rfl) (by kernel_rfl) ?_
             repeat (any_goals (first | go_big_quiet_step (first | (go_at_call 15; exact Calls.regrown_of (cbegun_any  _)) | (go_at_call 18; exact Calls.regrown_of (sless_any ⟨_, _⟩ ⟨_, _⟩ _))) | quiet_step (first | (go_at_call 15; exact Calls.regrown_of (cbegun_any  _)) | (go_at_call 18; exact Calls.regrown_of (sless_any ⟨_, _⟩ ⟨_, _⟩ _)))))
             refine wpQuiet_nil ?_
             intro w1 hq
             have b1 := below_of_regrown hq
             clear hq
             have b9 : Below w.heap.size w _ := bt (by (repeat' (first | (with_reducible exact Below.refl _ _) | (with_reducible assumption) | (with_reducible refine ba ?_ _) | (with_reducible refine bdr ?_) | (with_reducible refine bset ?_ _ ?_ _) | (refine bt ?_ (by assumption)) | (simp; done) | (simp; omega)))) b1; have HK' := Known.step b1 (by (repeat' (first | (with_reducible exact HK) | (with_reducible apply Known.drew) | (with_reducible apply Known.alloc) | (with_reducible apply Known.allocO) | (with_reducible apply Known.setCell)))); replace b0 := b9; clear b9 b1; (try clear kn); (try clear c0 f0 hz); replace HK := HK'; clear HK'; ((try simp only [World.size_alloc, World.size_setCell, World.size_drew] at HK); have kn := HK; simp [Known, setL, NeAll] at kn); obtain ⟨c0, f0⟩ := bcell b0; have hz := b0.size)
            go_wp2_with (first | (go_at_call 19; (with_reducible refine (inSet_any ⟨(Copy.staleP l).1, hlt⟩ k (by omega) _).mono ?_); rintro e w1 ⟨rfl, rfl⟩) | (go_at_call 15; (with_reducible refine (cbegun_any  _).mono ?_); rintro e w1 ⟨rfl, b1⟩; have b9 : Below w.heap.size w _ := bt (by (repeat' (first | (with_reducible exact Below.refl _ _) | (with_reducible assumption) | (with_reducible refine ba ?_ _) | (with_reducible refine bdr ?_) | (with_reducible refine bset ?_ _ ?_ _) | (refine bt ?_ (by assumption)) | (simp; done) | (simp; omega)))) b1; have HK' := Known.step b1 (by (repeat' (first | (with_reducible exact HK) | (with_reducible apply Known.drew) | (with_reducible apply Known.alloc) | (with_reducible apply Known.allocO) | (with_reducible apply Known.setCell)))); replace b0 := b9; clear b9 b1; (try clear kn); (try clear c0 f0 hz); replace HK := HK'; clear HK'; ((try simp only [World.size_alloc, World.size_setCell, World.size_drew] at HK); have kn := HK; simp [Known, setL, NeAll] at kn); obtain ⟨c0, f0⟩ := bcell b0; have hz := b0.size) | (go_at_call 18; (with_reducible refine (sless_any ⟨_, _⟩ ⟨_, _⟩ _).mono ?_); rintro e w1 ⟨rfl, b1⟩; have b9 : Below w.heap.size w _ := bt (by (repeat' (first | (with_reducible exact Below.refl _ _) | (with_reducible assumption) | (with_reducible refine ba ?_ _) | (with_reducible refine bdr ?_) | (with_reducible refine bset ?_ _ ?_ _) | (refine bt ?_ (by assumption)) | (simp; done) | (simp; omega)))) b1; have HK' := Known.step b1 (by (repeat' (first | (with_reducible exact HK) | (with_reducible apply Known.drew) | (with_reducible apply Known.alloc) | (with_reducible apply Known.allocO) | (with_reducible apply Known.setCell)))); replace b0 := b9; clear b9 b1; (try clear kn); (try clear c0 f0 hz); replace HK := HK'; clear HK'; ((try simp only [World.size_alloc, World.size_setCell, World.size_drew] at HK); have kn := HK; simp [Known, setL, NeAll] at kn); obtain ⟨c0, f0⟩ := bcell b0; have hz := b0.size))
            go_roundw
            case rel =>
              refine ⟨k + 1, ?_⟩
              apply Exists.intro
              apply Exists.intro
              refine ⟨by omega, by go_num, by with_reducible rfl, by with_reducible rfl, ?_, ?_, by (repeat' (first | (with_reducible exact Below.refl _ _) | (with_reducible assumption) | (with_reducible refine ba ?_ _) | (with_reducible refine bdr ?_) | (with_reducible refine bset ?_ _ ?_ _) | (refine bt ?_ (by assumption)) | (simp; done) | (simp; omega)))⟩
              · refine Lib.hid ?_
                rw [hF.out]
                simp [Copy.aboveB]
              · refine Lib.hid ?_
                rw [hT.out]
                simp [Copy.topB]
            case measure => simp [intOf]; omega
        · obtain rfl : k = n := by omega
          have hF : Copy.aboveB x.at_ l false = ff := hF.out.trans (by rw [ln.out, List.drop_length]; rfl)
          have hT : Copy.topB (Copy.staleP l).1 0 l false = tt := hT.out.trans (by rw [ln.out, List.drop_length]; rfl)
          obtain ⟨hl1, hl2⟩ := hlaw.out
          rw [hT] at hl1
          rw [hF] at hl2
          subst hl1
          clear hF hT
          (((try simp only [World.size_alloc, World.size_setCell, World.size_drew] at HK); have kn := HK; simp [Known, setL, NeAll] at kn); obtain ⟨c0, f0⟩ := bcell b0; have hz := b0.size)
          go_wp2_with (first | (go_at_call 19; (with_reducible refine (inSet_any ⟨(Copy.staleP l).1, hlt⟩ j (by omega) _).mono ?_); rintro e w1 ⟨rfl, rfl⟩) | (go_at_call 15; (with_reducible refine (cbegun_any  _).mono ?_); rintro e w1 ⟨rfl, b1⟩; have b9 : Below w.heap.size w _ := bt (by (repeat' (first | (with_reducible exact Below.refl _ _) | (with_reducible assumption) | (with_reducible refine ba ?_ _) | (with_reducible refine bdr ?_) | (with_reducible refine bset ?_ _ ?_ _) | (refine bt ?_ (by assumption)) | (simp; done) | (simp; omega)))) b1; have HK' := Known.step b1 (by (repeat' (first | (with_reducible exact HK) | (with_reducible apply Known.drew) | (with_reducible apply Known.alloc) | (with_reducible apply Known.allocO) | (with_reducible apply Known.setCell)))); replace b0 := b9; clear b9 b1; (try clear kn); (try clear c0 f0 hz); replace HK := HK'; clear HK'; ((try simp only [World.size_alloc, World.size_setCell, World.size_drew] at HK); have kn := HK; simp [Known, setL, NeAll] at kn); obtain ⟨c0, f0⟩ := bcell b0; have hz := b0.size) | (go_at_call 18; (with_reducible refine (sless_any ⟨_, _⟩ ⟨_, _⟩ _).mono ?_); rintro e w1 ⟨rfl, b1⟩; have b9 : Below w.heap.size w _ := bt (by (repeat' (first | (with_reducible exact Below.refl _ _) | (with_reducible assumption) | (with_reducible refine ba ?_ _) | (with_reducible refine bdr ?_) | (with_reducible refine bset ?_ _ ?_ _) | (refine bt ?_ (by assumption)) | (simp; done) | (simp; omega)))) b1; have HK' := Known.step b1 (by (repeat' (first | (with_reducible exact HK) | (with_reducible apply Known.drew) | (with_reducible apply Known.alloc) | (with_reducible apply Known.allocO) | (with_reducible apply Known.setCell)))); replace b0 := b9; clear b9 b1; (try clear kn); (try clear c0 f0 hz); replace HK := HK'; clear HK'; ((try simp only [World.size_alloc, World.size_setCell, World.size_drew] at HK); have kn := HK; simp [Known, setL, NeAll] at kn); obtain ⟨c0, f0⟩ := bcell b0; have hz := b0.size))
          all_goals first | (go_ret; refine ⟨rb ?_, by (repeat' (first | (with_reducible exact Below.refl _ _) | (with_reducible assumption) | (with_reducible refine ba ?_ _) | (with_reducible refine bdr ?_) | (with_reducible refine bset ?_ _ ?_ _) | (refine bt ?_ (by assumption)) | (simp; done) | (simp; omega)))⟩; (first | rfl | (simp; done) | (simp [*]; done) | ((try simp only [wi_iff, wi_iffF, bne_iff_ne, beq_iff_eq, Bool.not_eq_true', bne_eq_false_iff_eq, beq_eq_false_iff_ne, ne_eq, Bool.not_eq_true, Bool.not_eq_false', Bool.not_true, Bool.not_false, decide_eq_true_eq, decide_eq_false_iff_not, Bool.and_eq_true, Bool.or_eq_true, Bool.and_eq_false_imp, Bool.or_eq_false_iff] at *); simp; omega) | (exfalso; (try simp only [wi_iff, wi_iffF, bne_iff_ne, beq_iff_eq, Bool.not_eq_true', bne_eq_false_iff_eq, beq_eq_false_iff_ne, ne_eq, Bool.not_eq_true, Bool.not_eq_false', Bool.not_true, Bool.not_false, decide_eq_true_eq, decide_eq_false_iff_not, Bool.and_eq_true, Bool.or_eq_true, Bool.and_eq_false_imp, Bool.or_eq_false_iff] at *); omega) | (simp_all; done) | (simp_all; omega))) | (exfalso; (try simp only [wi_iff, wi_iffF, bne_iff_ne, beq_iff_eq, Bool.not_eq_true', bne_eq_false_iff_eq, beq_eq_false_iff_ne, ne_eq, Bool.not_eq_true, Bool.not_eq_false', Bool.not_true, Bool.not_false, decide_eq_true_eq, decide_eq_false_iff_not, Bool.and_eq_true, Bool.or_eq_true, Bool.and_eq_false_imp, Bool.or_eq_false_iff] at *); omega) | (exfalso; simp_all; done) | (exfalso; simp_all; omega) | (go_ret; refine ⟨rb ?_, by (repeat' (first | (with_reducible exact Below.refl _ _) | (with_reducible assumption) | (with_reducible refine ba ?_ _) | (with_reducible refine bdr ?_) | (with_reducible refine bset ?_ _ ?_ _) | (refine bt ?_ (by assumption)) | (simp; done) | (simp; omega)))⟩) | skip
    · have hi2 : decide (i < 0) = true ∨ (decide (i < 0) = false ∧ decide ((n : Int) ≤ i) = true) := by
        simp only [decide_eq_true_eq, decide_eq_false_iff_not]; omega
      rcases hi2 with i0 | ⟨i0, i1⟩
      all_goals
        have b0 := Below.refl w.heap.size w
        have HK := Known.nil w
        go_enter Try.func7, Try.ntmps7
        go_wp2_with (first | (go_at_call 11; (refine ( cstale_any l _ _ _ _ (GoT.step Hr.out (by (repeat' (first | (with_reducible exact Below.refl _ _) | (with_reducible assumption) | (with_reducible refine ba ?_ _) | (with_reducible refine bdr ?_) | (with_reducible refine bset ?_ _ ?_ _) | (refine bt ?_ (by assumption)) | (simp; done) | (simp; omega)))))).mono ?_); rintro e w1 ⟨rfl, b1⟩; have b9 : Below w.heap.size w _ := bt (by (repeat' (first | (with_reducible exact Below.refl _ _) | (with_reducible assumption) | (with_reducible refine ba ?_ _) | (with_reducible refine bdr ?_) | (with_reducible refine bset ?_ _ ?_ _) | (refine bt ?_ (by assumption)) | (simp; done) | (simp; omega)))) b1; have HK' := Known.step b1 (by (repeat' (first | (with_reducible exact HK) | (with_reducible apply Known.drew) | (with_reducible apply Known.alloc) | (with_reducible apply Known.allocO) | (with_reducible apply Known.setCell)))); replace b0 := b9; clear b9 b1; (try clear kn); (try clear c0 f0 hz); replace HK := HK'; clear HK'; ((try simp only [World.size_alloc, World.size_setCell, World.size_drew] at HK); have kn := HK; simp [Known, setL, NeAll] at kn); obtain ⟨c0, f0⟩ := bcell b0; have hz := b0.size) | (go_at_call 15; (with_reducible refine (cbegun_any  _).mono ?_); rintro e w1 ⟨rfl, b1⟩; have b9 : Below w.heap.size w _ := bt (by (repeat' (first | (with_reducible exact Below.refl _ _) | (with_reducible assumption) | (with_reducible refine ba ?_ _) | (with_reducible refine bdr ?_) | (with_reducible refine bset ?_ _ ?_ _) | (refine bt ?_ (by assumption)) | (simp; done) | (simp; omega)))) b1; have HK' := Known.step b1 (by (repeat' (first | (with_reducible exact HK) | (with_reducible apply Known.drew) | (with_reducible apply Known.alloc) | (with_reducible apply Known.allocO) | (with_reducible apply Known.setCell)))); replace b0 := b9; clear b9 b1; (try clear kn); (try clear c0 f0 hz); replace HK := HK'; clear HK'; ((try simp only [World.size_alloc, World.size_setCell, World.size_drew] at HK); have kn := HK; simp [Known, setL, NeAll] at kn); obtain ⟨c0, f0⟩ := bcell b0; have hz := b0.size) | (go_at_call 18; (with_reducible refine (sless_any ⟨_, _⟩ ⟨_, _⟩ _).mono ?_); rintro e w1 ⟨rfl, b1⟩; have b9 : Below w.heap.size w _ := bt (by (repeat' (first | (with_reducible exact Below.refl _ _) | (with_reducible assumption) | (with_reducible refine ba ?_ _) | (with_reducible refine bdr ?_) | (with_reducible refine bset ?_ _ ?_ _) | (refine bt ?_ (by assumption)) | (simp; done) | (simp; omega)))) b1; have HK' := Known.step b1 (by (repeat' (first | (with_reducible exact HK) | (with_reducible apply Known.drew) | (with_reducible apply Known.alloc) | (with_reducible apply Known.allocO) | (with_reducible apply Known.setCell)))); replace b0 := b9; clear b9 b1; (try clear kn); (try clear c0 f0 hz); replace HK := HK'; clear HK'; ((try simp only [World.size_alloc, World.size_setCell, World.size_drew] at HK); have kn := HK; simp [Known, setL, NeAll] at kn); obtain ⟨c0, f0⟩ := bcell b0; have hz := b0.size))
        all_goals first | (go_ret; refine ⟨rb ?_, by (repeat' (first | (with_reducible exact Below.refl _ _) | (with_reducible assumption) | (with_reducible refine ba ?_ _) | (with_reducible refine bdr ?_) | (with_reducible refine bset ?_ _ ?_ _) | (refine bt ?_ (by assumption)) | (simp; done) | (simp; omega)))⟩; (first | rfl | (simp; done) | (simp [*]; done) | ((try simp only [wi_iff, wi_iffF, bne_iff_ne, beq_iff_eq, Bool.not_eq_true', bne_eq_false_iff_eq, beq_eq_false_iff_ne, ne_eq, Bool.not_eq_true, Bool.not_eq_false', Bool.not_true, Bool.not_false, decide_eq_true_eq, decide_eq_false_iff_not, Bool.and_eq_true, Bool.or_eq_true, Bool.and_eq_false_imp, Bool.or_eq_false_iff] at *); simp; omega) | (exfalso; (try simp only [wi_iff, wi_iffF, bne_iff_ne, beq_iff_eq, Bool.not_eq_true', bne_eq_false_iff_eq, beq_eq_false_iff_ne, ne_eq, Bool.not_eq_true, Bool.not_eq_false', Bool.not_true, Bool.not_false, decide_eq_true_eq, decide_eq_false_iff_not, Bool.and_eq_true, Bool.or_eq_true, Bool.and_eq_false_imp, Bool.or_eq_false_iff] at *); omega) | (simp_all; done) | (simp_all; omega))) | (exfalso; (try simp only [wi_iff, wi_iffF, bne_iff_ne, beq_iff_eq, Bool.not_eq_true', bne_eq_false_iff_eq, beq_eq_false_iff_ne, ne_eq, Bool.not_eq_true, Bool.not_eq_false', Bool.not_true, Bool.not_false, decide_eq_true_eq, decide_eq_false_iff_not, Bool.and_eq_true, Bool.or_eq_true, Bool.and_eq_false_imp, Bool.or_eq_false_iff] at *); omega) | (exfalso; simp_all; done) | (exfalso; simp_all; omega) | (go_ret; refine ⟨rb ?_, by (repeat' (first | (with_reducible exact Below.refl _ _) | (with_reducible assumption) | (with_reducible refine ba ?_ _) | (with_reducible refine bdr ?_) | (with_reducible refine bset ?_ _ ?_ _) | (refine bt ?_ (by assumption)) | (simp; done) | (simp; omega)))⟩) | skip
theorem CopiesStale_own : ownKnob Try.prog.godebug = none := by kernel_rfl
theorem CopiesStale_laidOut : laidOutB Try.prog = true := by kernel_rfl
set_option maxRecDepth 100000 in
set_option linter.unusedVariables false in
theorem CopiesStale_lifted (os : Os) (started : os.Started) (H : Type) (enc : TypeId × Value → H) :
    ReturnsInHanded {} Try.checked os 7 .any (Rows.copiesStaleSpec.pre6 enc Try.prog Try.f7 Rows.copiesStaleRow.domain false) (Rows.copiesStaleSpec.post enc Try.prog Try.f7 false true false false) := by
  refine returnsInHanded_of_change (C := Try.checked) CopiesStale_own started (by kernel_rfl) Try.func7
    (ChangeSpec.witness6 (enc := enc) (C := Try.checked) false ⟨#[], #[.slice none 0 0, .int .i64 0], []⟩ 8 (by kernel_rfl) (by kernel_rfl) (by kernel_rfl) (by kernel_rfl)) ?_
  intro W base args ds gs before hval0 hW hcnd _
  have hval : ∀ (j : Nat) t v, Try.f7.params[j]? = some t → args[j]? = some v → Value.okWide Try.prog W .any base t v := hval0
  have hW' := hW
  obtain ⟨p, q, hA0, hV, rfl, hfz, hnd⟩ := hW
  have hA : DataW.TrodAll enc Try.prog W 0 (fun _ => true) true Try.f7.params.toList args.toList ds p := hA0
  rw [Try.params7] at hA hval
  obtain ⟨v0, vs0, d0, ds0, p0, q0, hargs, rfl, rfl, h0, r0⟩ := trodAll_cons hA
  obtain ⟨v1, vs1, d1, ds1, p1, q1, rfl, rfl, rfl, h1, r1⟩ := trodAll_cons r0
  obtain ⟨rfl, rfl, rfl⟩ := trodAll_nil r1
  obtain rfl : args = #[v0, v1] := by cases args; simp_all
  obtain ⟨rfl, rfl⟩ := trodVars_none hV
  have k0 := h0
  have lt0 : ∀ x ∈ p0, x.block < W.heap.size := by obtain ⟨m, hm⟩ := k0; exact DataW.trod_lt m _ _ _ hm
  obtain ⟨x0, A0, n0, c0, rfl, w0⟩ := open_list opens_LCopy Try.underlying26 (hval 0 26 v0 rfl rfl) h0
  have k1 := h1
  have lt1 : ∀ x ∈ p1, x.block < W.heap.size := by obtain ⟨m, hm⟩ := k1; exact DataW.trod_lt m _ _ _ hm
  obtain ⟨a1, rfl, e1, e1', w1⟩ := open_int Try.underlying3 (hval 1 3 v1 rfl rfl) h1
  clear hA0 hval0
  refine (CopiesStale_walk (w := W) x0 A0 n0 c0 w0 a1 w1).mono fun e W' ⟨he, bel⟩ => ?_
  subst he
  exact ⟨_, rfl, _, _, _, [], _, [], hW', trodAll_mk1 (shut_bool Try.underlying4 _), (trodAll_cons_mk (Below.trod CopiesStale_laidOut (by kernel_rfl) (of_decide_eq_true (by kernel_rfl)) k0 bel lt0) (trodAll_cons_mk (Below.trod CopiesStale_laidOut (by kernel_rfl) (of_decide_eq_true (by kernel_rfl)) k1 bel lt1) trodAll_mk0)), rfl, bel.frame _, fun h => by cases h⟩
theorem CopiesStale_closed : joinedFacts Try.prog 7 Try.f7 Rows.copiesStaleSpec Rows.copiesStaleRow = true := by
  unfold joinedFacts
  repeat' (with_reducible refine and_tt ?_ ?_)
  all_goals as_aux_lemma => kernel_rfl
theorem CopiesStale_over : Rows.copiesStaleRow.holds Try.pinned (OpenSpec.ofChange Rows.copiesStaleSpec) :=
  OpenClaim.holds_of_wide 7 Try.f7 rfl rfl rfl rfl rfl rfl rfl ⟨rfl, rfl, rfl, rfl, rfl⟩ rfl rfl rfl rfl rfl (by as_aux_lemma => kernel_rfl) Try.func7 CopiesStale_closed
    (of_decide_eq_true (by as_aux_lemma => kernel_rfl)) (by unfold Func.isWrapper; rw [if_neg (of_decide_eq_false (by as_aux_lemma => kernel_rfl))]; exact ⟨rfl, rfl⟩)
    (fun os started H enc _ => CopiesStale_lifted os started H enc)
theorem CopiesStale_holds : Rows.CopiesStaleSaid := CopiesStale_over
end Go.Proofs.Ytnfffbgnjobkfaa
