/- The reference's comparison of two lists of ints: true exactly if they are one. No condition. -/
import Derived.Test.YtikbignmpoefkaaRows
import Derived.Test.YtikbignmpoefkaaGoT
import Derived.WalkKit
import Derived.ProofKit
import Derived.OpenShut
import Derived.ShutString
import Derived.ChangeOld
import Derived.Below
import Derived.Lib.Hide
import Derived.WalkLawsBesides
import Derived.WalkSpells
import Derived.Deep.QuietTactic
import Derived.BigQuiet
import Derived.Outline
namespace Go.Proofs.Ytikbignmpoefkaa
open Go.ChangeShapes Go.WideShapes Go.ChangeAt Go.RowKit
open Go.ChangeMaps (open_string shut_string)
set_option maxRecDepth 100000 in
set_option maxHeartbeats 400000 in
theorem sameInts_any (xs ys : List Int) (A A' : Option Addr) (n n' c c' : Nat) (w : World) (hx : GoT.rep w w.heap.size [.slice A n c] xs) (hy : GoT.rep w w.heap.size [.slice A' n' c'] ys) :
    Calls Try.prog 19 #[.slice A n c, .slice A' n' c'] w fun e w' => e = .returned (.bool (decide (xs = ys))) ∧ Below w.heap.size w w' := by
  obtain ⟨xn, x1, x2, x3, x4⟩ := ints_open hx
  obtain ⟨yn, y1, y2, y3, y4⟩ := ints_open hy
  clear hx hy
  by_cases hl : n = n'
  · subst hl
    have Xn := Lib.hid xn
    have Yn := Lib.hid yn
    have X4 := Lib.hid x4
    have Y4 := Lib.hid y4
    clear x4 y4 xn yn x3 y3
    go_enter Try.func19, Try.ntmps19
    go_wp2
    go_loopw [5] (fun i wr => ∃ k : Nat, k ≤ n ∧ i = I k ∧ Hid (xs.take k = ys.take k) ∧ Below w.heap.size w wr) (fun i _ => (n - intOf i).toNat)
    case atStart => exact ⟨0, by omega, rfl, by simp [Hid], Below.refl _ _⟩
    case round =>
      obtain ⟨k, hk, rfl, Ht, b1⟩ := hrel
      by_cases hlt : k < n
      · have hxl : k < xs.length := by have := Xn.out; omega
        have hyl : k < ys.length := by have := Yn.out; omega
        rcases X4.out with h | ⟨b, off, rfl, hb, hc⟩
        · subst h; simp at hxl
        rcases Y4.out with h | ⟨b', off', rfl, hb', hc'⟩
        · subst h; simp at hyl
        have d1 := (b1.cell (p := ⟨b, off + k, none⟩) hb).trans (hc k hxl)
        have d2 := (b1.cell (p := ⟨b', off' + k, none⟩) hb').trans (hc' k hyl)
        have hn : (k : Int) < (n : Int) := by omega
        have hk1 := List.take_succ_eq_append_getElem hxl
        have hk2 := List.take_succ_eq_append_getElem hyl
        by_cases he : xs[k] = ys[k]
        · have Hs : Hid (xs.take (k + 1) = ys.take (k + 1)) := Lib.hid (by rw [hk1, hk2, Ht.out, he])
          have ht : (xs[k] != ys[k]) = false := by simpa using he
          clear hk1 hk2 he hc hc' X4 Y4
          generalize xs[k] = u at *
          generalize ys[k] = v at *
          go_wp2
          (refine wp_region_quiet_below (by kernel_rfl) (by kernel_rfl) ?_
           repeat (any_goals (first | go_big_quiet_step (fail) | quiet_step (fail)))
           refine wpQuiet_nil ?_
           intro w2 hq2
           have b2 := below_of_regrown hq2
           clear hq2
           obtain ⟨c2, f2⟩ := bcell b2)
          go_wp2
          go_roundw
          case rel => exact ⟨k + 1, by omega, by go_num, Hs, by (repeat' (first | exact Below.refl _ _ | assumption | (refine ba ?_ _) | (refine bdr ?_) | (refine bset ?_ _ ?_ _) | (refine bt ?_ (by assumption)) | (simp; done) | (simp; omega)))⟩
          case measure => simp [intOf]; omega
        · have hne : Hid (decide (xs = ys) = false) := Lib.hid (decide_eq_false (by rintro rfl; exact he rfl))
          have ht : (xs[k] != ys[k]) = true := by simpa using he
          clear hk1 hk2 he hc hc' X4 Y4
          generalize xs[k] = u at *
          generalize ys[k] = v at *
          go_wp2
          (refine wp_region_quiet_below (by kernel_rfl) (by kernel_rfl) ?_
           repeat (any_goals (first | go_big_quiet_step (fail) | quiet_step (fail)))
           refine wpQuiet_nil ?_
           intro w2 hq2
           have b2 := below_of_regrown hq2
           clear hq2
           obtain ⟨c2, f2⟩ := bcell b2)
          go_wp2
          go_ret
          exact ⟨by rw [hne.out]; rfl, by (repeat' (first | exact Below.refl _ _ | assumption | (refine ba ?_ _) | (refine bdr ?_) | (refine bset ?_ _ ?_ _) | (refine bt ?_ (by assumption)) | (simp; done) | (simp; omega)))⟩
      · obtain rfl : k = n := by omega
        have he : Hid (decide (xs = ys) = true) := Lib.hid (by
          have h := Ht.out
          have h1 := Xn.out
          have h2 := Yn.out
          rw [List.take_of_length_le (by omega), List.take_of_length_le (by omega)] at h
          exact decide_eq_true h)
        go_wp2
        go_ret
        exact ⟨by rw [he.out]; rfl, by (repeat' (first | exact Below.refl _ _ | assumption | (refine ba ?_ _) | (refine bdr ?_) | (refine bset ?_ _ ?_ _) | (refine bt ?_ (by assumption)) | (simp; done) | (simp; omega)))⟩
  · have hne : decide (xs = ys) = false := decide_eq_false (by rintro rfl; exact hl (by omega))
    rw [hne]
    have ht : ((n : Int) != (n' : Int)) = true := by rw [bne_iff_ne]; omega
    clear hne x4 y4 xn yn
    go_enter Try.func19, Try.ntmps19
    go_wp2
    go_ret
    exact ⟨rfl, by (repeat' (first | exact Below.refl _ _ | assumption | (refine ba ?_ _) | (refine bdr ?_) | (refine bset ?_ _ ?_ _) | (refine bt ?_ (by assumption)) | (simp; done) | (simp; omega)))⟩
end Go.Proofs.Ytikbignmpoefkaa
