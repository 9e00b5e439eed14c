/- Contracts of package layout: what each call returns. No condition. -/
import Derived.Test.YtikbignmpoefkaaRows
import Derived.Test.YtikbignmpoefkaaLayoutM
import Derived.WalkKit
import Derived.ProofKit
import Derived.OpenShut
import Derived.ShutString
import Derived.ChangeOld
import Derived.Below
import Derived.Lib.Hide
import Derived.WalkLawsBesides
import Derived.WalkSpells
import Derived.Deep.QuietTactic
import Derived.BigQuiet
import Derived.Deep.OwnRows
namespace Go.Proofs.Ytikbignmpoefkaa
open Go.ChangeShapes Go.WideShapes Go.ChangeAt Go.RowKit
open Go.ChangeMaps (open_string shut_string)

theorem within_any (n lo hi : Int) (w : World) : Calls Try.prog 23 #[I n, I lo, I hi] w fun e w' => e = .returned (.bool (wi n lo hi)) ∧ w = w' := by
  by_cases h1 : lo ≤ n
  · by_cases h2 : n ≤ hi
    · rw [wi_yes ⟨h1, h2⟩]
      go_enter Try.func23, Try.ntmps23
      go_wp2
      go_ret
      exact ⟨by simp, rfl⟩
    · rw [wi_no (fun h => h2 h.2)]
      go_enter Try.func23, Try.ntmps23
      go_wp2
      go_ret
      exact ⟨by simp, rfl⟩
  · rw [wi_no (fun h => h1 h.1)]
    go_enter Try.func23, Try.ntmps23
    go_wp2
    go_ret
    exact ⟨rfl, rfl⟩
theorem pieces_any (l : Layout) (hl : l.inB ∧ l.inC) (w : World) : Calls Try.prog 24 #[l.v] w fun e w' => e = .returned (I (l.data + l.more)) ∧ Below w.heap.size w w' := by
  obtain ⟨⟨h1, h2⟩, h3, h4⟩ := hl
  go_enter Try.func24, Try.ntmps24
  go_wp2
  go_ret
  exact ⟨rfl, (Below.refl _ _).alloc (Nat.le_refl _) _⟩
theorem check_any (l : Layout) (w : World) : Calls Try.prog 17 #[l.v] w fun e w' => e = .returned (I l.checkE) ∧ Below w.heap.size w w' := by
  by_cases hA : l.inA
  · have wA := wi_yes hA
    by_cases hB : l.inB
    · have wB := wi_yes hB
      by_cases hC : l.inC
      · have wC := wi_yes hC
        have key : (l.checkE = 8 ∧ decide (l.nodes < l.data + l.more) = true) ∨ (l.checkE = 0 ∧ decide (l.nodes < l.data + l.more) = false ∧ wi l.turn 0 (l.nodes - 1) = true) ∨ (l.checkE = 3 ∧ decide (l.nodes < l.data + l.more) = false ∧ wi l.turn 0 (l.nodes - 1) = false) := by
          rw [Layout.checkE, if_pos ⟨hA, hB, hC⟩]
          by_cases hD : l.nodes < l.data + l.more
          · exact .inl ⟨if_pos hD, decide_eq_true hD⟩
          · rw [if_neg hD]
            by_cases hE : 0 ≤ l.turn ∧ l.turn ≤ l.nodes - 1
            · exact .inr (.inl ⟨if_pos hE, decide_eq_false hD, wi_yes hE⟩)
            · exact .inr (.inr ⟨if_neg hE, decide_eq_false hD, wi_no hE⟩)
        obtain ⟨a1, a2⟩ := hA
        have hBC := Lib.hid (And.intro hB hC)
        obtain ⟨a3, a4⟩ := hB
        obtain ⟨a5, a6⟩ := hC
        rcases key with ⟨hv, hd⟩ | ⟨hv, hd, hE⟩ | ⟨hv, hd, hE⟩
        all_goals
          rw [hv]
          clear hv
          go_enter Try.func17, Try.ntmps17
          go_wp2_with (go_at_call 23; (with_reducible refine (within_any _ _ _ _).mono ?_); rintro e w1 ⟨rfl, rfl⟩)
          (refine wp_region_quiet_below (by kernel_rfl) (by kernel_rfl) ?_
           repeat (any_goals (first | go_big_quiet_step (first | (go_at_call 24; exact Calls.regrown_of (pieces_any _ hBC.out _))) | quiet_step (first | (go_at_call 24; exact Calls.regrown_of (pieces_any _ hBC.out _)))))
           refine wpQuiet_nil ?_
           intro w1 hq1
           have b1 := below_of_regrown hq1
           clear hq1
           obtain ⟨c1, f1⟩ := bcell b1)
          go_wp2_with (go_at_call 23; (with_reducible refine (within_any _ _ _ _).mono ?_); rintro e w1 ⟨rfl, rfl⟩)
          go_ret
          exact ⟨rfl, by (repeat' (first | exact Below.refl _ _ | assumption | (refine ba ?_ _) | (refine bdr ?_) | (refine bset ?_ _ ?_ _) | (refine bt ?_ (by assumption)) | (simp; done) | (simp; omega)))⟩
      · have wC := wi_no hC
        have hv : l.checkE = 3 := if_neg (fun h => hC h.2.2)
        rw [hv]
        clear hv
        go_enter Try.func17, Try.ntmps17
        go_wp2_with (go_at_call 23; (with_reducible refine (within_any _ _ _ _).mono ?_); rintro e w1 ⟨rfl, rfl⟩)
        go_ret
        exact ⟨rfl, by (repeat' (first | exact Below.refl _ _ | assumption | (refine ba ?_ _) | (refine bdr ?_) | (refine bset ?_ _ ?_ _) | (refine bt ?_ (by assumption)) | (simp; done) | (simp; omega)))⟩
    · have wB := wi_no hB
      have hv : l.checkE = 3 := if_neg (fun h => hB h.2.1)
      rw [hv]
      clear hv
      go_enter Try.func17, Try.ntmps17
      go_wp2_with (go_at_call 23; (with_reducible refine (within_any _ _ _ _).mono ?_); rintro e w1 ⟨rfl, rfl⟩)
      go_ret
      exact ⟨rfl, by (repeat' (first | exact Below.refl _ _ | assumption | (refine ba ?_ _) | (refine bdr ?_) | (refine bset ?_ _ ?_ _) | (refine bt ?_ (by assumption)) | (simp; done) | (simp; omega)))⟩
  · have wA := wi_no hA
    have hv : l.checkE = 3 := if_neg (fun h => hA h.1)
    rw [hv]
    clear hv
    go_enter Try.func17, Try.ntmps17
    go_wp2_with (go_at_call 23; (with_reducible refine (within_any _ _ _ _).mono ?_); rintro e w1 ⟨rfl, rfl⟩)
    go_ret
    exact ⟨rfl, by (repeat' (first | exact Below.refl _ _ | assumption | (refine ba ?_ _) | (refine bdr ?_) | (refine bset ?_ _ ?_ _) | (refine bt ?_ (by assumption)) | (simp; done) | (simp; omega)))⟩

theorem stripe_any (n : Int) (w : World) : Calls Try.prog 22 #[I n] w fun e w' => e = .returned (.bool (wi n 0 63)) ∧ w = w' := by
  go_enter Try.func22, Try.ntmps22
  go_wp2_with (go_at_call 23; (with_reducible refine (within_any _ _ _ _).mono ?_); rintro e w1 ⟨rfl, rfl⟩)
  go_ret
  exact ⟨rfl, rfl⟩
/-- The four cells of a layout in a block. -/
def LayoutAt (w : World) (b : Nat) (l : Layout) : Prop := w.cell? ⟨b, 0, none⟩ = some (I l.nodes) ∧ w.cell? ⟨b, 1, none⟩ = some (I l.data) ∧ w.cell? ⟨b, 2, none⟩ = some (I l.more) ∧ w.cell? ⟨b, 3, none⟩ = some (I l.turn)
theorem node1_any (l : Layout) (hl : l.checkE = 0) (s p : Int) (b1 b2 b3 : Nat) (w : World) (h1 : w.cell? ⟨b1, 0, none⟩ = some (I s)) (h2 : w.cell? ⟨b2, 0, none⟩ = some (I p)) (h3 : LayoutAt w b3 l) :
    Calls Try.prog 21 #[.pointer (some ⟨b1, 0, none⟩), .pointer (some ⟨b2, 0, none⟩), .pointer (some ⟨b3, 0, none⟩)] w fun e w' => e = .returned (.bool (l.okNode s p)) ∧ Below w.heap.size w w' := by
  obtain ⟨⟨g1, g2⟩, hB, hC, g3, _⟩ := Layout.good hl
  have hBC := Lib.hid (And.intro hB hC)
  obtain ⟨g5, g6⟩ := hB
  obtain ⟨g7, g8⟩ := hC
  obtain ⟨c0, c1, c2, c3⟩ := h3
  clear hl
  unfold Layout.okNode
  cases hs : wi s 0 63
  · go_enter Try.func21, Try.ntmps21
    go_wp2
    (refine wp_region_quiet_below (by kernel_rfl) (by kernel_rfl) ?_
     repeat (any_goals (first | go_big_quiet_step (first | (go_at_call 22; exact Calls.regrown_same (stripe_any _ _))) | quiet_step (first | (go_at_call 22; exact Calls.regrown_same (stripe_any _ _)))))
     refine wpQuiet_nil ?_
     intro w1 hq1
     have b1 := below_of_regrown hq1
     clear hq1
     obtain ⟨c1, f1⟩ := bcell b1)
    go_wp2
    go_ret
    exact ⟨rfl, by (repeat' (first | exact Below.refl _ _ | assumption | (refine ba ?_ _) | (refine bdr ?_) | (refine bset ?_ _ ?_ _) | (refine bt ?_ (by assumption)) | (simp; done) | (simp; omega)))⟩
  · go_enter Try.func21, Try.ntmps21
    go_wp2
    (refine wp_region_quiet_below (by kernel_rfl) (by kernel_rfl) ?_
     repeat (any_goals (first | go_big_quiet_step (first | (go_at_call 22; exact Calls.regrown_same (stripe_any _ _)) | (go_at_call 24; exact Calls.regrown_of (pieces_any _ hBC.out _)) | (go_at_call 23; exact Calls.regrown_same (within_any _ _ _ _))) | quiet_step (first | (go_at_call 22; exact Calls.regrown_same (stripe_any _ _)) | (go_at_call 24; exact Calls.regrown_of (pieces_any _ hBC.out _)) | (go_at_call 23; exact Calls.regrown_same (within_any _ _ _ _)))))
     refine wpQuiet_nil ?_
     intro w1 hq1
     have b1 := below_of_regrown hq1
     clear hq1
     obtain ⟨c1, f1⟩ := bcell b1)
    go_wp2
    go_ret
    exact ⟨by simp, by (repeat' (first | exact Below.refl _ _ | assumption | (refine ba ?_ _) | (refine bdr ?_) | (refine bset ?_ _ ?_ _) | (refine bt ?_ (by assumption)) | (simp; done) | (simp; omega)))⟩
theorem raw_any (l : Layout) (hl : l.checkE = 0) (s p : Int) (hs : 0 ≤ s ∧ s ≤ 1000) (hp : 0 ≤ p ∧ p ≤ 1000) (w : World) :
    Calls Try.prog 25 #[l.v, I s, I p] w fun e w' => e = .returned (I (l.raw s p)) ∧ Below w.heap.size w w' := by
  obtain ⟨⟨g1, g2⟩, _, _, _, g3, g4⟩ := Layout.good hl
  clear hl
  obtain ⟨s1, s2⟩ := hs
  obtain ⟨p1, p2⟩ := hp
  go_enter Try.func25, Try.ntmps25
  go_wp2
  go_ret
  exact ⟨rfl, by (repeat' (first | exact Below.refl _ _ | assumption | (refine ba ?_ _) | (refine bdr ?_) | (refine bset ?_ _ ?_ _) | (refine bt ?_ (by assumption)) | (simp; done) | (simp; omega)))⟩
theorem node_any (l : Layout) (s p : Int) (w : World) :
    Calls Try.prog 8 #[l.v, I s, I p] w fun e w' => e = .returned (.tuple #[I (l.nodeN s p), I (l.nodeE s p)]) ∧ Below w.heap.size w w' := by
  by_cases h0 : l.checkE = 0
  · have H0 := Lib.hid h0
    cases hk : l.okNode s p
    · have hv : l.nodeN s p = 0 ∧ l.nodeE s p = 3 := by simp [Layout.nodeN, Layout.nodeE, h0, hk]
      rw [hv.1, hv.2]
      have HK := Lib.hid hk
      clear h0 hk hv
      go_enter Try.func8, Try.ntmps8
      go_wp2_with (first | (go_at_call 20; go_in) | (go_at_call 17; (with_reducible refine (check_any _ _).mono ?_); rintro e w1 ⟨rfl, b1⟩; obtain ⟨c1, f1⟩ := bcell b1; rw [H0.out]) | (go_at_call 21; refine (node1_any l H0.out s p _ _ _ _ (by first | assumption | (simp [go_sem, *]; done)) (by first | assumption | (simp [go_sem, *]; done)) ⟨by first | assumption | (simp [go_sem, *]; done), by first | assumption | (simp [go_sem, *]; done), by first | assumption | (simp [go_sem, *]; done), by first | assumption | (simp [go_sem, *]; done)⟩).mono ?_; rintro e w2 ⟨rfl, b2⟩; replace b1 := bt b1 b2; clear c1 f1 b2; obtain ⟨c1, f1⟩ := bcell b1; rw [HK.out]))
      go_ret2
      exact ⟨rfl, by (repeat' (first | exact Below.refl _ _ | assumption | (refine ba ?_ _) | (refine bdr ?_) | (refine bset ?_ _ ?_ _) | (refine bt ?_ (by assumption)) | (simp; done) | (simp; omega)))⟩
    · have hv : l.nodeN s p = l.raw s p ∧ l.nodeE s p = 0 := by simp [Layout.nodeN, Layout.nodeE, h0, hk]
      rw [hv.1, hv.2]
      have HK := Lib.hid hk
      have hg := Layout.good h0
      have hb : (0 ≤ s ∧ s ≤ 1000) ∧ (0 ≤ p ∧ p ≤ 1000) := by
        unfold Layout.okNode at hk
        rw [Bool.and_eq_true] at hk
        have h1 := wi_bd hk.1
        have h2 := wi_bd hk.2
        obtain ⟨_, ⟨_, _⟩, ⟨_, _⟩, _⟩ := hg
        omega
      have HB := Lib.hid hb
      clear h0 hk hv hg hb
      go_enter Try.func8, Try.ntmps8
      go_wp2_with (first | (go_at_call 20; go_in) | (go_at_call 17; (with_reducible refine (check_any _ _).mono ?_); rintro e w1 ⟨rfl, b1⟩; obtain ⟨c1, f1⟩ := bcell b1; rw [H0.out]) | (go_at_call 21; refine (node1_any l H0.out s p _ _ _ _ (by first | assumption | (simp [go_sem, *]; done)) (by first | assumption | (simp [go_sem, *]; done)) ⟨by first | assumption | (simp [go_sem, *]; done), by first | assumption | (simp [go_sem, *]; done), by first | assumption | (simp [go_sem, *]; done), by first | assumption | (simp [go_sem, *]; done)⟩).mono ?_; rintro e w2 ⟨rfl, b2⟩; replace b1 := bt b1 b2; clear c1 f1 b2; obtain ⟨c1, f1⟩ := bcell b1; rw [HK.out]) | (go_at_call 25; refine (raw_any l H0.out s p HB.out.1 HB.out.2 _).mono ?_; rintro e w3 ⟨rfl, b3⟩))
      go_ret2
      exact ⟨rfl, by (repeat' (first | exact Below.refl _ _ | assumption | (refine ba ?_ _) | (refine bdr ?_) | (refine bset ?_ _ ?_ _) | (refine bt ?_ (by assumption)) | (simp; done) | (simp; omega)))⟩
  · have hv : l.nodeN s p = 0 ∧ l.nodeE s p = l.checkE := by simp [Layout.nodeN, Layout.nodeE, h0]
    rw [hv.1, hv.2]
    have h1 : (l.checkE == 0) = false := by simpa using h0
    have h2 : (l.checkE != 0) = true := by simpa using h0
    generalize hE : l.checkE = E at *
    have HE := Lib.hid hE
    clear hE hv
    go_enter Try.func8, Try.ntmps8
    go_wp2_with (first | (go_at_call 20; go_in) | (go_at_call 17; (with_reducible refine (check_any _ _).mono ?_); rintro e w1 ⟨rfl, b1⟩; obtain ⟨c1, f1⟩ := bcell b1; rw [HE.out]))
    go_ret2
    exact ⟨rfl, by (repeat' (first | exact Below.refl _ _ | assumption | (refine ba ?_ _) | (refine bdr ?_) | (refine bset ?_ _ ?_ _) | (refine bt ?_ (by assumption)) | (simp; done) | (simp; omega)))⟩

theorem piece1_any (l : Layout) (hl : l.checkE = 0) (s n : Int) (b1 b2 b3 : Nat) (w : World) (h1 : w.cell? ⟨b1, 0, none⟩ = some (I s)) (h2 : w.cell? ⟨b2, 0, none⟩ = some (I n)) (h3 : LayoutAt w b3 l) :
    Calls Try.prog 26 #[.pointer (some ⟨b1, 0, none⟩), .pointer (some ⟨b2, 0, none⟩), .pointer (some ⟨b3, 0, none⟩)] w fun e w' => e = .returned (.bool (l.okPiece s n)) ∧ Below w.heap.size w w' := by
  obtain ⟨⟨g1, g2⟩, _⟩ := Layout.good hl
  obtain ⟨c0, c1, c2, c3⟩ := h3
  clear hl
  unfold Layout.okPiece
  cases hs : wi s 0 63
  · go_enter Try.func26, Try.ntmps26
    go_wp2_with (first | (go_at_call 22; (with_reducible refine (stripe_any _ _).mono ?_); rintro e w1 ⟨rfl, rfl⟩) | (go_at_call 23; (with_reducible refine (within_any _ _ _ _).mono ?_); rintro e w1 ⟨rfl, rfl⟩))
    go_ret
    exact ⟨rfl, by (repeat' (first | exact Below.refl _ _ | assumption | (refine ba ?_ _) | (refine bdr ?_) | (refine bset ?_ _ ?_ _) | (refine bt ?_ (by assumption)) | (simp; done) | (simp; omega)))⟩
  · go_enter Try.func26, Try.ntmps26
    go_wp2_with (first | (go_at_call 22; (with_reducible refine (stripe_any _ _).mono ?_); rintro e w1 ⟨rfl, rfl⟩) | (go_at_call 23; (with_reducible refine (within_any _ _ _ _).mono ?_); rintro e w1 ⟨rfl, rfl⟩))
    go_ret
    exact ⟨by simp, by (repeat' (first | exact Below.refl _ _ | assumption | (refine ba ?_ _) | (refine bdr ?_) | (refine bset ?_ _ ?_ _) | (refine bt ?_ (by assumption)) | (simp; done) | (simp; omega)))⟩
theorem block1_any (l : Layout) (hl : l.checkE = 0) (n : Int) (b1 b3 : Nat) (w : World) (h1 : w.cell? ⟨b1, 0, none⟩ = some (I n)) (h3 : LayoutAt w b3 l) :
    Calls Try.prog 27 #[.pointer (some ⟨b1, 0, none⟩), .pointer (some ⟨b3, 0, none⟩)] w fun e w' => e = .returned (.bool (l.okBlock n)) ∧ Below w.heap.size w w' := by
  obtain ⟨_, ⟨g1, g2⟩, _⟩ := Layout.good hl
  obtain ⟨c0, c1, c2, c3⟩ := h3
  clear hl
  unfold Layout.okBlock
  go_enter Try.func27, Try.ntmps27
  go_wp2_with (go_at_call 23; (with_reducible refine (within_any _ _ _ _).mono ?_); rintro e w1 ⟨rfl, rfl⟩)
  go_ret
  exact ⟨rfl, by (repeat' (first | exact Below.refl _ _ | assumption | (refine ba ?_ _) | (refine bdr ?_) | (refine bset ?_ _ ?_ _) | (refine bt ?_ (by assumption)) | (simp; done) | (simp; omega)))⟩
theorem load1_any (n : Int) (b1 : Nat) (w : World) (h1 : w.cell? ⟨b1, 0, none⟩ = some (I n)) :
    Calls Try.prog 28 #[.pointer (some ⟨b1, 0, none⟩)] w fun e w' => e = .returned (.bool (wi n 0 64)) ∧ Below w.heap.size w w' := by
  go_enter Try.func28, Try.ntmps28
  go_wp2_with (go_at_call 23; (with_reducible refine (within_any _ _ _ _).mono ?_); rintro e w1 ⟨rfl, rfl⟩)
  go_ret
  exact ⟨rfl, by (repeat' (first | exact Below.refl _ _ | assumption | (refine ba ?_ _) | (refine bdr ?_) | (refine bset ?_ _ ?_ _) | (refine bt ?_ (by assumption)) | (simp; done) | (simp; omega)))⟩
theorem tmod_neg (a m : Int) (hm : 1 ≤ m) : (a.tmod m < 0 ∧ a.tmod m + m = a % m) ∨ (0 ≤ a.tmod m ∧ a.tmod m = a % m) := by
  have h1 := Int.tmod_add_mul_tdiv a m
  have h2 := Int.emod_add_mul_ediv a m
  have h3 := Int.emod_nonneg a (show m ≠ 0 by omega)
  have h4 := Int.emod_lt_of_pos a (show 0 < m by omega)
  have h5 := Int.tmod_lt_of_pos a (show 0 < m by omega)
  have h6 := Int.tmod_lt_of_pos (-a) (show 0 < m by omega)
  rw [Int.neg_tmod] at h6
  by_cases h : 0 ≤ a.tmod m
  · right
    refine ⟨h, ?_⟩
    rw [← Int.emod_eq_of_lt h h5, Int.emod_eq_emod_iff_emod_sub_eq_zero, show a.tmod m - a = m * (-(a.tdiv m)) by rw [Int.mul_neg]; omega, Int.mul_emod_right]
  · left
    refine ⟨by omega, ?_⟩
    rw [← Int.emod_eq_of_lt (show 0 ≤ a.tmod m + m by omega) (show a.tmod m + m < m by omega), Int.emod_eq_emod_iff_emod_sub_eq_zero, show a.tmod m + m - a = m * (1 - a.tdiv m) by rw [Int.mul_sub]; omega, Int.mul_emod_right]
set_option maxRecDepth 100000 in
set_option maxHeartbeats 800000 in
theorem piece_any (l : Layout) (s n : Int) (w : World) :
    Calls Try.prog 9 #[l.v, I s, I n] w fun e w' => e = .returned (.tuple #[I (l.pieceN s n), .bool (l.pieceB s n), I (l.pieceE s n)]) ∧ Below w.heap.size w w' := by
  by_cases h0 : l.checkE = 0
  · have H0 := Lib.hid h0
    cases hk : l.okPiece s n
    · have hv : l.pieceN s n = 0 ∧ l.pieceB s n = false ∧ l.pieceE s n = 3 := by simp [Layout.pieceN, Layout.pieceB, Layout.pieceE, h0, hk]
      rw [hv.1, hv.2.1, hv.2.2]
      have HK := Lib.hid hk
      clear h0 hk hv
      go_enter Try.func9, Try.ntmps9
      go_wp2_with (first | (go_at_call 20; go_in) | (go_at_call 17; (with_reducible refine (check_any _ _).mono ?_); rintro e w1 ⟨rfl, b1⟩; obtain ⟨c1, f1⟩ := bcell b1; rw [H0.out]) | (go_at_call 26; refine (piece1_any l H0.out s n _ _ _ _ (by first | assumption | (simp [go_sem, *]; done)) (by first | assumption | (simp [go_sem, *]; done)) ⟨by first | assumption | (simp [go_sem, *]; done), by first | assumption | (simp [go_sem, *]; done), by first | assumption | (simp [go_sem, *]; done), by first | assumption | (simp [go_sem, *]; done)⟩).mono ?_; rintro e w2 ⟨rfl, b2⟩; replace b1 := bt b1 b2; clear c1 f1 b2; obtain ⟨c1, f1⟩ := bcell b1; rw [HK.out]))
      go_ret3
      exact ⟨rfl, by (repeat' (first | exact Below.refl _ _ | assumption | (refine ba ?_ _) | (refine bdr ?_) | (refine bset ?_ _ ?_ _) | (refine bt ?_ (by assumption)) | (simp; done) | (simp; omega)))⟩
    · have HK := Lib.hid hk
      have hg := Layout.good h0
      have hb : (0 ≤ s ∧ s ≤ 63) ∧ (0 ≤ n ∧ n < l.nodes) := by
        unfold Layout.okPiece at hk
        rw [Bool.and_eq_true] at hk
        have h1 := wi_bd hk.1
        have h2 := wi_bd hk.2
        omega
      have hBC := Lib.hid (And.intro hg.2.1 hg.2.2.1)
      obtain ⟨⟨g1, g2⟩, _, _, _, g3, g4⟩ := hg
      obtain ⟨⟨q1, q2⟩, q3, q4⟩ := hb
      have hp := Layout.place_lt h0 s n
      have hz := tmod_neg (n - l.turn - s) l.nodes g1
      have hpl : l.place s n = (n - l.turn - s) % l.nodes := rfl
      rw [← hpl] at hz
      have hv : l.pieceN s n = (if l.has s n = true then l.place s n else 0) ∧ l.pieceB s n = l.has s n ∧ l.pieceE s n = 0 := by simp [Layout.pieceN, Layout.pieceB, Layout.pieceE, h0, hk]
      rw [hv.1, hv.2.1, hv.2.2]
      have hh : (l.has s n = true ∧ decide (l.data + l.more ≤ l.place s n) = false) ∨ (l.has s n = false ∧ decide (l.data + l.more ≤ l.place s n) = true) := by
        unfold Layout.has
        by_cases h : l.place s n < l.data + l.more
        · exact .inl ⟨decide_eq_true h, decide_eq_false (by omega)⟩
        · exact .inr ⟨decide_eq_false h, decide_eq_true (by omega)⟩
      clear h0 hk hv hpl
      generalize l.place s n = P at *
      have zb : -12 ≤ (n - l.turn - s).tmod l.nodes ∧ (n - l.turn - s).tmod l.nodes < 12 := by omega
      rcases hh with ⟨hh, hd⟩ | ⟨hh, hd⟩
      all_goals rw [hh]
      all_goals clear hh
      all_goals rcases hz with ⟨z1, z2⟩ | ⟨z1, z2⟩
      all_goals
        go_enter Try.func9, Try.ntmps9
        go_wp2_with (first | (go_at_call 20; go_in) | (go_at_call 17; (with_reducible refine (check_any _ _).mono ?_); rintro e w1 ⟨rfl, b1⟩; obtain ⟨c1, f1⟩ := bcell b1; rw [H0.out]) | (go_at_call 26; refine (piece1_any l H0.out s n _ _ _ _ (by first | assumption | (simp [go_sem, *]; done)) (by first | assumption | (simp [go_sem, *]; done)) ⟨by first | assumption | (simp [go_sem, *]; done), by first | assumption | (simp [go_sem, *]; done), by first | assumption | (simp [go_sem, *]; done), by first | assumption | (simp [go_sem, *]; done)⟩).mono ?_; rintro e w2 ⟨rfl, b2⟩; replace b1 := bt b1 b2; clear c1 f1 b2; obtain ⟨c1, f1⟩ := bcell b1; rw [HK.out]) | (go_at_call 24; refine (pieces_any l hBC.out _).mono ?_; rintro e w3 ⟨rfl, b3⟩))
        go_ret3
        exact ⟨by simp, by (repeat' (first | exact Below.refl _ _ | assumption | (refine ba ?_ _) | (refine bdr ?_) | (refine bset ?_ _ ?_ _) | (refine bt ?_ (by assumption)) | (simp; done) | (simp; omega)))⟩
  · have hv : l.pieceN s n = 0 ∧ l.pieceB s n = false ∧ l.pieceE s n = l.checkE := by simp [Layout.pieceN, Layout.pieceB, Layout.pieceE, h0]
    rw [hv.1, hv.2.1, hv.2.2]
    have h1 : (l.checkE == 0) = false := by simpa using h0
    have h2 : (l.checkE != 0) = true := by simpa using h0
    generalize hE : l.checkE = E at *
    have HE := Lib.hid hE
    clear hE hv
    go_enter Try.func9, Try.ntmps9
    go_wp2_with (first | (go_at_call 20; go_in) | (go_at_call 17; (with_reducible refine (check_any _ _).mono ?_); rintro e w1 ⟨rfl, b1⟩; obtain ⟨c1, f1⟩ := bcell b1; rw [HE.out]))
    go_ret3
    exact ⟨rfl, by (repeat' (first | exact Below.refl _ _ | assumption | (refine ba ?_ _) | (refine bdr ?_) | (refine bset ?_ _ ?_ _) | (refine bt ?_ (by assumption)) | (simp; done) | (simp; omega)))⟩
set_option maxRecDepth 100000 in
set_option maxHeartbeats 800000 in
theorem block_any (l : Layout) (n : Int) (w : World) :
    Calls Try.prog 10 #[l.v, I n] w fun e w' => e = .returned (.tuple #[I (l.blockS n), I (l.blockP n), I (l.blockE n)]) ∧ Below w.heap.size w w' := by
  by_cases h0 : l.checkE = 0
  · have H0 := Lib.hid h0
    cases hk : l.okBlock n
    · have hv : l.blockS n = 0 ∧ l.blockP n = 0 ∧ l.blockE n = 3 := by simp [Layout.blockS, Layout.blockP, Layout.blockE, h0, hk]
      rw [hv.1, hv.2.1, hv.2.2]
      have HK := Lib.hid hk
      clear h0 hk hv
      go_enter Try.func10, Try.ntmps10
      go_wp2_with (first | (go_at_call 20; go_in) | (go_at_call 17; (with_reducible refine (check_any _ _).mono ?_); rintro e w1 ⟨rfl, b1⟩; obtain ⟨c1, f1⟩ := bcell b1; rw [H0.out]) | (go_at_call 27; refine (block1_any l H0.out n _ _ _ (by first | assumption | (simp [go_sem, *]; done)) ⟨by first | assumption | (simp [go_sem, *]; done), by first | assumption | (simp [go_sem, *]; done), by first | assumption | (simp [go_sem, *]; done), by first | assumption | (simp [go_sem, *]; done)⟩).mono ?_; rintro e w2 ⟨rfl, b2⟩; replace b1 := bt b1 b2; clear c1 f1 b2; obtain ⟨c1, f1⟩ := bcell b1; rw [HK.out]))
      go_ret3
      exact ⟨rfl, by (repeat' (first | exact Below.refl _ _ | assumption | (refine ba ?_ _) | (refine bdr ?_) | (refine bset ?_ _ ?_ _) | (refine bt ?_ (by assumption)) | (simp; done) | (simp; omega)))⟩
    · have HK := Lib.hid hk
      obtain ⟨_, ⟨g1, g2⟩, _⟩ := Layout.good h0
      obtain ⟨q1, q2⟩ := wi_bd hk
      have hv : l.blockS n = n / l.data ∧ l.blockP n = n % l.data ∧ l.blockE n = 0 := by simp [Layout.blockS, Layout.blockP, Layout.blockE, h0, hk]
      rw [hv.1, hv.2.1, hv.2.2]
      clear h0 hk hv
      have d0 : (l.data == 0) = false := by rw [beq_eq_false_iff_ne]; omega
      have d1 := IntWalk.i64_quo n l.data ⟨q1, by omega, g1⟩
      have d2 := IntWalk.rem_in n l.data q1
      go_enter Try.func10, Try.ntmps10
      go_wp2_with (first | (go_at_call 20; go_in) | (go_at_call 17; (with_reducible refine (check_any _ _).mono ?_); rintro e w1 ⟨rfl, b1⟩; obtain ⟨c1, f1⟩ := bcell b1; rw [H0.out]) | (go_at_call 27; refine (block1_any l H0.out n _ _ _ (by first | assumption | (simp [go_sem, *]; done)) ⟨by first | assumption | (simp [go_sem, *]; done), by first | assumption | (simp [go_sem, *]; done), by first | assumption | (simp [go_sem, *]; done), by first | assumption | (simp [go_sem, *]; done)⟩).mono ?_; rintro e w2 ⟨rfl, b2⟩; replace b1 := bt b1 b2; clear c1 f1 b2; obtain ⟨c1, f1⟩ := bcell b1; rw [HK.out]))
      have k1 : w2.cell? ⟨w.heap.size, 1, none⟩ = some (I l.data) := (by first | assumption | (simp [go_sem, *]; done))
      have k2 : w2.cell? ⟨w.heap.size + 1, 0, none⟩ = some (I n) := (by first | assumption | (simp [go_sem, *]; done))
      (refine wp_region_quiet_below (by kernel_rfl) (by kernel_rfl) ?_
       repeat (any_goals (first | go_big_quiet_step (fail) | quiet_step (fail)))
       refine wpQuiet_nil ?_
       intro w3 hq3
       have b3 := below_of_regrown hq3
       clear hq3
       obtain ⟨c3, f3⟩ := bcell b3)
      go_wp2
      go_ret3
      exact ⟨rfl, by (repeat' (first | exact Below.refl _ _ | assumption | (refine ba ?_ _) | (refine bdr ?_) | (refine bset ?_ _ ?_ _) | (refine bt ?_ (by assumption)) | (simp; done) | (simp; omega)))⟩
  · have hv : l.blockS n = 0 ∧ l.blockP n = 0 ∧ l.blockE n = l.checkE := by simp [Layout.blockS, Layout.blockP, Layout.blockE, h0]
    rw [hv.1, hv.2.1, hv.2.2]
    have h1 : (l.checkE == 0) = false := by simpa using h0
    have h2 : (l.checkE != 0) = true := by simpa using h0
    generalize hE : l.checkE = E at *
    have HE := Lib.hid hE
    clear hE hv
    go_enter Try.func10, Try.ntmps10
    go_wp2_with (first | (go_at_call 20; go_in) | (go_at_call 17; (with_reducible refine (check_any _ _).mono ?_); rintro e w1 ⟨rfl, b1⟩; obtain ⟨c1, f1⟩ := bcell b1; rw [HE.out]))
    go_ret3
    exact ⟨rfl, by (repeat' (first | exact Below.refl _ _ | assumption | (refine ba ?_ _) | (refine bdr ?_) | (refine bset ?_ _ ?_ _) | (refine bt ?_ (by assumption)) | (simp; done) | (simp; omega)))⟩

theorem int_info : (Try.prog.info? 3).map (fun i => (i.zero, i.size, i.bytes)) = some (some (.int .i64 0), 1, 8) := by kernel_rfl
theorem make_ints (n : Int) (h0 : 0 ≤ n) (h1 : n ≤ 1000000) (W : World) :
    (Instr.makeSlice 31 (.int .i64 n) (.int .i64 n)).run Try.prog W = .ok (.slice (some ⟨W.heap.size, 0, none⟩) n.toNat n.toNat) (W.alloc (.cells (madeCells (I 0).cells n.toNat) 3)) := by
  obtain ⟨i0, hi, hz0, hz1, hz2⟩ := info_parts int_info
  obtain ⟨m, rfl⟩ := Int.eq_ofNat_of_zero_le h0
  have h := run_make (P := Try.prog) W 31 3 i0 _ Try.underlying31 hi hz0 .i64 .i64 (m : Int) (m : Int) (by omega) (by omega) (by rw [hz2]; omega) (by omega)
  simpa [hz1] using h
theorem LayoutAt.keep {w w' : World} {b : Nat} {l : Layout} (h : LayoutAt w b l) (hb : Below w.heap.size w w') : LayoutAt w' b l := by
  obtain ⟨h0, h1, h2, h3⟩ := h
  have hl := cell_lt h0
  exact ⟨(hb.cell (p := ⟨b, 0, none⟩) hl).trans h0, (hb.cell (p := ⟨b, 1, none⟩) hl).trans h1, (hb.cell (p := ⟨b, 2, none⟩) hl).trans h2, (hb.cell (p := ⟨b, 3, none⟩) hl).trans h3⟩
/-- How many pieces of the first p of stripe s node n has, behind s stripes. -/
def Layout.part (l : Layout) (n : Int) (s p : Nat) : Int := l.cnt n s + (if l.place s n < p then 1 else 0)
theorem Layout.part_zero (l : Layout) (h : l.checkE = 0) (n : Int) (s : Nat) : l.part n s 0 = l.cnt n s := by
  have := (l.place_lt h s n).1
  rw [part, if_neg (by omega)]; omega
theorem Layout.part_all (l : Layout) (n : Int) (s p : Nat) (hp : (p : Int) = l.data + l.more) : l.part n s p = l.cnt n (s + 1) := by
  rw [part, cnt, has]
  simp only [decide_eq_true_eq, hp]
theorem Layout.part_next (l : Layout) (h : l.checkE = 0) (n : Nat) (hn : (n : Int) < l.nodes) (s p : Nat) (hp : (p : Int) < l.nodes) : l.part n s (p + 1) = if n = (l.raw s p).toNat then l.part n s p + 1 else l.part n s p := by
  have h1 := raw_iff (l := l) s p n ⟨by omega, hp⟩ ⟨by omega, hn⟩
  have h2 := raw_lt h s p
  unfold part
  by_cases hr : l.raw s p = n
  · have h3 := h1.1 hr
    rw [if_pos (show n = (l.raw s p).toNat by omega), if_pos (show l.place s n < ((p + 1 : Nat) : Int) by omega), if_neg (show ¬ l.place s n < (p : Int) by omega)]; omega
  · have h3 : l.place s n ≠ p := fun e => hr (h1.2 e)
    rw [if_neg (show ¬ n = (l.raw s p).toNat by omega)]
    by_cases h4 : l.place s n < p
    · rw [if_pos (show l.place s n < ((p + 1 : Nat) : Int) by omega), if_pos h4]
    · rw [if_neg (show ¬ l.place s n < ((p + 1 : Nat) : Int) by omega), if_neg h4]
theorem Layout.part_bd (l : Layout) (n : Int) (s p : Nat) : 0 ≤ l.part n s p ∧ l.part n s p ≤ s + 1 := by
  have := l.cnt_bd n s
  unfold part
  split <;> omega
set_option maxRecDepth 100000 in
set_option maxHeartbeats 1600000 in
theorem load_ok (l : Layout) (h0 : l.checkE = 0) (S : Nat) (hS : S ≤ 64) (w : World) :
    Calls Try.prog 11 #[l.v, I S] w fun e w' => ∃ g, e = .returned (.tuple #[.slice (some ⟨g, 0, none⟩) l.nodes.toNat l.nodes.toNat, I 0]) ∧ w'.rowIs g 3 l.nodes.toNat (fun n => I (l.cnt n S)) ∧ w.heap.size ≤ g ∧ Below w.heap.size w w' := by
  have hg := Layout.good h0
  have hBC := Lib.hid (And.intro hg.2.1 hg.2.2.1)
  obtain ⟨⟨g1, g2⟩, ⟨g3, g4⟩, ⟨g5, g6⟩, g7, g8, g9⟩ := hg
  have hw : wi (S : Int) 0 64 = true := wi_yes ⟨by omega, by omega⟩
  have H0 := Lib.hid h0
  have HW := Lib.hid hw
  clear h0 hw
  have hmk := fun W => make_ints l.nodes (by omega) (by omega) W
  go_enter Try.func11, Try.ntmps11
  go_wp2_with (first | (go_at_call 20; go_in) | (go_at_call 17; (with_reducible refine (check_any _ _).mono ?_); rintro e w1 ⟨rfl, b1⟩; obtain ⟨c1, f1⟩ := bcell b1; rw [H0.out]) | (go_at_call 28; refine (load1_any (S : Int) _ _ (by first | assumption | (simp [go_sem, *]; done))).mono ?_; rintro e w2 ⟨rfl, b2⟩; replace b1 := bt b1 b2; clear c1 f1 b2; obtain ⟨c1, f1⟩ := bcell b1; rw [HW.out]; have k0 : LayoutAt w2 w.heap.size l := ⟨by first | assumption | (simp [go_sem, *]; done), by first | assumption | (simp [go_sem, *]; done), by first | assumption | (simp [go_sem, *]; done), by first | assumption | (simp [go_sem, *]; done)⟩; have k1 : w2.cell? ⟨w.heap.size + 1, 0, none⟩ = some (I S) := (by first | assumption | (simp [go_sem, *]; done)); have b0 : Below w.heap.size w w2 := (by (repeat' (first | exact Below.refl _ _ | assumption | (refine ba ?_ _) | (refine bdr ?_) | (refine bset ?_ _ ?_ _) | (refine bt ?_ (by assumption)) | (simp; done) | (simp; omega)))); have z1 := cell_lt k1; simp only at z1; clear b1 c1 f1; obtain ⟨k2, k3, k4, k5⟩ := k0))
  go_loopw [8, 20] (fun _ i wr => ∃ k : Nat, k ≤ S ∧ i = I k ∧ wr.rowIs w2.heap.size 3 l.nodes.toNat (fun n => I (l.cnt n k)) ∧ Below w2.heap.size w2 wr) (fun _ i _ => (S - intOf i).toNat)
  case atStart => 
    refine ⟨0, by omega, rfl, ?_, by (repeat' (first | exact Below.refl _ _ | assumption | (refine ba ?_ _) | (refine bdr ?_) | (refine bset ?_ _ ?_ _) | (refine bt ?_ (by assumption)) | (simp; done) | (simp; omega)))⟩
    exact World.rowIs_made w2 (I 0) _ _
  case round =>
    obtain ⟨k, hk, rfl, hrow, br⟩ := hrel
    have z2 := cell_lt k2
    have q2 := (br.cell (p := ⟨w.heap.size, 0, none⟩) z2).trans k2
    have q3 := (br.cell (p := ⟨w.heap.size, 1, none⟩) z2).trans k3
    have q4 := (br.cell (p := ⟨w.heap.size, 2, none⟩) z2).trans k4
    have q5 := (br.cell (p := ⟨w.heap.size, 3, none⟩) z2).trans k5
    by_cases hlt : k < S
    · have HR := Lib.hid hrow
      clear hrow
      go_wp2_with (go_at_call 24; (with_reducible refine (pieces_any l hBC.out _).mono ?_); rintro e w3 ⟨rfl, b3⟩)
      have hgl := HR.out.lt
      have br3 : Below w2.heap.size w2 w3 := br.trans (b3.mono br.size)
      have HR3 := Lib.hid (HR.out.of_block (b3.block _ hgl))
      clear HR b3 hgl br q2 q3 q4 q5
      go_loopw [9, 25] (fun _ i wr => ∃ p : Nat, (p : Int) ≤ l.data + l.more ∧ i = I p ∧ wr.rowIs w2.heap.size 3 l.nodes.toNat (fun n => I (l.part n k p)) ∧ Below w2.heap.size w2 wr) (fun _ i _ => (l.data + l.more - intOf i).toNat)
      case atStart =>
        refine ⟨0, by omega, rfl, HR3.out.congr (fun i hi => ?_), br3⟩
        rw [l.part_zero H0.out]
      case round =>
        obtain ⟨p, hp, rfl, hrow, br⟩ := hrel
        have q2 := (br.cell (p := ⟨w.heap.size, 0, none⟩) z2).trans k2
        have q3 := (br.cell (p := ⟨w.heap.size, 1, none⟩) z2).trans k3
        have q4 := (br.cell (p := ⟨w.heap.size, 2, none⟩) z2).trans k4
        have q5 := (br.cell (p := ⟨w.heap.size, 3, none⟩) z2).trans k5
        by_cases hp2 : (p : Int) < l.data + l.more
        · have hgl := hrow.lt
          have r1 := Layout.raw_lt H0.out (k : Int) (p : Int)
          have HR := Lib.hid hrow
          obtain ⟨r, hr⟩ : ∃ r : Nat, l.raw k p = r := ⟨(l.raw k p).toNat, by omega⟩
          have hpn := fun i (hi : i < l.nodes.toNat) => l.part_next H0.out i (by omega) k p (by omega)
          rw [hr] at r1 hpn
          have Hr := Lib.hid hr
          have Hn := Lib.hid hpn
          have hpb := l.part_bd r k p
          clear hrow hr hpn
          go_wp2_with (first | (go_at_call 25; refine (raw_any l H0.out _ _ ⟨by omega, by omega⟩ ⟨by omega, by omega⟩ _).mono ?_; rintro e w4 ⟨rfl, b4⟩; rw [Hr.out]; have HR4 := Lib.hid (HR.out.of_block (b4.block _ hgl)); have d1 := HR4.out.cell (i := r) (by omega); have d2 := HR4.out.frozen r))
          go_roundw
          case rel =>
            refine ⟨p + 1, by omega, by go_num, (HR4.out.set _ _).congr (fun i hi => ?_), (br.trans (b4.mono br.size)).setCell (Nat.le_refl _) _⟩
            rw [Hn.out i hi]
            by_cases he : i = r
            · rw [if_pos he, if_pos (by omega), he]
            · rw [if_neg he, if_neg (by omega)]
          case measure => simp [intOf]; omega
        · have hpe : (p : Int) = l.data + l.more := by omega
          have HR := Lib.hid (hrow.congr (g := fun n => I (l.cnt n (k + 1))) (fun i hi => by rw [l.part_all i k p hpe]))
          clear hrow hpe
          go_wp2
          exact ⟨⟨_, _, _, ⟨k + 1, by omega, rfl, HR.out⟩, rfl, rfl, by go_num⟩, by simp [intOf]; omega⟩
    · obtain rfl : k = S := by omega
      go_wp2
      go_ret2
      exact ⟨w2.heap.size, rfl, hrow, b0.size, b0.trans (br.mono b0.size)⟩
end Go.Proofs.Ytikbignmpoefkaa
