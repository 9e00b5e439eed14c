/- Contracts of the reference's layouts: what each call returns. No condition. -/
import Derived.Test.YtikbignmpoefkaaLayout
import Derived.Outline
namespace Go.Proofs.Ytikbignmpoefkaa
open Go.ChangeShapes Go.WideShapes Go.ChangeAt Go.RowKit
open Go.ChangeMaps (open_string shut_string)
theorem load_bad (l : Layout) (S : Int) (h : ¬ (l.checkE = 0 ∧ wi S 0 64 = true)) (w : World) :
    Calls Try.prog 11 #[l.v, I S] w fun e w' => e = .returned (.tuple #[.slice none 0 0, I (l.loadE S)]) ∧ Below w.heap.size w w' := by
  by_cases h0 : l.checkE = 0
  · have hw : wi S 0 64 = false := by
      cases hh : wi S 0 64
      · rfl
      · exact absurd ⟨h0, hh⟩ h
    have hv : l.loadE S = 3 := by simp [Layout.loadE, h0, hw]
    rw [hv]
    have H0 := Lib.hid h0
    have HK := Lib.hid hw
    clear h0 hw hv h
    go_enter Try.func11, Try.ntmps11
    go_wp2_with (first | (go_at_call 20; go_in) | (go_at_call 17; (with_reducible refine (check_any _ _).mono ?_); rintro e w1 ⟨rfl, b1⟩; obtain ⟨c1, f1⟩ := bcell b1; rw [H0.out]) | (go_at_call 28; refine (load1_any S _ _ (by first | assumption | (simp [go_sem, *]; done))).mono ?_; rintro e w2 ⟨rfl, b2⟩; replace b1 := bt b1 b2; clear c1 f1 b2; obtain ⟨c1, f1⟩ := bcell b1; rw [HK.out]))
    go_ret2
    exact ⟨rfl, by (repeat' (first | exact Below.refl _ _ | assumption | (refine ba ?_ _) | (refine bdr ?_) | (refine bset ?_ _ ?_ _) | (refine bt ?_ (by assumption)) | (simp; done) | (simp; omega)))⟩
  · have hv : l.loadE S = l.checkE := by simp [Layout.loadE, h0]
    rw [hv]
    have h1 : (l.checkE == 0) = false := by simpa using h0
    have h2 : (l.checkE != 0) = true := by simpa using h0
    clear h
    generalize hE : l.checkE = E at *
    have HE := Lib.hid hE
    clear hE hv
    go_enter Try.func11, Try.ntmps11
    go_wp2_with (first | (go_at_call 20; go_in) | (go_at_call 17; (with_reducible refine (check_any _ _).mono ?_); rintro e w1 ⟨rfl, b1⟩; obtain ⟨c1, f1⟩ := bcell b1; rw [HE.out]))
    go_ret2
    exact ⟨rfl, by (repeat' (first | exact Below.refl _ _ | assumption | (refine ba ?_ _) | (refine bdr ?_) | (refine bset ?_ _ ?_ _) | (refine bt ?_ (by assumption)) | (simp; done) | (simp; omega)))⟩
set_option maxRecDepth 100000 in
set_option maxHeartbeats 800000 in
theorem rcheck_any (l : Layout) (w : World) : Calls Try.prog 18 #[l.v] w fun e w' => e = .returned (I l.checkE) ∧ Below w.heap.size w w' := by
  by_cases hA : l.inA ∧ l.inB ∧ l.inC
  · obtain ⟨⟨a1, a2⟩, ⟨a3, a4⟩, a5, a6⟩ := hA
    have h_key : ((l.nodes < l.data + l.more)) ∨ (¬ (l.nodes < l.data + l.more) ∧ (l.turn < 0)) ∨ (¬ (l.nodes < l.data + l.more) ∧ ¬ (l.turn < 0) ∧ (l.nodes ≤ l.turn)) ∨ (¬ (l.nodes < l.data + l.more) ∧ ¬ (l.turn < 0) ∧ ¬ (l.nodes ≤ l.turn)) := by omega
    rcases h_key with h1 | ⟨h1, h2⟩ | ⟨h1, h2, h3⟩ | ⟨h1, h2, h3⟩
    all_goals
      go_enter Try.func18, Try.ntmps18
      go_wp2
      go_ret
      exact ⟨ri (by symm; unfold Layout.checkE Layout.inA Layout.inB Layout.inC; (repeat' (first | (rw [if_pos (by omega)]) | (rw [if_neg (by omega)]) | rfl))), by (repeat' (first | exact Below.refl _ _ | assumption | (refine ba ?_ _) | (refine bdr ?_) | (refine bset ?_ _ ?_ _) | (refine bt ?_ (by assumption)) | (simp; done) | (simp; omega)))⟩
  · have hv : Hid (l.checkE = 3) := Lib.hid (if_neg hA)
    unfold Layout.inA Layout.inB Layout.inC at hA
    have h_key : ((l.nodes < 1)) ∨ (¬ (l.nodes < 1) ∧ (12 < l.nodes)) ∨ (¬ (l.nodes < 1) ∧ ¬ (12 < l.nodes) ∧ (l.data < 1)) ∨ (¬ (l.nodes < 1) ∧ ¬ (12 < l.nodes) ∧ ¬ (l.data < 1) ∧ (8 < l.data)) ∨ (¬ (l.nodes < 1) ∧ ¬ (12 < l.nodes) ∧ ¬ (l.data < 1) ∧ ¬ (8 < l.data) ∧ (l.more < 1)) ∨ (¬ (l.nodes < 1) ∧ ¬ (12 < l.nodes) ∧ ¬ (l.data < 1) ∧ ¬ (8 < l.data) ∧ ¬ (l.more < 1) ∧ (6 < l.more)) ∨ (¬ (l.nodes < 1) ∧ ¬ (12 < l.nodes) ∧ ¬ (l.data < 1) ∧ ¬ (8 < l.data) ∧ ¬ (l.more < 1) ∧ ¬ (6 < l.more)) := by omega
    rcases h_key with h1 | ⟨h1, h2⟩ | ⟨h1, h2, h3⟩ | ⟨h1, h2, h3, h4⟩ | ⟨h1, h2, h3, h4, h5⟩ | ⟨h1, h2, h3, h4, h5, h6⟩ | ⟨h1, h2, h3, h4, h5, h6⟩
    all_goals first | omega | skip
    all_goals
      clear hA
      go_enter Try.func18, Try.ntmps18
      go_wp2
      go_ret
      exact ⟨by rw [hv.out]; rfl, by (repeat' (first | exact Below.refl _ _ | assumption | (refine ba ?_ _) | (refine bdr ?_) | (refine bset ?_ _ ?_ _) | (refine bt ?_ (by assumption)) | (simp; done) | (simp; omega)))⟩
/-- A node's number, step by step. -/
theorem raw_step {l : Layout} (h : l.checkE = 0) (k : Nat) : ((l.turn + k) % l.nodes + 1 = l.nodes → (l.turn + ((k + 1 : Nat) : Int)) % l.nodes = 0) ∧ ((l.turn + k) % l.nodes + 1 ≠ l.nodes → (l.turn + ((k + 1 : Nat) : Int)) % l.nodes = (l.turn + k) % l.nodes + 1) := by
  obtain ⟨⟨h1, _⟩, _⟩ := Layout.good h
  have h2 := Int.emod_nonneg (l.turn + k) (show l.nodes ≠ 0 by omega)
  have h3 := Int.emod_lt_of_pos (l.turn + k) (show 0 < l.nodes by omega)
  have h4 := Int.emod_add_mul_ediv (l.turn + k) l.nodes
  constructor
  · intro he
    refine Layout.emod_uniq (by omega) (by omega) ⟨(l.turn + k) / l.nodes + 1, ?_⟩
    rw [Int.mul_add]; omega
  · intro he
    refine Layout.emod_uniq (by omega) (by omega) ⟨(l.turn + k) / l.nodes, ?_⟩
    omega
set_option maxRecDepth 100000 in
set_option maxHeartbeats 800000 in
theorem nodeOf_any (l : Layout) (h0 : l.checkE = 0) (s p : Int) (hs : 0 ≤ s ∧ s ≤ 1000) (hp : 0 ≤ p ∧ p ≤ 1000) (w : World) :
    Calls Try.prog 29 #[l.v, I s, I p] w fun e w' => e = .returned (I (l.raw s p)) ∧ Below w.heap.size w w' := by
  obtain ⟨⟨g1, g2⟩, _, _, _, g8, g9⟩ := Layout.good h0
  have H0 := Lib.hid h0
  clear h0
  obtain ⟨s1, s2⟩ := hs
  obtain ⟨p1, p2⟩ := hp
  go_enter Try.func29, Try.ntmps29
  go_wp2
  go_loop [7, 8] (fun n i => ∃ k : Nat, (k : Int) ≤ s + p ∧ i = I k ∧ n = I ((l.turn + k) % l.nodes)) (fun _ i => (s + p - intOf i).toNat)
  case atStart => exact ⟨0, by omega, rfl, by rw [show l.turn + ((0 : Nat) : Int) = l.turn by omega, Int.emod_eq_of_lt g8 (by omega)]⟩
  case round =>
    obtain ⟨k, hk, rfl, rfl⟩ := hrel
    by_cases hlt : (k : Int) < s + p
    · have hst := raw_step H0.out k
      have h2 := Int.emod_nonneg (l.turn + k) (show l.nodes ≠ 0 by omega)
      have h3 := Int.emod_lt_of_pos (l.turn + k) (show 0 < l.nodes by omega)
      by_cases he : (l.turn + k) % l.nodes + 1 = l.nodes
      · have hs := Lib.hid (hst.1 he)
        have hb : ((l.turn + k) % l.nodes + 1 == l.nodes) = true := by simpa using he
        clear hst he
        go_wp2
        go_round
        case rel => exact ⟨k + 1, by omega, by go_num, by rw [hs.out]⟩
        case measure => simp [intOf]; omega
      · have hs := Lib.hid (hst.2 he)
        have hb : ((l.turn + k) % l.nodes + 1 == l.nodes) = false := by simpa using he
        clear hst he
        go_wp2
        go_round
        case rel => exact ⟨k + 1, by omega, by go_num, by rw [hs.out]⟩
        case measure => simp [intOf]; omega
    · have hk2 : (k : Int) = s + p := by omega
      have HK : Hid ((l.turn + (k : Int)) % l.nodes = l.raw s p) := Lib.hid (by rw [hk2, Layout.raw, Int.add_assoc])
      clear hk2
      go_wp2
      go_ret
      exact ⟨ri HK.out, by (repeat' (first | exact Below.refl _ _ | assumption | (refine ba ?_ _) | (refine bdr ?_) | (refine bset ?_ _ ?_ _) | (refine bt ?_ (by assumption)) | (simp; done) | (simp; omega)))⟩
set_option maxRecDepth 100000 in
set_option maxHeartbeats 800000 in
theorem rnode_any (l : Layout) (s p : Int) (w : World) :
    Calls Try.prog 12 #[l.v, I s, I p] w fun e w' => e = .returned (.tuple #[I (l.nodeN s p), I (l.nodeE s p)]) ∧ Below w.heap.size w w' := by
  by_cases h0 : l.checkE = 0
  · have H0 := Lib.hid h0
    obtain ⟨⟨g1, g2⟩, ⟨g3, g4⟩, ⟨g5, g6⟩, _⟩ := Layout.good h0
    have h_key : ((s < 0)) ∨ (¬ (s < 0) ∧ (63 < s)) ∨ (¬ (s < 0) ∧ ¬ (63 < s) ∧ (p < 0)) ∨ (¬ (s < 0) ∧ ¬ (63 < s) ∧ ¬ (p < 0) ∧ (l.data + l.more ≤ p)) ∨ (¬ (s < 0) ∧ ¬ (63 < s) ∧ ¬ (p < 0) ∧ ¬ (l.data + l.more ≤ p)) := by omega
    rcases h_key with h1 | ⟨h1, h2⟩ | ⟨h1, h2, h3⟩ | ⟨h1, h2, h3, h4⟩ | ⟨h1, h2, h3, h4⟩
    case inr.inr.inr.inr =>
      have hk : l.okNode s p = true := by rw [Layout.okNode, wi_yes ⟨by omega, by omega⟩, wi_yes ⟨by omega, by omega⟩]; rfl
      have hv : l.nodeN s p = l.raw s p ∧ l.nodeE s p = 0 := by simp [Layout.nodeN, Layout.nodeE, h0, hk]
      rw [hv.1, hv.2]
      clear hv hk h0
      have hb : (0 ≤ s ∧ s ≤ 1000) ∧ (0 ≤ p ∧ p ≤ 1000) := by omega
      go_enter Try.func12, Try.ntmps12
      go_wp2_with (first | (go_at_call 18; (with_reducible refine (rcheck_any _ _).mono ?_); rintro e w1 ⟨rfl, b1⟩; obtain ⟨c1, f1⟩ := bcell b1; rw [H0.out]) | (go_at_call 29; refine (nodeOf_any l H0.out _ _ hb.1 hb.2 _).mono ?_; rintro e w2 ⟨rfl, b2⟩))
      go_ret2
      exact ⟨rfl, by (repeat' (first | exact Below.refl _ _ | assumption | (refine ba ?_ _) | (refine bdr ?_) | (refine bset ?_ _ ?_ _) | (refine bt ?_ (by assumption)) | (simp; done) | (simp; omega)))⟩
    all_goals
      have hk : l.okNode s p = false := by
        rw [Layout.okNode]
        first | rw [wi_no (n := s) (by omega), Bool.false_and] | rw [wi_no (n := p) (by omega), Bool.and_false]
      have hv : l.nodeN s p = 0 ∧ l.nodeE s p = 3 := by simp [Layout.nodeN, Layout.nodeE, h0, hk]
      rw [hv.1, hv.2]
      clear hv hk h0
      go_enter Try.func12, Try.ntmps12
      go_wp2_with (go_at_call 18; (with_reducible refine (rcheck_any _ _).mono ?_); rintro e w1 ⟨rfl, b1⟩; obtain ⟨c1, f1⟩ := bcell b1; rw [H0.out])
      go_ret2
      exact ⟨rfl, by (repeat' (first | exact Below.refl _ _ | assumption | (refine ba ?_ _) | (refine bdr ?_) | (refine bset ?_ _ ?_ _) | (refine bt ?_ (by assumption)) | (simp; done) | (simp; omega)))⟩
  · have hv : l.nodeN s p = 0 ∧ l.nodeE s p = l.checkE := by simp [Layout.nodeN, Layout.nodeE, h0]
    rw [hv.1, hv.2]
    have h1 : (l.checkE == 0) = false := by simpa using h0
    have h2 : (l.checkE != 0) = true := by simpa using h0
    generalize hE : l.checkE = E at *
    have HE := Lib.hid hE
    clear hE hv
    go_enter Try.func12, Try.ntmps12
    go_wp2_with (go_at_call 18; (with_reducible refine (rcheck_any _ _).mono ?_); rintro e w1 ⟨rfl, b1⟩; obtain ⟨c1, f1⟩ := bcell b1; rw [HE.out])
    go_ret2
    exact ⟨rfl, by (repeat' (first | exact Below.refl _ _ | assumption | (refine ba ?_ _) | (refine bdr ?_) | (refine bset ?_ _ ?_ _) | (refine bt ?_ (by assumption)) | (simp; done) | (simp; omega)))⟩
end Go.Proofs.Ytikbignmpoefkaa
