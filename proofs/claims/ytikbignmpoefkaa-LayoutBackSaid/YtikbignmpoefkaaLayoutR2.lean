/- Contracts of the reference's pieces, blocks and loads of layouts. No condition. -/
import Derived.Test.YtikbignmpoefkaaLayoutR
import Derived.Test.YtikbignmpoefkaaSameInts
import Derived.Outline
namespace Go.Proofs.Ytikbignmpoefkaa
open Go.ChangeShapes Go.WideShapes Go.ChangeAt Go.RowKit
open Go.ChangeMaps (open_string shut_string)
set_option maxRecDepth 100000 in
set_option maxHeartbeats 1600000 in
theorem rpiece_any (l : Layout) (s n : Int) (w : World) :
    Calls Try.prog 13 #[l.v, I s, I n] w fun e w' => e = .returned (.tuple #[I (l.pieceN s n), .bool (l.pieceB s n), I (l.pieceE s n)]) ∧ Below w.heap.size w w' := by
  by_cases h0 : l.checkE = 0
  · have H0 := Lib.hid h0
    obtain ⟨⟨g1, g2⟩, ⟨g3, g4⟩, ⟨g5, g6⟩, g7, _⟩ := Layout.good h0
    have h_key : ((s < 0)) ∨ (¬ (s < 0) ∧ (63 < s)) ∨ (¬ (s < 0) ∧ ¬ (63 < s) ∧ (n < 0)) ∨ (¬ (s < 0) ∧ ¬ (63 < s) ∧ ¬ (n < 0) ∧ (l.nodes ≤ n)) ∨ (¬ (s < 0) ∧ ¬ (63 < s) ∧ ¬ (n < 0) ∧ ¬ (l.nodes ≤ n)) := by omega
    rcases h_key with h1 | ⟨h1, h2⟩ | ⟨h1, h2, h3⟩ | ⟨h1, h2, h3, h4⟩ | ⟨h1, h2, h3, h4⟩
    case inr.inr.inr.inr =>
      have hk : l.okPiece s n = true := by rw [Layout.okPiece, wi_yes ⟨by omega, by omega⟩, wi_yes ⟨by omega, by omega⟩]; rfl
      have hv : (l.place s n < l.data + l.more → l.pieceN s n = l.place s n ∧ l.pieceB s n = true) ∧ (l.data + l.more ≤ l.place s n → l.pieceN s n = 0 ∧ l.pieceB s n = false) ∧ l.pieceE s n = 0 := by
        simp only [Layout.pieceN, Layout.pieceB, Layout.pieceE, Layout.has, h0, hk]
        refine ⟨fun h => ?_, fun h => ?_, rfl⟩
        · simp [h]
        · simp [show ¬ l.place s n < l.data + l.more by omega]
      have Hv := Lib.hid hv
      have hpl := l.place_lt h0 s n
      have hri := fun p (hp : 0 ≤ p ∧ p < l.nodes) => l.raw_iff s p n hp ⟨by omega, by omega⟩
      have Hri := Lib.hid hri
      clear hv hk h0 hri
      go_enter Try.func13, Try.ntmps13
      go_wp2_with (go_at_call 18; (with_reducible refine (rcheck_any _ _).mono ?_); rintro e w1 ⟨rfl, b1⟩; have k0 : LayoutAt w1 w.heap.size l := (by obtain ⟨c1, f1⟩ := bcell b1; exact ⟨by first | assumption | (simp [go_sem, *]; done), by first | assumption | (simp [go_sem, *]; done), by first | assumption | (simp [go_sem, *]; done), by first | assumption | (simp [go_sem, *]; done)⟩); rw [H0.out]; have b0 : Below w.heap.size w w1 := (by (repeat' (first | exact Below.refl _ _ | assumption | (refine ba ?_ _) | (refine bdr ?_) | (refine bset ?_ _ ?_ _) | (refine bt ?_ (by assumption)) | (simp; done) | (simp; omega)))); clear b1; obtain ⟨k2, k3, k4, k5⟩ := k0)
      go_loopw [10] (fun i wr => ∃ p : Nat, (p : Int) ≤ l.data + l.more ∧ (p : Int) ≤ l.place s n ∧ i = I p ∧ Below w1.heap.size w1 wr) (fun i _ => (l.data + l.more - intOf i).toNat)
      case atStart => exact ⟨0, by omega, by omega, rfl, by (repeat' (first | exact Below.refl _ _ | assumption | (refine ba ?_ _) | (refine bdr ?_) | (refine bset ?_ _ ?_ _) | (refine bt ?_ (by assumption)) | (simp; done) | (simp; omega)))⟩
      case round =>
        obtain ⟨p, hp, hp2, rfl, br⟩ := hrel
        have z2 := cell_lt k2
        have q2 := (br.cell (p := ⟨w.heap.size, 0, none⟩) z2).trans k2
        have q3 := (br.cell (p := ⟨w.heap.size, 1, none⟩) z2).trans k3
        have q4 := (br.cell (p := ⟨w.heap.size, 2, none⟩) z2).trans k4
        have q5 := (br.cell (p := ⟨w.heap.size, 3, none⟩) z2).trans k5
        by_cases hlt : (p : Int) < l.data + l.more
        · by_cases he : l.place s n = p
          · have hr := (Hri.out p ⟨by omega, by omega⟩).2 he
            have hh := Lib.hid (Hv.out.1 (by omega))
            have Hr := Lib.hid hr
            have He := Lib.hid he
            clear hr he
            go_wp2_with (go_at_call 29; refine (nodeOf_any l H0.out _ _ ⟨by omega, by omega⟩ ⟨by omega, by omega⟩ _).mono ?_; rintro e w2 ⟨rfl, b2⟩; rw [Hr.out])
            go_ret3
            exact ⟨by rw [hh.out.1, hh.out.2, Hv.out.2.2, He.out]; rfl, b0.trans ((br.trans (b2.mono br.size)).mono b0.size)⟩
          · have hr : (l.raw s p == n) = false := by
              rw [beq_eq_false_iff_ne]
              intro h
              exact he ((Hri.out p ⟨by omega, by omega⟩).1 h)
            go_wp2_with (go_at_call 29; refine (nodeOf_any l H0.out _ _ ⟨by omega, by omega⟩ ⟨by omega, by omega⟩ _).mono ?_; rintro e w2 ⟨rfl, b2⟩)
            go_roundw
            case rel => exact ⟨p + 1, by omega, by omega, by go_num, br.trans (b2.mono br.size)⟩
            case measure => simp [intOf]; omega
        · have hh := Lib.hid (Hv.out.2.1 (by omega))
          go_wp2
          go_ret3
          exact ⟨by rw [hh.out.1, hh.out.2, Hv.out.2.2]; rfl, b0.trans (br.mono b0.size)⟩
    all_goals
      have hk : l.okPiece s n = false := by
        rw [Layout.okPiece]
        first | rw [wi_no (n := s) (by omega), Bool.false_and] | rw [wi_no (n := n) (by omega), Bool.and_false]
      have hv : l.pieceN s n = 0 ∧ l.pieceB s n = false ∧ l.pieceE s n = 3 := by simp [Layout.pieceN, Layout.pieceB, Layout.pieceE, h0, hk]
      rw [hv.1, hv.2.1, hv.2.2]
      clear hv hk h0
      go_enter Try.func13, Try.ntmps13
      go_wp2_with (go_at_call 18; (with_reducible refine (rcheck_any _ _).mono ?_); rintro e w1 ⟨rfl, b1⟩; obtain ⟨c1, f1⟩ := bcell b1; rw [H0.out])
      go_ret3
      exact ⟨rfl, by (repeat' (first | exact Below.refl _ _ | assumption | (refine ba ?_ _) | (refine bdr ?_) | (refine bset ?_ _ ?_ _) | (refine bt ?_ (by assumption)) | (simp; done) | (simp; omega)))⟩
  · have hv : l.pieceN s n = 0 ∧ l.pieceB s n = false ∧ l.pieceE s n = l.checkE := by simp [Layout.pieceN, Layout.pieceB, Layout.pieceE, h0]
    rw [hv.1, hv.2.1, hv.2.2]
    have h1 : (l.checkE == 0) = false := by simpa using h0
    have h2 : (l.checkE != 0) = true := by simpa using h0
    generalize hE : l.checkE = E at *
    have HE := Lib.hid hE
    clear hE hv
    go_enter Try.func13, Try.ntmps13
    go_wp2_with (go_at_call 18; (with_reducible refine (rcheck_any _ _).mono ?_); rintro e w1 ⟨rfl, b1⟩; obtain ⟨c1, f1⟩ := bcell b1; rw [HE.out])
    go_ret3
    exact ⟨rfl, by (repeat' (first | exact Below.refl _ _ | assumption | (refine ba ?_ _) | (refine bdr ?_) | (refine bset ?_ _ ?_ _) | (refine bt ?_ (by assumption)) | (simp; done) | (simp; omega)))⟩
set_option maxRecDepth 100000 in
set_option maxHeartbeats 1600000 in
theorem rblock_any (l : Layout) (n : Int) (w : World) :
    Calls Try.prog 14 #[l.v, I n] w fun e w' => e = .returned (.tuple #[I (l.blockS n), I (l.blockP n), I (l.blockE n)]) ∧ Below w.heap.size w w' := by
  by_cases h0 : l.checkE = 0
  · have H0 := Lib.hid h0
    obtain ⟨⟨g1, g2⟩, ⟨g3, g4⟩, ⟨g5, g6⟩, g7, _⟩ := Layout.good h0
    have h_key : ((n < 0)) ∨ (¬ (n < 0) ∧ (64 * l.data ≤ n)) ∨ (¬ (n < 0) ∧ ¬ (64 * l.data ≤ n)) := by omega
    rcases h_key with h1 | ⟨h1, h2⟩ | ⟨h1, h2⟩
    case inr.inr =>
      have hk : l.okBlock n = true := wi_yes ⟨by omega, by omega⟩
      have hv : l.blockS n = n / l.data ∧ l.blockP n = n % l.data ∧ l.blockE n = 0 := by simp [Layout.blockS, Layout.blockP, Layout.blockE, h0, hk]
      rw [hv.1, hv.2.1, hv.2.2]
      clear hv hk h0
      go_enter Try.func14, Try.ntmps14
      go_wp2_with (go_at_call 18; (with_reducible refine (rcheck_any _ _).mono ?_); rintro e w1 ⟨rfl, b1⟩; have k0 : LayoutAt w1 w.heap.size l := (by obtain ⟨c1, f1⟩ := bcell b1; exact ⟨by first | assumption | (simp [go_sem, *]; done), by first | assumption | (simp [go_sem, *]; done), by first | assumption | (simp [go_sem, *]; done), by first | assumption | (simp [go_sem, *]; done)⟩); rw [H0.out]; have b0 : Below w.heap.size w w1 := (by (repeat' (first | exact Below.refl _ _ | assumption | (refine ba ?_ _) | (refine bdr ?_) | (refine bset ?_ _ ?_ _) | (refine bt ?_ (by assumption)) | (simp; done) | (simp; omega)))); clear b1; obtain ⟨k2, k3, k4, k5⟩ := k0)
      go_loop [1, 8] (fun m i => ∃ k : Nat, 0 ≤ n - l.data * k ∧ (k : Int) ≤ n ∧ i = I k ∧ m = I (n - l.data * k)) (fun m _ => (intOf m).toNat)
      case atStart => exact ⟨0, by simp; omega, by omega, rfl, by simp⟩
      case round =>
        obtain ⟨k, hk, hk2, rfl, rfl⟩ := hrel
        have hs : l.data * ((k + 1 : Nat) : Int) = l.data * k + l.data := by rw [Int.natCast_add, Int.mul_add]; simp
        have HS := Lib.hid hs
        have hm0 : 0 ≤ l.data * (k : Int) := Int.mul_nonneg (by omega) (by omega)
        have hm1 : ((k + 1 : Nat) : Int) ≤ l.data * ((k + 1 : Nat) : Int) := by
          have := Int.mul_le_mul_of_nonneg_right g3 (show (0 : Int) ≤ ((k + 1 : Nat) : Int) by omega)
          rwa [Int.one_mul] at this
        have HM1 := Lib.hid hm1
        clear hs hm1
        by_cases hlt : l.data ≤ n - l.data * k
        · generalize hm : l.data * (k : Int) = m at *
          have HM := Lib.hid hm
          clear hm
          go_wp2
          go_round
          case rel =>
            have e1 := HS.out
            have e2 := HM1.out
            exact ⟨k + 1, by omega, by omega, by go_num, by rw [HS.out, ← Int.sub_sub]⟩
          case measure => simp [intOf]; omega
        · have he : n / l.data = k ∧ n % l.data = n - l.data * k := by
            have h1 := Int.emod_add_mul_ediv n l.data
            have h2 : n % l.data = n - l.data * k := Layout.emod_uniq hk (by omega) ⟨k, by omega⟩
            refine ⟨?_, h2⟩
            rw [h2] at h1
            have h3 : l.data * (n / l.data) = l.data * k := by omega
            exact Int.eq_of_mul_eq_mul_left (by omega) h3
          have HE := Lib.hid he
          clear he HS
          go_wp2
          go_ret3
          exact ⟨by rw [HE.out.1, HE.out.2]; rfl, b0⟩
    all_goals
      have hk : l.okBlock n = false := wi_no (by omega)
      have hv : l.blockS n = 0 ∧ l.blockP n = 0 ∧ l.blockE n = 3 := by simp [Layout.blockS, Layout.blockP, Layout.blockE, h0, hk]
      rw [hv.1, hv.2.1, hv.2.2]
      clear hv hk h0
      go_enter Try.func14, Try.ntmps14
      go_wp2_with (go_at_call 18; (with_reducible refine (rcheck_any _ _).mono ?_); rintro e w1 ⟨rfl, b1⟩; obtain ⟨c1, f1⟩ := bcell b1; rw [H0.out])
      go_ret3
      exact ⟨rfl, by (repeat' (first | exact Below.refl _ _ | assumption | (refine ba ?_ _) | (refine bdr ?_) | (refine bset ?_ _ ?_ _) | (refine bt ?_ (by assumption)) | (simp; done) | (simp; omega)))⟩
  · have hv : l.blockS n = 0 ∧ l.blockP n = 0 ∧ l.blockE n = l.checkE := by simp [Layout.blockS, Layout.blockP, Layout.blockE, h0]
    rw [hv.1, hv.2.1, hv.2.2]
    have h1 : (l.checkE == 0) = false := by simpa using h0
    have h2 : (l.checkE != 0) = true := by simpa using h0
    generalize hE : l.checkE = E at *
    have HE := Lib.hid hE
    clear hE hv
    go_enter Try.func14, Try.ntmps14
    go_wp2_with (go_at_call 18; (with_reducible refine (rcheck_any _ _).mono ?_); rintro e w1 ⟨rfl, b1⟩; obtain ⟨c1, f1⟩ := bcell b1; rw [HE.out])
    go_ret3
    exact ⟨rfl, by (repeat' (first | exact Below.refl _ _ | assumption | (refine ba ?_ _) | (refine bdr ?_) | (refine bset ?_ _ ?_ _) | (refine bt ?_ (by assumption)) | (simp; done) | (simp; omega)))⟩
end Go.Proofs.Ytikbignmpoefkaa
