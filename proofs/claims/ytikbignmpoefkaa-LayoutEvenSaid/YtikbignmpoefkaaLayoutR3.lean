/- Contracts of the reference's loads of layouts; both loads as lists. No condition. -/
import Derived.Test.YtikbignmpoefkaaLayoutR2
import Derived.Outline
namespace Go.Proofs.Ytikbignmpoefkaa
open Go.ChangeShapes Go.WideShapes Go.ChangeAt Go.RowKit
open Go.ChangeMaps (open_string shut_string)
set_option maxRecDepth 100000 in
set_option maxHeartbeats 1600000 in
theorem rload_ok (l : Layout) (h0 : l.checkE = 0) (S : Nat) (hS : S ≤ 64) (w : World) :
    Calls Try.prog 15 #[l.v, I S] w fun e w' => ∃ v, e = .returned (.tuple #[v, I 0]) ∧ w'.ownsRow w.heap.size 3 1 v l.nodes.toNat ((l.loads S).flatMap fun x => [I x]) ∧ Below w.heap.size w w' := by
  obtain ⟨i3, hi3, hz3, hs3, hb3⟩ := info_parts int_info
  obtain ⟨⟨g1, g2⟩, _⟩ := Layout.good h0
  have H0 := Lib.hid h0
  have hpe : ∀ s n : Int, wi s 0 63 = true → wi n 0 (l.nodes - 1) = true → l.pieceB s n = l.has s n := fun s n h1 h2 => by simp [Layout.pieceB, Layout.okPiece, h0, h1, h2]
  have Hpe := Lib.hid hpe
  clear h0 hpe
  go_enter Try.func15, Try.ntmps15
  go_wp2_with (go_at_call 18; (with_reducible refine (rcheck_any _ _).mono ?_); rintro e w1 ⟨rfl, b1⟩; have k0 : LayoutAt w1 w.heap.size l := (by obtain ⟨c1, f1⟩ := bcell b1; exact ⟨by first | assumption | (simp [go_sem, *]; done), by first | assumption | (simp [go_sem, *]; done), by first | assumption | (simp [go_sem, *]; done), by first | assumption | (simp [go_sem, *]; done)⟩); rw [H0.out]; have b0 : Below w.heap.size w w1 := (by (repeat' (first | exact Below.refl _ _ | assumption | (refine ba ?_ _) | (refine bdr ?_) | (refine bset ?_ _ ?_ _) | (refine bt ?_ (by assumption)) | (simp; done) | (simp; omega)))); clear b1; obtain ⟨k2, k3, k4, k5⟩ := k0)
  have z2 := cell_lt k2
  simp only at z2
  go_loopw [7, 8] (fun v i wr => ∃ k : Nat, (k : Int) ≤ l.nodes ∧ i = I k ∧ wr.ownsRow w1.heap.size 3 1 v k (((List.range k).map fun n : Nat => l.cnt n S).flatMap fun x => [I x]) ∧ Below w1.heap.size w1 wr) (fun _ i _ => (l.nodes - intOf i).toNat)
  case atStart => exact ⟨0, by omega, rfl, ⟨by simp, .inl ⟨rfl, rfl⟩⟩, by (repeat' (first | exact Below.refl _ _ | assumption | (refine ba ?_ _) | (refine bdr ?_) | (refine bset ?_ _ ?_ _) | (refine bt ?_ (by assumption)) | (simp; done) | (simp; omega)))⟩
  case round =>
    obtain ⟨k, hk, rfl, hown, br⟩ := hrel
    have q2 := (br.cell (p := ⟨w.heap.size, 0, none⟩) z2).trans k2
    have HO := Lib.hid hown
    clear hown
    by_cases hlt : (k : Int) < l.nodes
    · go_wp2
      go_loopw [9, 10] (fun n s wi_ => ∃ j : Nat, j ≤ S ∧ s = I j ∧ n = I (l.cnt k j) ∧ Below wr.heap.size wr wi_) (fun _ s _ => (S - intOf s).toNat)
      case atStart => exact ⟨0, by omega, rfl, rfl, by (repeat' (first | exact Below.refl _ _ | assumption | (refine ba ?_ _) | (refine bdr ?_) | (refine bset ?_ _ ?_ _) | (refine bt ?_ (by assumption)) | (simp; done) | (simp; omega)))⟩
      case round =>
        obtain ⟨j, hj, rfl, rfl, bi⟩ := hrel
        have br2 := br.trans (bi.mono br.size)
        have q2 := (br2.cell (p := ⟨w.heap.size, 0, none⟩) z2).trans k2
        have q3 := (br2.cell (p := ⟨w.heap.size, 1, none⟩) z2).trans k3
        have q4 := (br2.cell (p := ⟨w.heap.size, 2, none⟩) z2).trans k4
        have q5 := (br2.cell (p := ⟨w.heap.size, 3, none⟩) z2).trans k5
        by_cases hlt2 : j < S
        · have hp := Lib.hid (Hpe.out j k (wi_yes ⟨by omega, by omega⟩) (wi_yes ⟨by omega, by omega⟩))
          have hbd := l.cnt_bd k j
          cases hh : l.has j k
          · have hs : Hid (l.cnt k (j + 1) = l.cnt k j) := Lib.hid (by rw [Layout.cnt, if_neg (by rw [hh]; simp)]; omega)
            have HH := Lib.hid hh
            clear hh
            go_wp2_with (go_at_call 13; (with_reducible refine (rpiece_any _ _ _ _).mono ?_); rintro e w2 ⟨rfl, b2⟩; rw [hp.out, HH.out])
            go_roundw
            case rel => exact ⟨j + 1, by omega, by go_num, by rw [hs.out], bi.trans (b2.mono bi.size)⟩
            case measure => simp [intOf]; omega
          · have hs : Hid (l.cnt k (j + 1) = l.cnt k j + 1) := Lib.hid (by rw [Layout.cnt, if_pos hh])
            have HH := Lib.hid hh
            clear hh
            go_wp2_with (go_at_call 13; (with_reducible refine (rpiece_any _ _ _ _).mono ?_); rintro e w2 ⟨rfl, b2⟩; rw [hp.out, HH.out])
            go_roundw
            case rel => exact ⟨j + 1, by omega, by go_num, by rw [hs.out], bi.trans (b2.mono bi.size)⟩
            case measure => simp [intOf]; omega
        · obtain rfl : j = S := by omega
          have hso := br2.size
          have hoi := HO.out.kept (row := none) ⟨bi.os, bi.tape, bi.output, bi.size, fun i hi _ => bi.block i hi⟩ (by cases hv : u7.ownBlock <;> simp)
          have HOI := Lib.hid hoi
          clear HO hoi
          go_wp2_with (first | (at_builtin; refine wpList_append_own _ rfl _ _ 31 rfl (w1.heap.size) 3 i3 _ _ _ Try.underlying31 hi3 hz3 hs3 hb3 rfl (by decide) _ _ _ rfl (HOI.out.alloc _) ⟨wr.heap.size, 0, none⟩ 1 1 [I (l.cnt k j)] rfl rfl (by exact cells_new _ _ _) (by simp [Value.oneCell']) (by unfold maxLen; first | omega | (simp; omega)) (by first | omega | (simp; omega)) (by first | assumption | omega | (simp; omega)) ?_; intro v' w2 o2 g2 _))
          go_roundw
          case rel =>
            refine ⟨k + 1, by omega, by go_num, ?_, (br2.alloc hso _).grown g2 (by rw [World.size_alloc]; omega) (fun i hi => (HOI.out.lt i hi).1)⟩
            rw [List.range_succ, List.map_append, List.flatMap_append]
            exact o2
          case measure => simp [intOf]; omega
    · have hk2 : l.nodes.toNat = k := by omega
      have HL : Hid (((List.range k).map fun n : Nat => l.cnt n S).flatMap (fun x => [I x]) = (l.loads S).flatMap fun x => [I x]) := Lib.hid (by rw [Layout.loads, hk2])
      have HK := Lib.hid hk2
      clear hk2
      go_wp2
      go_ret2
      refine ⟨_, rfl, ?_, b0.trans (br.mono b0.size)⟩
      rw [← HL.out, HK.out]
      exact ⟨HO.out.1, HO.out.2.imp id (fun ⟨g, cap, cur, h1, h2, h3⟩ => ⟨g, cap, cur, h1, Nat.le_trans b0.size h2, h3⟩)⟩
set_option maxRecDepth 100000 in
set_option maxHeartbeats 800000 in
theorem rload_bad (l : Layout) (S : Int) (h : ¬ (l.checkE = 0 ∧ wi S 0 64 = true)) (w : World) :
    Calls Try.prog 15 #[l.v, I S] w fun e w' => e = .returned (.tuple #[.slice none 0 0, I (l.loadE S)]) ∧ Below w.heap.size w w' := by
  by_cases h0 : l.checkE = 0
  · have hw : wi S 0 64 = false := by
      cases hh : wi S 0 64
      · rfl
      · exact absurd ⟨h0, hh⟩ h
    have hv : l.loadE S = 3 := by simp [Layout.loadE, h0, hw]
    rw [hv]
    have H0 := Lib.hid h0
    have hs : S < 0 ∨ (0 ≤ S ∧ 64 < S) := by
      by_cases h1 : S < 0
      · exact .inl h1
      · by_cases h2 : 64 < S
        · exact .inr ⟨by omega, h2⟩
        · rw [wi_yes ⟨by omega, by omega⟩] at hw; cases hw
    clear h0 hw hv h
    rcases hs with h1 | ⟨h1, h2⟩
    all_goals
      go_enter Try.func15, Try.ntmps15
      go_wp2_with (go_at_call 18; (with_reducible refine (rcheck_any _ _).mono ?_); rintro e w1 ⟨rfl, b1⟩; obtain ⟨c1, f1⟩ := bcell b1; rw [H0.out])
      go_ret2
      exact ⟨rfl, by (repeat' (first | exact Below.refl _ _ | assumption | (refine ba ?_ _) | (refine bdr ?_) | (refine bset ?_ _ ?_ _) | (refine bt ?_ (by assumption)) | (simp; done) | (simp; omega)))⟩
  · have hv : l.loadE S = l.checkE := by simp [Layout.loadE, h0]
    rw [hv]
    have h1 : (l.checkE == 0) = false := by simpa using h0
    have h2 : (l.checkE != 0) = true := by simpa using h0
    clear h
    generalize hE : l.checkE = E at *
    have HE := Lib.hid hE
    clear hE hv
    go_enter Try.func15, Try.ntmps15
    go_wp2_with (go_at_call 18; (with_reducible refine (rcheck_any _ _).mono ?_); rintro e w1 ⟨rfl, b1⟩; obtain ⟨c1, f1⟩ := bcell b1; rw [HE.out])
    go_ret2
    exact ⟨rfl, by (repeat' (first | exact Below.refl _ _ | assumption | (refine ba ?_ _) | (refine bdr ?_) | (refine bset ?_ _ ?_ _) | (refine bt ?_ (by assumption)) | (simp; done) | (simp; omega)))⟩
/-- Both loads in one form: a slice that reads as the list. -/
theorem loads_length (l : Layout) (S : Nat) : (l.loads S).length = l.nodes.toNat := by simp [Layout.loads]
theorem load_any (l : Layout) (S : Int) (w : World) :
    Calls Try.prog 11 #[l.v, I S] w fun e w' => ∃ A n c, e = .returned (.tuple #[.slice A n c, I (l.loadE S)]) ∧ GoT.rep w' w'.heap.size [.slice A n c] (l.loadL S) ∧ Below w.heap.size w w' := by
  by_cases h : l.checkE = 0 ∧ wi S 0 64 = true
  · obtain ⟨S', rfl⟩ := Int.eq_ofNat_of_zero_le (wi_bd h.2).1
    have hb := (wi_bd h.2).2
    have hg := (Layout.good h.1).1
    rw [show l.loadE (S' : Int) = 0 by simp [Layout.loadE, h.1, h.2], show l.loadL (S' : Int) = l.loads S' by simp [Layout.loadL, h.1, h.2]]
    refine (load_ok l h.1 S' (by omega) w).mono ?_
    rintro e w' ⟨g, rfl, hr, _, hb2⟩
    exact ⟨_, _, _, rfl, rowIs_ints hr (by have := hg.2; omega) (fun n _ => by have := l.cnt_bd n S'; omega), hb2⟩
  · rw [show l.loadL S = [] by rw [Layout.loadL, if_neg h]]
    refine (load_bad l S h w).mono ?_
    rintro e w' ⟨rfl, hb2⟩
    exact ⟨_, _, _, rfl, ints_mk rfl (by simp) (by omega) (by simp) (.inl rfl), hb2⟩
theorem rload_any (l : Layout) (S : Int) (w : World) :
    Calls Try.prog 15 #[l.v, I S] w fun e w' => ∃ A n c, e = .returned (.tuple #[.slice A n c, I (l.loadE S)]) ∧ GoT.rep w' w'.heap.size [.slice A n c] (l.loadL S) ∧ Below w.heap.size w w' := by
  by_cases h : l.checkE = 0 ∧ wi S 0 64 = true
  · obtain ⟨S', rfl⟩ := Int.eq_ofNat_of_zero_le (wi_bd h.2).1
    have hb := (wi_bd h.2).2
    rw [show l.loadE (S' : Int) = 0 by simp [Layout.loadE, h.1, h.2], show l.loadL (S' : Int) = l.loads S' by simp [Layout.loadL, h.1, h.2]]
    refine (rload_ok l h.1 S' (by omega) w).mono ?_
    rintro e w' ⟨v, rfl, hown, hb2⟩
    rw [← loads_length l S'] at hown
    obtain ⟨A, c, rfl, hr⟩ := owns_rep (fun x : Int => [I x]) hown (fun _ => rfl) (fun x hx w B => ⟨rfl, by
      obtain ⟨n, _, rfl⟩ := List.mem_map.1 hx
      have := l.cnt_bd n S'
      omega⟩)
    exact ⟨_, _, _, rfl, hr, hb2⟩
  · rw [show l.loadL S = [] by rw [Layout.loadL, if_neg h]]
    refine (rload_bad l S h w).mono ?_
    rintro e w' ⟨rfl, hb2⟩
    exact ⟨_, _, _, rfl, ints_mk rfl (by simp) (by omega) (by simp) (.inl rfl), hb2⟩
end Go.Proofs.Ytikbignmpoefkaa
