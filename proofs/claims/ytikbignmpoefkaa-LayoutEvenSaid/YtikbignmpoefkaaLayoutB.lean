/- What must hold of layouts in any case: layoutBegun returns true. No condition. -/
import Derived.Test.YtikbignmpoefkaaLayoutR3
import Derived.Outline
namespace Go.Proofs.Ytikbignmpoefkaa
open Go.ChangeShapes Go.WideShapes Go.ChangeAt Go.RowKit
open Go.ChangeMaps (open_string shut_string)
theorem opens_i64 : Opens Try.prog 3 Int := GoT_i64 Try.underlying3 (by kernel_rfl)
theorem opens_Layout : Opens Try.prog 23 Layout := Opens.via (opens_struct Try.underlying23 rfl (by kernel_rfl) (opens_cons opens_i64 rfl (opens_cons opens_i64 rfl (opens_cons opens_i64 rfl (opens_last opens_i64 rfl))))) _ (fun p => ⟨p.1, p.2.1, p.2.2.1, p.2.2.2⟩) (fun _ => rfl)
theorem five_any (w : World) : Calls Try.prog 30 #[] w fun e w' => e = .returned (.agg #[I 5, I 2, I 2, I 1]) ∧ Below w.heap.size w w' := by
  go_enter Try.func30, Try.ntmps30
  go_wp2
  first
    | (go_ret; exact ⟨rfl, by (repeat' (first | exact Below.refl _ _ | assumption | (refine ba ?_ _) | (refine bdr ?_) | (refine bset ?_ _ ?_ _) | (refine bt ?_ (by assumption)) | (simp; done) | (simp; omega)))⟩)
    | exact bodyPost_ret (v := .agg #[I 5, I 2, I 2, I 1]) (by simp [results, go_sem]) rfl ⟨rfl, by (repeat' (first | exact Below.refl _ _ | assumption | (refine ba ?_ _) | (refine bdr ?_) | (refine bset ?_ _ ?_ _) | (refine bt ?_ (by assumption)) | (simp; done) | (simp; omega)))⟩
theorem bg_node (w : World) : Calls Try.prog 8 #[.agg #[I 5, I 2, I 2, I 1], I 3, I 2] w fun e w' => e = .returned (.tuple #[I 1, I 0]) ∧ Below w.heap.size w w' := by
  have h := node_any ⟨5, 2, 2, 1⟩ 3 2 w
  rwa [show Layout.nodeN ⟨5, 2, 2, 1⟩ 3 2 = 1 by decide, show Layout.nodeE ⟨5, 2, 2, 1⟩ 3 2 = 0 by decide] at h
theorem bg_piece1 (w : World) : Calls Try.prog 9 #[.agg #[I 5, I 2, I 2, I 1], I 3, I 1] w fun e w' => e = .returned (.tuple #[I 2, .bool true, I 0]) ∧ Below w.heap.size w w' := by
  have h := piece_any ⟨5, 2, 2, 1⟩ 3 1 w
  rwa [show Layout.pieceN ⟨5, 2, 2, 1⟩ 3 1 = 2 by decide, show Layout.pieceB ⟨5, 2, 2, 1⟩ 3 1 = true by decide, show Layout.pieceE ⟨5, 2, 2, 1⟩ 3 1 = 0 by decide] at h
theorem bg_piece3 (w : World) : Calls Try.prog 9 #[.agg #[I 5, I 2, I 2, I 1], I 3, I 3] w fun e w' => e = .returned (.tuple #[I 0, .bool false, I 0]) ∧ Below w.heap.size w w' := by
  have h := piece_any ⟨5, 2, 2, 1⟩ 3 3 w
  rwa [show Layout.pieceN ⟨5, 2, 2, 1⟩ 3 3 = 0 by decide, show Layout.pieceB ⟨5, 2, 2, 1⟩ 3 3 = false by decide, show Layout.pieceE ⟨5, 2, 2, 1⟩ 3 3 = 0 by decide] at h
theorem bg_block (w : World) : Calls Try.prog 10 #[.agg #[I 5, I 2, I 2, I 1], I 7] w fun e w' => e = .returned (.tuple #[I 3, I 1, I 0]) ∧ Below w.heap.size w w' := by
  have h := block_any ⟨5, 2, 2, 1⟩ 7 w
  rwa [show Layout.blockS ⟨5, 2, 2, 1⟩ 7 = 3 by decide, show Layout.blockP ⟨5, 2, 2, 1⟩ 7 = 1 by decide, show Layout.blockE ⟨5, 2, 2, 1⟩ 7 = 0 by decide] at h
theorem bg_load (w : World) : Calls Try.prog 11 #[.agg #[I 5, I 2, I 2, I 1], I 5] w fun e w' => ∃ A n c, e = .returned (.tuple #[.slice A n c, I 0]) ∧ GoT.rep w' w'.heap.size [.slice A n c] ([4, 4, 4, 4, 4] : List Int) ∧ Below w.heap.size w w' := by
  have h := load_any ⟨5, 2, 2, 1⟩ 5 w
  rwa [show Layout.loadE ⟨5, 2, 2, 1⟩ 5 = 0 by decide, show Layout.loadL ⟨5, 2, 2, 1⟩ 5 = [4, 4, 4, 4, 4] by decide] at h
theorem bg_check (w : World) : Calls Try.prog 17 #[.agg #[I 3, I 2, I 2, I 0]] w fun e w' => e = .returned (I 8) ∧ Below w.heap.size w w' := by
  have h := check_any ⟨3, 2, 2, 0⟩ w
  rwa [show Layout.checkE ⟨3, 2, 2, 0⟩ = 8 by decide] at h
set_option maxRecDepth 100000 in
set_option maxHeartbeats 1600000 in
theorem begun_any (w : World) : Calls Try.prog 16 #[] w fun e w' => e = .returned (.bool true) ∧ Below w.heap.size w w' := by
  go_enter Try.func16, Try.ntmps16
  go_wp2_with (first
    | (go_at_call 30; (with_reducible refine (five_any _).mono ?_); rintro e w1 ⟨rfl, b1⟩; ((try clear c0 f0); first | (replace b0 := bt b0 b1) | (replace b0 := bt (ba b0 _) b1) | (replace b0 := bt (ba (ba b0 _) _) b1) | (replace b0 := bt (bdr b0) b1) | (have b0 := b1)); (try replace hr := GoT.step hr b1); (try replace hs := GoT.step hs b1); (try replace HR := Lib.hid (HR.out.of_block (b1.block _ HR.out.lt))); clear b1; obtain ⟨c0, f0⟩ := bcell b0)
    | (go_at_call 8; (with_reducible refine (bg_node _).mono ?_); rintro e w1 ⟨rfl, b1⟩; ((try clear c0 f0); first | (replace b0 := bt b0 b1) | (replace b0 := bt (ba b0 _) b1) | (replace b0 := bt (ba (ba b0 _) _) b1) | (replace b0 := bt (bdr b0) b1) | (have b0 := b1)); (try replace hr := GoT.step hr b1); (try replace hs := GoT.step hs b1); (try replace HR := Lib.hid (HR.out.of_block (b1.block _ HR.out.lt))); clear b1; obtain ⟨c0, f0⟩ := bcell b0)
    | (go_at_call 9; (with_reducible refine (bg_piece1 _).mono ?_); rintro e w1 ⟨rfl, b1⟩; ((try clear c0 f0); first | (replace b0 := bt b0 b1) | (replace b0 := bt (ba b0 _) b1) | (replace b0 := bt (ba (ba b0 _) _) b1) | (replace b0 := bt (bdr b0) b1) | (have b0 := b1)); (try replace hr := GoT.step hr b1); (try replace hs := GoT.step hs b1); (try replace HR := Lib.hid (HR.out.of_block (b1.block _ HR.out.lt))); clear b1; obtain ⟨c0, f0⟩ := bcell b0)
    | (go_at_call 9; (with_reducible refine (bg_piece3 _).mono ?_); rintro e w1 ⟨rfl, b1⟩; ((try clear c0 f0); first | (replace b0 := bt b0 b1) | (replace b0 := bt (ba b0 _) b1) | (replace b0 := bt (ba (ba b0 _) _) b1) | (replace b0 := bt (bdr b0) b1) | (have b0 := b1)); (try replace hr := GoT.step hr b1); (try replace hs := GoT.step hs b1); (try replace HR := Lib.hid (HR.out.of_block (b1.block _ HR.out.lt))); clear b1; obtain ⟨c0, f0⟩ := bcell b0)
    | (go_at_call 10; (with_reducible refine (bg_block _).mono ?_); rintro e w1 ⟨rfl, b1⟩; ((try clear c0 f0); first | (replace b0 := bt b0 b1) | (replace b0 := bt (ba b0 _) b1) | (replace b0 := bt (ba (ba b0 _) _) b1) | (replace b0 := bt (bdr b0) b1) | (have b0 := b1)); (try replace hr := GoT.step hr b1); (try replace hs := GoT.step hs b1); (try replace HR := Lib.hid (HR.out.of_block (b1.block _ HR.out.lt))); clear b1; obtain ⟨c0, f0⟩ := bcell b0)
    | (go_at_call 11; (with_reducible refine (bg_load _).mono ?_); rintro e w1 ⟨A, n, c, rfl, hr, b1⟩; ((try clear c0 f0); first | (replace b0 := bt b0 b1) | (replace b0 := bt (ba b0 _) b1) | (replace b0 := bt (ba (ba b0 _) _) b1) | (replace b0 := bt (bdr b0) b1) | (have b0 := b1)); (try replace hr := GoT.step hr b1); (try replace hs := GoT.step hs b1); (try replace HR := Lib.hid (HR.out.of_block (b1.block _ HR.out.lt))); clear b1; obtain ⟨c0, f0⟩ := bcell b0)
    | (go_at_call 19; (refine ( sameInts_any [4, 4, 4, 4, 4] [4, 4, 4, 4, 4] _ _ _ _ _ _ _ (GoT.step hr (by (repeat' (first | exact Below.refl _ _ | assumption | (refine ba ?_ _) | (refine bdr ?_) | (refine bset ?_ _ ?_ _) | (refine bt ?_ (by assumption)) | (simp; done) | (simp; omega))))) (lit_ints (w := w1) _ (by decide) (by decide) rfl (by simp))).mono ?_); rintro e w1 ⟨rfl, b1⟩; ((try clear c0 f0); first | (replace b0 := bt b0 b1) | (replace b0 := bt (ba b0 _) b1) | (replace b0 := bt (ba (ba b0 _) _) b1) | (replace b0 := bt (bdr b0) b1) | (have b0 := b1)); (try replace hr := GoT.step hr b1); (try replace hs := GoT.step hs b1); (try replace HR := Lib.hid (HR.out.of_block (b1.block _ HR.out.lt))); clear b1; obtain ⟨c0, f0⟩ := bcell b0)
    | (go_at_call 17; (with_reducible refine (bg_check _).mono ?_); rintro e w1 ⟨rfl, b1⟩; ((try clear c0 f0); first | (replace b0 := bt b0 b1) | (replace b0 := bt (ba b0 _) b1) | (replace b0 := bt (ba (ba b0 _) _) b1) | (replace b0 := bt (bdr b0) b1) | (have b0 := b1)); (try replace hr := GoT.step hr b1); (try replace hs := GoT.step hs b1); (try replace HR := Lib.hid (HR.out.of_block (b1.block _ HR.out.lt))); clear b1; obtain ⟨c0, f0⟩ := bcell b0))
  go_ret
  exact ⟨rfl, by (repeat' (first | exact Below.refl _ _ | assumption | (refine ba ?_ _) | (refine bdr ?_) | (refine bset ?_ _ ?_ _) | (refine bt ?_ (by assumption)) | (simp; done) | (simp; omega)))⟩
end Go.Proofs.Ytikbignmpoefkaa
