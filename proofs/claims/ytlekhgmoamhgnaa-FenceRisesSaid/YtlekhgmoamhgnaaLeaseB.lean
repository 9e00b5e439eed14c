/- What must hold of leases in any case: leaseBegun returns true. No condition. -/
import Derived.Test.YtlekhgmoamhgnaaLeaseR
import Derived.Outline
namespace Go.Proofs.Ytlekhgmoamhgnaa
set_option linter.unusedSimpArgs false
set_option linter.unusedVariables false
open Go.ChangeShapes Go.WideShapes Go.ChangeAt Go.RowKit
open Go.ChangeMaps (open_string shut_string)
theorem opens_i64 : Opens Try.prog 3 Int := GoT_i64 Try.underlying3 (by kernel_rfl)
theorem opens_Lease : Opens Try.prog 23 Lease := Opens.via (opens_struct Try.underlying23 rfl (by kernel_rfl) (opens_cons opens_i64 rfl (opens_cons opens_i64 rfl (opens_last opens_i64 rfl)))) _ (fun p => ⟨p.1, p.2.1, p.2.2⟩) (fun _ => rfl)
theorem opens_Fence : Opens Try.prog 25 Fence := Opens.via (opens_struct Try.underlying25 rfl (by kernel_rfl) (opens_last opens_i64 rfl)) _ (fun p => ⟨p⟩) (fun _ => rfl)
set_option maxRecDepth 100000 in
set_option maxHeartbeats 4000000 in
theorem begun_any (w : World) : Calls Try.prog 17 #[] w fun e w' => e = .returned (.bool true) ∧ Below w.heap.size w w' := by
  have q1 : (⟨0, 0, 0⟩ : Lease).take 5 100 50 = (⟨5, 150, 1⟩, 0) := by kernel_rfl
  have q2 : (⟨5, 150, 1⟩ : Lease).take 6 149 50 = (⟨0, 0, 0⟩, 4) := by kernel_rfl
  have q3 : (⟨5, 150, 1⟩ : Lease).take 6 150 50 = (⟨6, 200, 2⟩, 0) := by kernel_rfl
  have q4 : (⟨6, 200, 2⟩ : Lease).take 6 160 10 = (⟨6, 200, 2⟩, 0) := by kernel_rfl
  have q5 : (⟨6, 200, 2⟩ : Lease).give 6 2 170 = (⟨0, 170, 2⟩, 0) := by kernel_rfl
  have q6 : (⟨0, 170, 2⟩ : Lease).heldP 170 = (0, 0) := by kernel_rfl
  have q7 : passP ⟨0⟩ 2 = (⟨2⟩, 0) := by kernel_rfl
  have q8 : passP ⟨2⟩ 1 = (⟨0⟩, 4) := by kernel_rfl
  have b0 := Below.refl w.heap.size w
  have HK := Known.nil w
  go_enter Try.func17, Try.ntmps17
  go_wp2_with (first | (go_at_call 10; (with_reducible refine (take_any ⟨_, _, _⟩ _ _ _ _).mono ?_); rintro e w1 ⟨rfl, b1⟩; have b9 : Below w.heap.size w _ := bt (by (repeat' (first | (with_reducible exact Below.refl _ _) | (with_reducible assumption) | (with_reducible refine ba ?_ _) | (with_reducible refine bdr ?_) | (with_reducible refine bset ?_ _ ?_ _) | (refine bt ?_ (by assumption)) | (simp; done) | (simp; omega)))) b1; have HK' := Known.step b1 (by (repeat' (first | (with_reducible exact HK) | (with_reducible apply Known.drew) | (with_reducible apply Known.alloc) | (with_reducible apply Known.allocO) | (with_reducible apply Known.setCell)))); replace b0 := b9; clear b9 b1; (try clear kn); (try clear c0 f0 hz); replace HK := HK'; clear HK'; ((try simp only [World.size_alloc, World.size_setCell, World.size_drew] at HK); have kn := HK; simp [Known, setL] at kn); obtain ⟨c0, f0⟩ := bcell b0; have hz := b0.size) | (go_at_call 11; (with_reducible refine (give_any ⟨_, _, _⟩ _ _ _ _).mono ?_); rintro e w1 ⟨rfl, b1⟩; have b9 : Below w.heap.size w _ := bt (by (repeat' (first | (with_reducible exact Below.refl _ _) | (with_reducible assumption) | (with_reducible refine ba ?_ _) | (with_reducible refine bdr ?_) | (with_reducible refine bset ?_ _ ?_ _) | (refine bt ?_ (by assumption)) | (simp; done) | (simp; omega)))) b1; have HK' := Known.step b1 (by (repeat' (first | (with_reducible exact HK) | (with_reducible apply Known.drew) | (with_reducible apply Known.alloc) | (with_reducible apply Known.allocO) | (with_reducible apply Known.setCell)))); replace b0 := b9; clear b9 b1; (try clear kn); (try clear c0 f0 hz); replace HK := HK'; clear HK'; ((try simp only [World.size_alloc, World.size_setCell, World.size_drew] at HK); have kn := HK; simp [Known, setL] at kn); obtain ⟨c0, f0⟩ := bcell b0; have hz := b0.size) | (go_at_call 9; (with_reducible refine (held_any ⟨_, _, _⟩ _ _).mono ?_); rintro e w1 ⟨rfl, b1⟩; have b9 : Below w.heap.size w _ := bt (by (repeat' (first | (with_reducible exact Below.refl _ _) | (with_reducible assumption) | (with_reducible refine ba ?_ _) | (with_reducible refine bdr ?_) | (with_reducible refine bset ?_ _ ?_ _) | (refine bt ?_ (by assumption)) | (simp; done) | (simp; omega)))) b1; have HK' := Known.step b1 (by (repeat' (first | (with_reducible exact HK) | (with_reducible apply Known.drew) | (with_reducible apply Known.alloc) | (with_reducible apply Known.allocO) | (with_reducible apply Known.setCell)))); replace b0 := b9; clear b9 b1; (try clear kn); (try clear c0 f0 hz); replace HK := HK'; clear HK'; ((try simp only [World.size_alloc, World.size_setCell, World.size_drew] at HK); have kn := HK; simp [Known, setL] at kn); obtain ⟨c0, f0⟩ := bcell b0; have hz := b0.size) | (go_at_call 12; (with_reducible refine (pass_any ⟨_⟩ _ _).mono ?_); rintro e w1 ⟨rfl, b1⟩; have b9 : Below w.heap.size w _ := bt (by (repeat' (first | (with_reducible exact Below.refl _ _) | (with_reducible assumption) | (with_reducible refine ba ?_ _) | (with_reducible refine bdr ?_) | (with_reducible refine bset ?_ _ ?_ _) | (refine bt ?_ (by assumption)) | (simp; done) | (simp; omega)))) b1; have HK' := Known.step b1 (by (repeat' (first | (with_reducible exact HK) | (with_reducible apply Known.drew) | (with_reducible apply Known.alloc) | (with_reducible apply Known.allocO) | (with_reducible apply Known.setCell)))); replace b0 := b9; clear b9 b1; (try clear kn); (try clear c0 f0 hz); replace HK := HK'; clear HK'; ((try simp only [World.size_alloc, World.size_setCell, World.size_drew] at HK); have kn := HK; simp [Known, setL] at kn); obtain ⟨c0, f0⟩ := bcell b0; have hz := b0.size))
  go_ret
  exact ⟨rfl, by (repeat' (first | (with_reducible exact Below.refl _ _) | (with_reducible assumption) | (with_reducible refine ba ?_ _) | (with_reducible refine bdr ?_) | (with_reducible refine bset ?_ _ ?_ _) | (refine bt ?_ (by assumption)) | (simp; done) | (simp; omega)))⟩
end Go.Proofs.Ytlekhgmoamhgnaa
