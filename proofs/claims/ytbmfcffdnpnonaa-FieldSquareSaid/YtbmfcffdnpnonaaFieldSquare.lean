/- Squaring is additive, and the 256th power of every byte is itself: the law FieldSquare returns true. No condition. -/
import Derived.Test.YtbmfcffdnpnonaaFieldAll
namespace Go.Proofs.Ytbmfcffdnpnonaa
open Go.ChangeShapes Go.WideShapes Go.ChangeAt Go.RowKit
open Go.ChangeMaps (open_string shut_string)
def sq : Nat → UInt8 → UInt8
  | 0, x => x
  | n+1, x => gmul (sq n x) (sq n x)
theorem sq_8 (a : UInt8) : sq 8 a = a := by
  have := all8 (fun a => sq 8 a == a) (by decide +kernel) a
  simpa using this
theorem sq_add (a b : UInt8) : gmul (a ^^^ b) (a ^^^ b) = gmul a a ^^^ gmul b b := by
  rw [gmul_add_left, gmul_add, gmul_add, gmul_comm b a]
  generalize gmul a b = c
  rw [UInt8.xor_assoc, ← UInt8.xor_assoc c, UInt8.xor_self, UInt8.zero_xor]
theorem mul_xx (a b : UInt8) (w : World) : Calls Try.prog 15 #[.int .u8 (bits .xor .u8 (a.toNat : Int) (b.toNat : Int)), .int .u8 (bits .xor .u8 (a.toNat : Int) (b.toNat : Int))] w fun e w' => e = .returned (B (gmul (a ^^^ b) (a ^^^ b))) ∧ w = w' := by
  rw [B_xor]; exact mul_any _ _ _
set_option maxRecDepth 100000 in
set_option maxHeartbeats 1000000 in
theorem FieldSquare_walk (a b : UInt8) (w : World) :
    Calls Try.prog 7 #[B a, B b] w fun e w' => e = .returned (.bool true) ∧ Below w.heap.size w w' := by
  have e1 := beq_yes _ _ (sq_add a b)
  rw [← B_xor] at e1
  go_enter Try.func7, Try.ntmps7
  go_wp2
  go_loop [6, 7] (fun x i => ∃ k : Nat, k ≤ 8 ∧ i = I k ∧ x = B (sq k a)) (fun _ i => (8 - intOf i).toNat)
  case atStart => exact ⟨0, by omega, rfl, rfl⟩
  case round =>
    obtain ⟨k, hk, rfl, rfl⟩ := hrel
    by_cases hlt : k < 8
    · go_wp2_with (go_at_call 15; (with_reducible refine (mul_any _ _ _).mono ?_); rintro e w6 ⟨rfl, rfl⟩)
      go_round
      case rel => exact ⟨k + 1, by omega, by go_num, rfl⟩
      case measure => simp [intOf]; omega
    · obtain rfl : k = 8 := by omega
      rw [sq_8]
      go_wp2_with (first
        | (go_at_call 14; (with_reducible refine (begun_any _).mono ?_); rintro e w4 ⟨rfl, b4⟩)
        | (go_at_call 15; (with_reducible refine (mul_any _ _ _).mono ?_); rintro e w6 ⟨rfl, rfl⟩)
        | (go_at_call 15; (with_reducible refine (mul_xx _ _ _).mono ?_); rintro e w6 ⟨rfl, rfl⟩))
      go_ret
      exact ⟨rfl, b4⟩
theorem FieldSquare_own : ownKnob Try.prog.godebug = none := by kernel_rfl
theorem FieldSquare_laidOut : laidOutB Try.prog = true := by kernel_rfl
set_option maxRecDepth 100000 in
set_option linter.unusedVariables false in
theorem FieldSquare_lifted (os : Os) (started : os.Started) (H : Type) (enc : TypeId × Value → H) :
    ReturnsInHanded {} Try.checked os 7 .any (Rows.fieldSquareSpec.pre6 enc Try.prog Try.f7 Rows.fieldSquareRow.domain false) (Rows.fieldSquareSpec.post enc Try.prog Try.f7 false true false false) := by
  refine returnsInHanded_of_change (C := Try.checked) FieldSquare_own started (by kernel_rfl) Try.func7
    (ChangeSpec.witness6 (enc := enc) (C := Try.checked) false ⟨#[], #[.int .u8 0, .int .u8 0], []⟩ 8 (by kernel_rfl) (by kernel_rfl) (by kernel_rfl) (by kernel_rfl)) ?_
  intro W base args ds gs before hval0 hW hcnd _
  have hval : ∀ (j : Nat) t v, Try.f7.params[j]? = some t → args[j]? = some v → Value.okWide Try.prog W .any base t v := hval0
  have hW' := hW
  obtain ⟨p, q, hA0, hV, rfl, hfz, hnd⟩ := hW
  have hA : DataW.TrodAll enc Try.prog W 0 (fun _ => true) true Try.f7.params.toList args.toList ds p := hA0
  rw [Try.params7] at hA hval
  obtain ⟨v0, vs0, d0, ds0, p0, q0, hargs, rfl, rfl, h0, r0⟩ := trodAll_cons hA
  obtain ⟨v1, vs1, d1, ds1, p1, q1, rfl, rfl, rfl, h1, r1⟩ := trodAll_cons r0
  obtain ⟨rfl, rfl, rfl⟩ := trodAll_nil r1
  obtain rfl : args = #[v0, v1] := by cases args; simp_all
  obtain ⟨rfl, rfl⟩ := trodVars_none hV
  have k0 := h0
  have lt0 : ∀ x ∈ p0, x.block < W.heap.size := by obtain ⟨m, hm⟩ := k0; exact DataW.trod_lt m _ _ _ hm
  obtain ⟨a0, rfl, e0, e0', w0⟩ := open_int Try.underlying5 (hval 0 5 v0 rfl rfl) h0
  obtain ⟨x0, rfl⟩ := u8_of_wf w0
  have k1 := h1
  have lt1 : ∀ x ∈ p1, x.block < W.heap.size := by obtain ⟨m, hm⟩ := k1; exact DataW.trod_lt m _ _ _ hm
  obtain ⟨a1, rfl, e1, e1', w1⟩ := open_int Try.underlying5 (hval 1 5 v1 rfl rfl) h1
  obtain ⟨x1, rfl⟩ := u8_of_wf w1
  clear hA0 hval0
  refine (FieldSquare_walk x0 x1 W).mono fun e W' ⟨he, bel⟩ => ?_
  subst he
  exact ⟨_, rfl, _, _, _, [], _, [], hW', trodAll_mk1 (shut_bool Try.underlying4 _), (trodAll_cons_mk (Below.trod FieldSquare_laidOut (by kernel_rfl) (of_decide_eq_true (by kernel_rfl)) k0 bel lt0) (trodAll_cons_mk (Below.trod FieldSquare_laidOut (by kernel_rfl) (of_decide_eq_true (by kernel_rfl)) k1 bel lt1) trodAll_mk0)), rfl, bel.frame _, fun h => by cases h⟩
theorem FieldSquare_over : Rows.fieldSquareRow.holds Try.pinned (OpenSpec.ofChange Rows.fieldSquareSpec) :=
  OpenClaim.holds_of_wide 7 Try.f7 rfl rfl rfl rfl rfl rfl rfl ⟨rfl, rfl, rfl, rfl, rfl⟩ rfl rfl rfl rfl rfl (by kernel_rfl) Try.func7 (by kernel_rfl)
    (of_decide_eq_true (by kernel_rfl)) (by unfold Func.isWrapper; first | (rw [if_pos (by decide +kernel)]; kernel_rfl) | (rw [if_neg (by decide +kernel)]; exact ⟨rfl, rfl⟩))
    (fun os started H enc _ => FieldSquare_lifted os started H enc)
theorem FieldSquare_holds : Rows.FieldSquareSaid := FieldSquare_over
end Go.Proofs.Ytbmfcffdnpnonaa
