/- Every byte other than 0 has an inverse, and a quotient times its divisor is the dividend: the law FieldInverse returns true. No condition. -/
import Derived.Test.YtbmfcffdnpnonaaFieldAll
namespace Go.Proofs.Ytbmfcffdnpnonaa
open Go.ChangeShapes Go.WideShapes Go.ChangeAt Go.RowKit
open Go.ChangeMaps (open_string shut_string)
set_option maxHeartbeats 1000000 in
theorem FieldInverse_walk (a b : UInt8) (w : World) :
    Calls Try.prog 5 #[B a, B b] w fun e w' => e = .returned (.bool true) ∧ Below w.heap.size w w' := by
  by_cases ha : a = 0
  · have z1 : (((a.toNat : Int)) == 0) = true := beq_yes a 0 ha
    have e5 : errZ a = 5 := by rw [errZ, if_pos ha]
    have E5 := Lib.hid e5
    clear ha e5
    go_enter Try.func5, Try.ntmps5
    go_wp2_with (first
      | (go_at_call 14; (with_reducible refine (begun_any _).mono ?_); rintro e w4 ⟨rfl, b4⟩)
      | (go_at_call 10; (with_reducible refine (inverse_any _ _).mono ?_); rintro e w2 ⟨rfl, b2⟩; rw [E5.out])
      | (go_at_call 11; (with_reducible refine (divide_any _ _ _).mono ?_); rintro e w3 ⟨rfl, b3⟩; rw [E5.out]))
    go_ret
    exact ⟨rfl, bt (bt b2 b3) b4⟩
  · have z1 : (((a.toNat : Int)) == 0) = false := beq_no a 0 ha
    have e1 : (((gmul (ginv a) a).toNat : Int) == 1) = true := beq_yes _ 1 (ginv_mul a ha)
    have e2 := beq_yes (gmul (gmul b (ginv a)) a) b (by rw [gmul_assoc, ginv_mul a ha, gmul_one])
    go_enter Try.func5, Try.ntmps5
    go_wp2_with (first
      | (go_at_call 14; (with_reducible refine (begun_any _).mono ?_); rintro e w4 ⟨rfl, b4⟩)
      | (go_at_call 10; (with_reducible refine (inverse_some _ ha _).mono ?_); rintro e w2 ⟨rfl, b2⟩)
      | (go_at_call 11; (with_reducible refine (divide_some _ _ ha _).mono ?_); rintro e w3 ⟨rfl, b3⟩)
      | (go_at_call 15; (with_reducible refine (mul_any _ _ _).mono ?_); rintro e w6 ⟨rfl, rfl⟩))
    go_ret
    exact ⟨rfl, bt (bt b2 b3) b4⟩
theorem FieldInverse_own : ownKnob Try.prog.godebug = none := by kernel_rfl
theorem FieldInverse_laidOut : laidOutB Try.prog = true := by kernel_rfl
set_option maxRecDepth 100000 in
set_option linter.unusedVariables false in
theorem FieldInverse_lifted (os : Os) (started : os.Started) (H : Type) (enc : TypeId × Value → H) :
    ReturnsInHanded {} Try.checked os 5 .any (Rows.fieldInverseSpec.pre6 enc Try.prog Try.f5 Rows.fieldInverseRow.domain false) (Rows.fieldInverseSpec.post enc Try.prog Try.f5 false true false false) := by
  refine returnsInHanded_of_change (C := Try.checked) FieldInverse_own started (by kernel_rfl) Try.func5
    (ChangeSpec.witness6 (enc := enc) (C := Try.checked) false ⟨#[], #[.int .u8 0, .int .u8 0], []⟩ 8 (by kernel_rfl) (by kernel_rfl) (by kernel_rfl) (by kernel_rfl)) ?_
  intro W base args ds gs before hval0 hW hcnd _
  have hval : ∀ (j : Nat) t v, Try.f5.params[j]? = some t → args[j]? = some v → Value.okWide Try.prog W .any base t v := hval0
  have hW' := hW
  obtain ⟨p, q, hA0, hV, rfl, hfz, hnd⟩ := hW
  have hA : DataW.TrodAll enc Try.prog W 0 (fun _ => true) true Try.f5.params.toList args.toList ds p := hA0
  rw [Try.params5] at hA hval
  obtain ⟨v0, vs0, d0, ds0, p0, q0, hargs, rfl, rfl, h0, r0⟩ := trodAll_cons hA
  obtain ⟨v1, vs1, d1, ds1, p1, q1, rfl, rfl, rfl, h1, r1⟩ := trodAll_cons r0
  obtain ⟨rfl, rfl, rfl⟩ := trodAll_nil r1
  obtain rfl : args = #[v0, v1] := by cases args; simp_all
  obtain ⟨rfl, rfl⟩ := trodVars_none hV
  have k0 := h0
  have lt0 : ∀ x ∈ p0, x.block < W.heap.size := by obtain ⟨m, hm⟩ := k0; exact DataW.trod_lt m _ _ _ hm
  obtain ⟨a0, rfl, e0, e0', w0⟩ := open_int Try.underlying5 (hval 0 5 v0 rfl rfl) h0
  obtain ⟨x0, rfl⟩ := u8_of_wf w0
  have k1 := h1
  have lt1 : ∀ x ∈ p1, x.block < W.heap.size := by obtain ⟨m, hm⟩ := k1; exact DataW.trod_lt m _ _ _ hm
  obtain ⟨a1, rfl, e1, e1', w1⟩ := open_int Try.underlying5 (hval 1 5 v1 rfl rfl) h1
  obtain ⟨x1, rfl⟩ := u8_of_wf w1
  clear hA0 hval0
  refine (FieldInverse_walk x0 x1 W).mono fun e W' ⟨he, bel⟩ => ?_
  subst he
  exact ⟨_, rfl, _, _, _, [], _, [], hW', trodAll_mk1 (shut_bool Try.underlying4 _), (trodAll_cons_mk (Below.trod FieldInverse_laidOut (by kernel_rfl) (of_decide_eq_true (by kernel_rfl)) k0 bel lt0) (trodAll_cons_mk (Below.trod FieldInverse_laidOut (by kernel_rfl) (of_decide_eq_true (by kernel_rfl)) k1 bel lt1) trodAll_mk0)), rfl, bel.frame _, fun h => by cases h⟩
theorem FieldInverse_over : Rows.fieldInverseRow.holds Try.pinned (OpenSpec.ofChange Rows.fieldInverseSpec) :=
  OpenClaim.holds_of_wide 5 Try.f5 rfl rfl rfl rfl rfl rfl rfl ⟨rfl, rfl, rfl, rfl, rfl⟩ rfl rfl rfl rfl rfl (by kernel_rfl) Try.func5 (by kernel_rfl)
    (of_decide_eq_true (by kernel_rfl)) (by unfold Func.isWrapper; first | (rw [if_pos (by decide +kernel)]; kernel_rfl) | (rw [if_neg (by decide +kernel)]; exact ⟨rfl, rfl⟩))
    (fun os started H enc _ => FieldInverse_lifted os started H enc)
theorem FieldInverse_holds : Rows.FieldInverseSaid := FieldInverse_over
end Go.Proofs.Ytbmfcffdnpnonaa
