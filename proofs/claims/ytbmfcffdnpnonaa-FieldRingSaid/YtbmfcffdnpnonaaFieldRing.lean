/- Bytes form a commutative ring with 1 and without zero divisors: the law FieldRing returns true. No condition. -/
import Derived.Test.YtbmfcffdnpnonaaField
namespace Go.Proofs.Ytbmfcffdnpnonaa
open Go.ChangeShapes Go.WideShapes Go.ChangeAt Go.RowKit
open Go.ChangeMaps (open_string shut_string)
set_option maxHeartbeats 1000000 in
theorem FieldRing_walk (a b c : UInt8) (w : World) : Calls Try.prog 4 #[B a, B b, B c] w fun e w' => e = .returned (.bool true) ∧ Below w.heap.size w w' := by
  have e1 := beq_yes _ _ (gmul_comm a b)
  have e2 := beq_yes _ _ (gmul_assoc a b c)
  have e3 := beq_yes _ _ (gmul_add a b c)
  rw [← B_xor] at e3
  have key : ((((gmul a b).toNat : Int)) == 0) = true ∧ (((a.toNat : Int)) == 0) = true ∨ ((((gmul a b).toNat : Int)) == 0) = true ∧ (((a.toNat : Int)) == 0) = false ∧ (((b.toNat : Int)) == 0) = true
      ∨ ((((gmul a b).toNat : Int)) == 0) = false ∧ (((a.toNat : Int)) == 0) = false ∧ (((b.toNat : Int)) == 0) = false := by
    by_cases ha : a = 0
    · exact .inl ⟨beq_yes _ 0 ((gmul_eq_zero a b).2 (.inl ha)), beq_yes a 0 ha⟩
    · by_cases hb : b = 0
      · exact .inr (.inl ⟨beq_yes _ 0 ((gmul_eq_zero a b).2 (.inr hb)), beq_no a 0 ha, beq_yes b 0 hb⟩)
      · exact .inr (.inr ⟨beq_no _ 0 (fun h => by rcases (gmul_eq_zero a b).1 h with h | h <;> contradiction), beq_no a 0 ha, beq_no b 0 hb⟩)
  rcases key with ⟨z1, z2⟩ | ⟨z1, z2, z3⟩ | ⟨z1, z2, z3⟩
  all_goals
    go_enter Try.func4, Try.ntmps4
    go_wp2_with (first
      | (go_at_call 14; (with_reducible refine (begun_any _).mono ?_); rintro e w1 ⟨rfl, b1⟩)
      | (go_at_call 15; (with_reducible refine (mul_any _ _ _).mono ?_); rintro e w2 ⟨rfl, rfl⟩)
      | (go_at_call 15; (with_reducible refine (mul_x _ _ _ _).mono ?_); rintro e w2 ⟨rfl, rfl⟩)
      | (go_at_call 15; (with_reducible refine (mul_1 _ _).mono ?_); rintro e w2 ⟨rfl, rfl⟩))
    go_ret
    exact ⟨rfl, b1⟩
theorem FieldRing_own : ownKnob Try.prog.godebug = none := by kernel_rfl
theorem FieldRing_laidOut : laidOutB Try.prog = true := by kernel_rfl
set_option maxRecDepth 100000 in
set_option linter.unusedVariables false in
theorem FieldRing_lifted (os : Os) (started : os.Started) (H : Type) (enc : TypeId × Value → H) :
    ReturnsInHanded {} Try.checked os 4 .any (Rows.fieldRingSpec.pre6 enc Try.prog Try.f4 Rows.fieldRingRow.domain false) (Rows.fieldRingSpec.post enc Try.prog Try.f4 false true false false) := by
  refine returnsInHanded_of_change (C := Try.checked) FieldRing_own started (by kernel_rfl) Try.func4
    (ChangeSpec.witness6 (enc := enc) (C := Try.checked) false ⟨#[], #[.int .u8 0, .int .u8 0, .int .u8 0], []⟩ 8 (by kernel_rfl) (by kernel_rfl) (by kernel_rfl) (by kernel_rfl)) ?_
  intro W base args ds gs before hval0 hW hcnd _
  have hval : ∀ (j : Nat) t v, Try.f4.params[j]? = some t → args[j]? = some v → Value.okWide Try.prog W .any base t v := hval0
  have hW' := hW
  obtain ⟨p, q, hA0, hV, rfl, hfz, hnd⟩ := hW
  have hA : DataW.TrodAll enc Try.prog W 0 (fun _ => true) true Try.f4.params.toList args.toList ds p := hA0
  rw [Try.params4] at hA hval
  obtain ⟨v0, vs0, d0, ds0, p0, q0, hargs, rfl, rfl, h0, r0⟩ := trodAll_cons hA
  obtain ⟨v1, vs1, d1, ds1, p1, q1, rfl, rfl, rfl, h1, r1⟩ := trodAll_cons r0
  obtain ⟨v2, vs2, d2, ds2, p2, q2, rfl, rfl, rfl, h2, r2⟩ := trodAll_cons r1
  obtain ⟨rfl, rfl, rfl⟩ := trodAll_nil r2
  obtain rfl : args = #[v0, v1, v2] := by cases args; simp_all
  obtain ⟨rfl, rfl⟩ := trodVars_none hV
  have k0 := h0
  have lt0 : ∀ x ∈ p0, x.block < W.heap.size := by obtain ⟨m, hm⟩ := k0; exact DataW.trod_lt m _ _ _ hm
  obtain ⟨a0, rfl, e0, e0', w0⟩ := open_int Try.underlying5 (hval 0 5 v0 rfl rfl) h0
  obtain ⟨x0, rfl⟩ := u8_of_wf w0
  have k1 := h1
  have lt1 : ∀ x ∈ p1, x.block < W.heap.size := by obtain ⟨m, hm⟩ := k1; exact DataW.trod_lt m _ _ _ hm
  obtain ⟨a1, rfl, e1, e1', w1⟩ := open_int Try.underlying5 (hval 1 5 v1 rfl rfl) h1
  obtain ⟨x1, rfl⟩ := u8_of_wf w1
  have k2 := h2
  have lt2 : ∀ x ∈ p2, x.block < W.heap.size := by obtain ⟨m, hm⟩ := k2; exact DataW.trod_lt m _ _ _ hm
  obtain ⟨a2, rfl, e2, e2', w2⟩ := open_int Try.underlying5 (hval 2 5 v2 rfl rfl) h2
  obtain ⟨x2, rfl⟩ := u8_of_wf w2
  clear hA0 hval0
  refine (FieldRing_walk x0 x1 x2 W).mono fun e W' ⟨he, bel⟩ => ?_
  subst he
  exact ⟨_, rfl, _, _, _, [], _, [], hW', trodAll_mk1 (shut_bool Try.underlying4 _), (trodAll_cons_mk (Below.trod FieldRing_laidOut (by kernel_rfl) (of_decide_eq_true (by kernel_rfl)) k0 bel lt0) (trodAll_cons_mk (Below.trod FieldRing_laidOut (by kernel_rfl) (of_decide_eq_true (by kernel_rfl)) k1 bel lt1) (trodAll_cons_mk (Below.trod FieldRing_laidOut (by kernel_rfl) (of_decide_eq_true (by kernel_rfl)) k2 bel lt2) trodAll_mk0))), rfl, bel.frame _, fun h => by cases h⟩
theorem FieldRing_over : Rows.fieldRingRow.holds Try.pinned (OpenSpec.ofChange Rows.fieldRingSpec) :=
  OpenClaim.holds_of_wide 4 Try.f4 rfl rfl rfl rfl rfl rfl rfl ⟨rfl, rfl, rfl, rfl, rfl⟩ rfl rfl rfl rfl rfl (by kernel_rfl) Try.func4 (by kernel_rfl)
    (of_decide_eq_true (by kernel_rfl)) (by unfold Func.isWrapper; first | (rw [if_pos (by decide +kernel)]; kernel_rfl) | (rw [if_neg (by decide +kernel)]; exact ⟨rfl, rfl⟩))
    (fun os started H enc _ => FieldRing_lifted os started H enc)
theorem FieldRing_holds : Rows.FieldRingSaid := FieldRing_over
end Go.Proofs.Ytbmfcffdnpnonaa
