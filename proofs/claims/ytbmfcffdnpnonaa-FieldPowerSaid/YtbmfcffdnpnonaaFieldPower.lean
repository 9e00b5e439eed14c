/- Powers of sums are products of powers, every byte other than 0 is a power, the period is 255: the law FieldPower returns true. No condition. -/
import Derived.Test.YtbmfcffdnpnonaaFieldAll
namespace Go.Proofs.Ytbmfcffdnpnonaa
open Go.ChangeShapes Go.WideShapes Go.ChangeAt Go.RowKit
open Go.ChangeMaps (open_string shut_string)
set_option maxRecDepth 100000 in
set_option maxHeartbeats 1000000 in
theorem FieldPower_walk (a : UInt8) (n : Int) (_wn : (Lit.int .i64 n).wf = true) (m : Int) (_wm : (Lit.int .i64 m).wf = true) (w : World) :
    Calls Try.prog 6 #[B a, I n, I m] w fun e w' => e = .returned (.bool true) ∧ Below w.heap.size w w' := by
  by_cases hr : -1000000 ≤ n ∧ n ≤ 1000000 ∧ -1000000 ≤ m ∧ m ≤ 1000000
  · obtain ⟨r1, r2, r3, r4⟩ := hr
    have e1 := beq_yes _ _ (powI_add n m)
    have e2 := beq_yes _ _ (powI_255 n)
    by_cases ha : a = 0
    · have z1 : (((a.toNat : Int)) == 0) = true := beq_yes a 0 ha
      have e5 : errZ a = 5 := by rw [errZ, if_pos ha]
      have E5 := Lib.hid e5
      clear ha e5
      go_enter Try.func6, Try.ntmps6
      go_wp2_with (first
        | (go_at_call 14; (with_reducible refine (begun_any _).mono ?_); rintro e w4 ⟨rfl, b4⟩)
        | (go_at_call 9; (with_reducible refine (log_any _ _).mono ?_); rintro e w2 ⟨rfl, b2⟩; rw [E5.out])
        | (go_at_call 17; (with_reducible refine (power_any _ _).mono ?_); rintro e w5 ⟨rfl, b5⟩; replace b4 := bt b4 b5; clear b5)
        | (go_at_call 15; (with_reducible refine (mul_any _ _ _).mono ?_); rintro e w6 ⟨rfl, rfl⟩))
      go_ret
      exact ⟨rfl, bt b2 b4⟩
    · have z1 : (((a.toNat : Int)) == 0) = false := beq_no a 0 ha
      have e3 := beq_yes _ _ (powI_lg a ha)
      have h5 := lg_lt a
      go_enter Try.func6, Try.ntmps6
      go_wp2_with (first
        | (go_at_call 14; (with_reducible refine (begun_any _).mono ?_); rintro e w4 ⟨rfl, b4⟩)
        | (go_at_call 9; (with_reducible refine (log_some _ ha _).mono ?_); rintro e w2 ⟨rfl, b2⟩)
        | (go_at_call 17; (with_reducible refine (power_any _ _).mono ?_); rintro e w5 ⟨rfl, b5⟩; replace b4 := bt b4 b5; clear b5)
        | (go_at_call 15; (with_reducible refine (mul_any _ _ _).mono ?_); rintro e w6 ⟨rfl, rfl⟩))
      go_ret
      exact ⟨by simp; omega, bt b2 b4⟩
  · have key : n < -1000000 ∨ (-1000000 ≤ n ∧ 1000000 < n) ∨ (-1000000 ≤ n ∧ n ≤ 1000000 ∧ m < -1000000) ∨ (-1000000 ≤ n ∧ n ≤ 1000000 ∧ -1000000 ≤ m ∧ 1000000 < m) := by omega
    clear hr
    rcases key with k1 | ⟨k1, k2⟩ | ⟨k1, k2, k3⟩ | ⟨k1, k2, k3, k4⟩
    all_goals
      go_enter Try.func6, Try.ntmps6
      go_wp2_with (first
        | (go_at_call 14; (with_reducible refine (begun_any _).mono ?_); rintro e w4 ⟨rfl, b4⟩)
        | (go_at_call 9; (with_reducible refine (log_any _ _).mono ?_); rintro e w2 ⟨rfl, b2⟩))
      go_ret
      exact ⟨rfl, bt b2 b4⟩
theorem FieldPower_own : ownKnob Try.prog.godebug = none := by kernel_rfl
theorem FieldPower_laidOut : laidOutB Try.prog = true := by kernel_rfl
set_option maxRecDepth 100000 in
set_option linter.unusedVariables false in
theorem FieldPower_lifted (os : Os) (started : os.Started) (H : Type) (enc : TypeId × Value → H) :
    ReturnsInHanded {} Try.checked os 6 .any (Rows.fieldPowerSpec.pre6 enc Try.prog Try.f6 Rows.fieldPowerRow.domain false) (Rows.fieldPowerSpec.post enc Try.prog Try.f6 false true false false) := by
  refine returnsInHanded_of_change (C := Try.checked) FieldPower_own started (by kernel_rfl) Try.func6
    (ChangeSpec.witness6 (enc := enc) (C := Try.checked) false ⟨#[], #[.int .u8 0, .int .i64 0, .int .i64 0], []⟩ 8 (by kernel_rfl) (by kernel_rfl) (by kernel_rfl) (by kernel_rfl)) ?_
  intro W base args ds gs before hval0 hW hcnd _
  have hval : ∀ (j : Nat) t v, Try.f6.params[j]? = some t → args[j]? = some v → Value.okWide Try.prog W .any base t v := hval0
  have hW' := hW
  obtain ⟨p, q, hA0, hV, rfl, hfz, hnd⟩ := hW
  have hA : DataW.TrodAll enc Try.prog W 0 (fun _ => true) true Try.f6.params.toList args.toList ds p := hA0
  rw [Try.params6] at hA hval
  obtain ⟨v0, vs0, d0, ds0, p0, q0, hargs, rfl, rfl, h0, r0⟩ := trodAll_cons hA
  obtain ⟨v1, vs1, d1, ds1, p1, q1, rfl, rfl, rfl, h1, r1⟩ := trodAll_cons r0
  obtain ⟨v2, vs2, d2, ds2, p2, q2, rfl, rfl, rfl, h2, r2⟩ := trodAll_cons r1
  obtain ⟨rfl, rfl, rfl⟩ := trodAll_nil r2
  obtain rfl : args = #[v0, v1, v2] := by cases args; simp_all
  obtain ⟨rfl, rfl⟩ := trodVars_none hV
  have k0 := h0
  have lt0 : ∀ x ∈ p0, x.block < W.heap.size := by obtain ⟨m, hm⟩ := k0; exact DataW.trod_lt m _ _ _ hm
  obtain ⟨a0, rfl, e0, e0', w0⟩ := open_int Try.underlying5 (hval 0 5 v0 rfl rfl) h0
  obtain ⟨x0, rfl⟩ := u8_of_wf w0
  have k1 := h1
  have lt1 : ∀ x ∈ p1, x.block < W.heap.size := by obtain ⟨m, hm⟩ := k1; exact DataW.trod_lt m _ _ _ hm
  obtain ⟨a1, rfl, e1, e1', w1⟩ := open_int Try.underlying3 (hval 1 3 v1 rfl rfl) h1
  have k2 := h2
  have lt2 : ∀ x ∈ p2, x.block < W.heap.size := by obtain ⟨m, hm⟩ := k2; exact DataW.trod_lt m _ _ _ hm
  obtain ⟨a2, rfl, e2, e2', w2⟩ := open_int Try.underlying3 (hval 2 3 v2 rfl rfl) h2
  clear hA0 hval0
  refine (FieldPower_walk x0 a1 w1 a2 w2 W).mono fun e W' ⟨he, bel⟩ => ?_
  subst he
  exact ⟨_, rfl, _, _, _, [], _, [], hW', trodAll_mk1 (shut_bool Try.underlying4 _), (trodAll_cons_mk (Below.trod FieldPower_laidOut (by kernel_rfl) (of_decide_eq_true (by kernel_rfl)) k0 bel lt0) (trodAll_cons_mk (Below.trod FieldPower_laidOut (by kernel_rfl) (of_decide_eq_true (by kernel_rfl)) k1 bel lt1) (trodAll_cons_mk (Below.trod FieldPower_laidOut (by kernel_rfl) (of_decide_eq_true (by kernel_rfl)) k2 bel lt2) trodAll_mk0))), rfl, bel.frame _, fun h => by cases h⟩
theorem FieldPower_over : Rows.fieldPowerRow.holds Try.pinned (OpenSpec.ofChange Rows.fieldPowerSpec) :=
  OpenClaim.holds_of_wide 6 Try.f6 rfl rfl rfl rfl rfl rfl rfl ⟨rfl, rfl, rfl, rfl, rfl⟩ rfl rfl rfl rfl rfl (by kernel_rfl) Try.func6 (by kernel_rfl)
    (of_decide_eq_true (by kernel_rfl)) (by unfold Func.isWrapper; first | (rw [if_pos (by decide +kernel)]; kernel_rfl) | (rw [if_neg (by decide +kernel)]; exact ⟨rfl, rfl⟩))
    (fun os started H enc _ => FieldPower_lifted os started H enc)
theorem FieldPower_holds : Rows.FieldPowerSaid := FieldPower_over
end Go.Proofs.Ytbmfcffdnpnonaa
