/- What functions answer (contracts). No condition. -/
import Derived.Test.YtnbgbknocijjlaaPMD
set_option linter.unusedSimpArgs false
set_option linter.unusedVariables false
set_option maxHeartbeats 4000000
set_option maxRecDepth 100000
namespace Go.Proofs.Ytnbgbknocijjlaa
open Go.RowKit
theorem clear_vc (cols : Int) (KI : RwL) (AI : ArL) (Q : Int → RwL → ArL → Prop) (h0 : ClI 0 0 cols KI AI 0 0 cols KI AI) (hQ : ∀ d K A, 0 ≤ d → (∃ m : Nat, Mt A K KI.length m ∧ cols ≤ m) → clrL cols.toNat (vw AI KI) 0 0 = (vw A K, d.toNat) → Q d K A) :
  ClI (0 : Int) (0 : Int) cols KI AI (0 : Int) (0 : Int) cols KI AI ∧ ∀ (x x_3 x_4 : Int) (x_5 : List (Row UInt8)) (x_6 : List (Nat × List UInt8)), ClI (0 : Int) (0 : Int) cols KI AI x x_3 x_4 x_5 x_6 → (x < cols → ((0 : Int) ≤ x_3 ∧ x_3 ≤ (↑x_5.length : Int)) ∧ IxI (0 : Int) (x_3.toNat, (↑x_5.length : Int).toNat - x_3.toNat) x x_5 x_6 (0 : Int) (x_3.toNat, (↑x_5.length : Int).toNat - x_3.toNat) x x_5 x_6 ∧ ∀ (x_7 : Int) (x_8 : Nat × Nat) (x_9 : Int) (x_10 : List (Row UInt8)) (x_11 : List (Nat × List UInt8)), IxI (0 : Int) (x_3.toNat, (↑x_5.length : Int).toNat - x_3.toNat) x x_5 x_6 x_7 x_8 x_9 x_10 x_11 → (x_7 < (↑((↑x_5.length : Int).toNat - x_3.toNat) : Int) → ((0 : Int) ≤ x_7 ∧ x_7 < (↑x_8.snd : Int)) ∧ x_8.fst + x_7.toNat < x_10.length ∧ (gd (Row.no UInt8) x_10 (x_8.fst + x_7.toNat)).ok x_11 ∧ (gd (Row.no UInt8) x_10 (x_8.fst + x_7.toNat)).kd ≠ RK.nil ∧ ((0 : Int) ≤ x_9 ∧ x_9 < (↑((gd (Row.no UInt8) x_10 (x_8.fst + x_7.toNat)).get x_11).length : Int)) ∧ (decide (gd (0 : UInt8) ((gd (Row.no UInt8) x_10 (x_8.fst + x_7.toNat)).get x_11) x_9.toNat ≠ (0 : UInt8)) = true → (x_7 < (0 : Int) → I64 (x + (1 : Int)) ∧ ClI (0 : Int) (0 : Int) cols KI AI (x + (1 : Int)) x_3 x_4 x_10 x_11 ∧ (x_4 - (x + (1 : Int))).toNat < (x_4 - x).toNat) ∧ ((0 : Int) ≤ x_7 → I64 (x_3 + x_7) ∧ I64 (x_3 + x_7) ∧ ((0 : Int) ≤ x_3 + x_7 ∧ x_3 + x_7 < (↑x_10.length : Int)) ∧ (x_3 + x_7).toNat < x_10.length ∧ ((0 : Int) ≤ x_3 ∧ x_3 < (↑x_10.length : Int)) ∧ x_3.toNat < x_10.length ∧ ((0 : Int) ≤ x_3 ∧ x_3 < (↑x_10.length : Int)) ∧ x_3.toNat < x_10.length ∧ ((0 : Int) ≤ x_3 + x_7 ∧ x_3 + x_7 < (↑(x_10.set x_3.toNat (gd (Row.no UInt8) x_10 (x_3 + x_7).toNat)).length : Int)) ∧ (x_3 + x_7).toNat < (x_10.set x_3.toNat (gd (Row.no UInt8) x_10 (x_3 + x_7).toNat)).length ∧ ((0 : Int) ≤ x_3 ∧ x_3 < (↑((x_10.set x_3.toNat (gd (Row.no UInt8) x_10 (x_3 + x_7).toNat)).set (x_3 + x_7).toNat (gd (Row.no UInt8) x_10 x_3.toNat)).length : Int)) ∧ x_3.toNat < ((x_10.set x_3.toNat (gd (Row.no UInt8) x_10 (x_3 + x_7).toNat)).set (x_3 + x_7).toNat (gd (Row.no UInt8) x_10 x_3.toNat)).length ∧ (gd (Row.no UInt8) ((x_10.set x_3.toNat (gd (Row.no UInt8) x_10 (x_3 + x_7).toNat)).set (x_3 + x_7).toNat (gd (Row.no UInt8) x_10 x_3.toNat)) x_3.toNat).ok x_11 ∧ ((0 : Int) ≤ x_9 ∧ x_9 < (↑((gd (Row.no UInt8) ((x_10.set x_3.toNat (gd (Row.no UInt8) x_10 (x_3 + x_7).toNat)).set (x_3 + x_7).toNat (gd (Row.no UInt8) x_10 x_3.toNat)) x_3.toNat).get x_11).length : Int)) ∧ (gd (Row.no UInt8) ((x_10.set x_3.toNat (gd (Row.no UInt8) x_10 (x_3 + x_7).toNat)).set (x_3 + x_7).toNat (gd (Row.no UInt8) x_10 x_3.toNat)) x_3.toNat).ok x_11 ∧ x_9.toNat < ((gd (Row.no UInt8) ((x_10.set x_3.toNat (gd (Row.no UInt8) x_10 (x_3 + x_7).toNat)).set (x_3 + x_7).toNat (gd (Row.no UInt8) x_10 x_3.toNat)) x_3.toNat).get x_11).length ∧ True ∧ ((0 : Int) ≤ x_3 ∧ x_3 < (↑((x_10.set x_3.toNat (gd (Row.no UInt8) x_10 (x_3 + x_7).toNat)).set (x_3 + x_7).toNat (gd (Row.no UInt8) x_10 x_3.toNat)).length : Int)) ∧ x_3.toNat < ((x_10.set x_3.toNat (gd (Row.no UInt8) x_10 (x_3 + x_7).toNat)).set (x_3 + x_7).toNat (gd (Row.no UInt8) x_10 x_3.toNat)).length ∧ (gd (Row.no UInt8) ((x_10.set x_3.toNat (gd (Row.no UInt8) x_10 (x_3 + x_7).toNat)).set (x_3 + x_7).toNat (gd (Row.no UInt8) x_10 x_3.toNat)) x_3.toNat).ok x_11 ∧ ScI (0 : Int) x_3 (invN (gd (0 : UInt8) ((gd (Row.no UInt8) ((x_10.set x_3.toNat (gd (Row.no UInt8) x_10 (x_3 + x_7).toNat)).set (x_3 + x_7).toNat (gd (Row.no UInt8) x_10 x_3.toNat)) x_3.toNat).get x_11) x_9.toNat)) ((x_10.set x_3.toNat (gd (Row.no UInt8) x_10 (x_3 + x_7).toNat)).set (x_3 + x_7).toNat (gd (Row.no UInt8) x_10 x_3.toNat)) x_11 (0 : Int) x_3 (invN (gd (0 : UInt8) ((gd (Row.no UInt8) ((x_10.set x_3.toNat (gd (Row.no UInt8) x_10 (x_3 + x_7).toNat)).set (x_3 + x_7).toNat (gd (Row.no UInt8) x_10 x_3.toNat)) x_3.toNat).get x_11) x_9.toNat)) ((x_10.set x_3.toNat (gd (Row.no UInt8) x_10 (x_3 + x_7).toNat)).set (x_3 + x_7).toNat (gd (Row.no UInt8) x_10 x_3.toNat)) x_11 ∧ ∀ (x_12 x_13 : Int) (x_14 : UInt8) (x_15 : List (Row UInt8)) (x_16 : List (Nat × List UInt8)), ScI (0 : Int) x_3 (invN (gd (0 : UInt8) ((gd (Row.no UInt8) ((x_10.set x_3.toNat (gd (Row.no UInt8) x_10 (x_3 + x_7).toNat)).set (x_3 + x_7).toNat (gd (Row.no UInt8) x_10 x_3.toNat)) x_3.toNat).get x_11) x_9.toNat)) ((x_10.set x_3.toNat (gd (Row.no UInt8) x_10 (x_3 + x_7).toNat)).set (x_3 + x_7).toNat (gd (Row.no UInt8) x_10 x_3.toNat)) x_11 x_12 x_13 x_14 x_15 x_16 → (x_12 < (↑((gd (Row.no UInt8) ((x_10.set x_3.toNat (gd (Row.no UInt8) x_10 (x_3 + x_7).toNat)).set (x_3 + x_7).toNat (gd (Row.no UInt8) x_10 x_3.toNat)) x_3.toNat).get x_11).length : Int) → ((0 : Int) ≤ x_13 ∧ x_13 < (↑x_15.length : Int)) ∧ x_13.toNat < x_15.length ∧ ((0 : Int) ≤ x_13 ∧ x_13 < (↑x_15.length : Int)) ∧ x_13.toNat < x_15.length ∧ (gd (Row.no UInt8) x_15 x_13.toNat).ok x_16 ∧ ((0 : Int) ≤ x_12 ∧ x_12 < (↑((gd (Row.no UInt8) x_15 x_13.toNat).get x_16).length : Int)) ∧ (gd (Row.no UInt8) x_15 x_13.toNat).ok x_16 ∧ x_12.toNat < ((gd (Row.no UInt8) x_15 x_13.toNat).get x_16).length ∧ True ∧ (gd (Row.no UInt8) x_15 x_13.toNat).ok x_16 ∧ ((0 : Int) ≤ x_12 ∧ x_12 < (↑((gd (Row.no UInt8) x_15 x_13.toNat).get x_16).length : Int)) ∧ (gd (Row.no UInt8) x_15 x_13.toNat).mine x_16 ∧ x_12.toNat < ((gd (Row.no UInt8) x_15 x_13.toNat).get x_16).length ∧ I64 (x_12 + (1 : Int)) ∧ ScI (0 : Int) x_3 (invN (gd (0 : UInt8) ((gd (Row.no UInt8) ((x_10.set x_3.toNat (gd (Row.no UInt8) x_10 (x_3 + x_7).toNat)).set (x_3 + x_7).toNat (gd (Row.no UInt8) x_10 x_3.toNat)) x_3.toNat).get x_11) x_9.toNat)) ((x_10.set x_3.toNat (gd (Row.no UInt8) x_10 (x_3 + x_7).toNat)).set (x_3 + x_7).toNat (gd (Row.no UInt8) x_10 x_3.toNat)) x_11 (x_12 + (1 : Int)) x_13 x_14 x_15 (((gd (Row.no UInt8) x_15 x_13.toNat).id, ((gd (Row.no UInt8) x_15 x_13.toNat).get x_16).set x_12.toNat (gmul (gd (0 : UInt8) ((gd (Row.no UInt8) x_15 x_13.toNat).get x_16) x_12.toNat) x_14)) :: x_16) ∧ ((↑(lkA x_11 (rAt x_15 x_13).id).length : Int) - (x_12 + (1 : Int))).toNat < ((↑(lkA x_11 (rAt x_15 x_13).id).length : Int) - x_12).toNat) ∧ ((↑((gd (Row.no UInt8) ((x_10.set x_3.toNat (gd (Row.no UInt8) x_10 (x_3 + x_7).toNat)).set (x_3 + x_7).toNat (gd (Row.no UInt8) x_10 x_3.toNat)) x_3.toNat).get x_11).length : Int) ≤ x_12 → OfI (0 : Int) x x_3 x_15 x_16 (0 : Int) x x_3 x_15 x_16 ∧ ∀ (x_17 x_18 x_19 : Int) (x_20 : List (Row UInt8)) (x_21 : List (Nat × List UInt8)), OfI (0 : Int) x x_3 x_15 x_16 x_17 x_18 x_19 x_20 x_21 → (x_17 < (↑x_15.length : Int) → (¬x_17 = x_19 → ((0 : Int) ≤ x_17 ∧ x_17 < (↑x_20.length : Int)) ∧ x_17.toNat < x_20.length ∧ (gd (Row.no UInt8) x_20 x_17.toNat).ok x_21 ∧ ((0 : Int) ≤ x_9 ∧ x_9 < (↑((gd (Row.no UInt8) x_20 x_17.toNat).get x_21).length : Int)) ∧ (gd (Row.no UInt8) x_20 x_17.toNat).ok x_21 ∧ x_9.toNat < ((gd (Row.no UInt8) x_20 x_17.toNat).get x_21).length ∧ ((0 : Int) ≤ x_19 ∧ x_19 < (↑x_20.length : Int)) ∧ x_19.toNat < x_20.length ∧ (gd (Row.no UInt8) x_20 x_19.toNat).ok x_21 ∧ AdI (0 : Int) x_17 x_19 (gd (0 : UInt8) ((gd (Row.no UInt8) x_20 x_17.toNat).get x_21) x_9.toNat) x_20 x_21 (0 : Int) x_17 x_19 (gd (0 : UInt8) ((gd (Row.no UInt8) x_20 x_17.toNat).get x_21) x_9.toNat) x_20 x_21 ∧ ∀ (x_22 x_23 x_24 : Int) (x_25 : UInt8) (x_26 : List (Row UInt8)) (x_27 : List (Nat × List UInt8)), AdI (0 : Int) x_17 x_19 (gd (0 : UInt8) ((gd (Row.no UInt8) x_20 x_17.toNat).get x_21) x_9.toNat) x_20 x_21 x_22 x_23 x_24 x_25 x_26 x_27 → (x_22 < (↑((gd (Row.no UInt8) x_20 x_19.toNat).get x_21).length : Int) → (gd (Row.no UInt8) x_20 x_19.toNat).ok x_27 ∧ ((0 : Int) ≤ x_22 ∧ x_22 < (↑((gd (Row.no UInt8) x_20 x_19.toNat).get x_27).length : Int)) ∧ (gd (Row.no UInt8) x_20 x_19.toNat).ok x_27 ∧ x_22.toNat < ((gd (Row.no UInt8) x_20 x_19.toNat).get x_27).length ∧ ((0 : Int) ≤ x_23 ∧ x_23 < (↑x_26.length : Int)) ∧ x_23.toNat < x_26.length ∧ (gd (Row.no UInt8) x_26 x_23.toNat).ok x_27 ∧ ((0 : Int) ≤ x_22 ∧ x_22 < (↑((gd (Row.no UInt8) x_26 x_23.toNat).get x_27).length : Int)) ∧ (gd (Row.no UInt8) x_26 x_23.toNat).ok x_27 ∧ x_22.toNat < ((gd (Row.no UInt8) x_26 x_23.toNat).get x_27).length ∧ True ∧ (gd (Row.no UInt8) x_26 x_23.toNat).ok x_27 ∧ ((0 : Int) ≤ x_22 ∧ x_22 < (↑((gd (Row.no UInt8) x_26 x_23.toNat).get x_27).length : Int)) ∧ (gd (Row.no UInt8) x_26 x_23.toNat).mine x_27 ∧ x_22.toNat < ((gd (Row.no UInt8) x_26 x_23.toNat).get x_27).length ∧ I64 (x_22 + (1 : Int)) ∧ AdI (0 : Int) x_17 x_19 (gd (0 : UInt8) ((gd (Row.no UInt8) x_20 x_17.toNat).get x_21) x_9.toNat) x_20 x_21 (x_22 + (1 : Int)) x_23 x_24 x_25 x_26 (((gd (Row.no UInt8) x_26 x_23.toNat).id, ((gd (Row.no UInt8) x_26 x_23.toNat).get x_27).set x_22.toNat (gd (0 : UInt8) ((gd (Row.no UInt8) x_26 x_23.toNat).get x_27) x_22.toNat ^^^ gmul x_25 (gd (0 : UInt8) ((gd (Row.no UInt8) x_20 x_19.toNat).get x_27) x_22.toNat))) :: x_27) ∧ ((↑(lkA x_21 (rAt x_26 x_24).id).length : Int) - (x_22 + (1 : Int))).toNat < ((↑(lkA x_21 (rAt x_26 x_24).id).length : Int) - x_22).toNat) ∧ ((↑((gd (Row.no UInt8) x_20 x_19.toNat).get x_21).length : Int) ≤ x_22 → I64 (x_17 + (1 : Int)) ∧ OfI (0 : Int) x x_3 x_15 x_16 (x_17 + (1 : Int)) x_18 x_19 x_26 x_27 ∧ ((↑x_26.length : Int) - (x_17 + (1 : Int))).toNat < ((↑x_20.length : Int) - x_17).toNat)) ∧ (x_17 = x_19 → I64 (x_17 + (1 : Int)) ∧ OfI (0 : Int) x x_3 x_15 x_16 (x_17 + (1 : Int)) x_18 x_19 x_20 x_21 ∧ ((↑x_20.length : Int) - (x_17 + (1 : Int))).toNat < ((↑x_20.length : Int) - x_17).toNat)) ∧ ((↑x_15.length : Int) ≤ x_17 → I64 (x_19 + (1 : Int)) ∧ (x_19 + (1 : Int) = (↑x_20.length : Int) → Q (x_19 + (1 : Int)) x_20 x_21) ∧ (¬x_19 + (1 : Int) = (↑x_20.length : Int) → I64 (x_18 + (1 : Int)) ∧ ClI (0 : Int) (0 : Int) cols KI AI (x_18 + (1 : Int)) (x_19 + (1 : Int)) x_4 x_20 x_21 ∧ (x_4 - (x_18 + (1 : Int))).toNat < (x_4 - x).toNat))))) ∧ (decide (gd (0 : UInt8) ((gd (Row.no UInt8) x_10 (x_8.fst + x_7.toNat)).get x_11) x_9.toNat ≠ (0 : UInt8)) = false → I64 (x_7 + (1 : Int)) ∧ IxI (0 : Int) (x_3.toNat, (↑x_5.length : Int).toNat - x_3.toNat) x x_5 x_6 (x_7 + (1 : Int)) x_8 x_9 x_10 x_11 ∧ ((↑x_8.snd : Int) - (x_7 + (1 : Int))).toNat < ((↑x_8.snd : Int) - x_7).toNat)) ∧ ((↑((↑x_5.length : Int).toNat - x_3.toNat) : Int) ≤ x_7 → I64 (x + (1 : Int)) ∧ ClI (0 : Int) (0 : Int) cols KI AI (x + (1 : Int)) x_3 x_4 x_10 x_11 ∧ (x_4 - (x + (1 : Int))).toNat < (x_4 - x).toNat)) ∧ (cols ≤ x → Q (x_3) x_5 x_6) := by
  refine ⟨h0, fun c d cols' K A hI => ?_⟩
  obtain ⟨c0, c1, ec, hcb, d0, d1, el, elb, ⟨m, hM, hm, hmb⟩, hclr⟩ := hI
  subst ec
  refine ⟨fun hc => ?_, fun hc => ?_⟩
  case refine_2 =>
    refine hQ d K A d0 ⟨m, by rw [← el]; exact hM, hm⟩ ?_
    rw [← hclr, show (cols' - c).toNat = 0 by omega]; rfl
  have hML : (vw A K).length = K.length := vw_len
  have hstep : (cols' - c).toNat = (cols' - (c + 1)).toNat + 1 := by omega
  have hc1 : (c + 1).toNat = c.toNat + 1 := by omega
  have hd1 : (d + 1).toNat = d.toNat + 1 := by omega
  refine ⟨⟨d0, by omega⟩, ⟨Int.le_refl _, by simp, rfl, rfl, rfl, rfl, fun j hj => by simp at hj⟩, fun k s cc K' A' hX => ?_⟩
  obtain ⟨k0, k1, es, ecc, eK, eA, hz⟩ := hX
  subst es; subst ecc; subst eK; subst eA
  have hz2 : ∀ j, j < k.toNat → gd 0 (gd [] (vw A' K') (d.toNat + j)) cc.toNat = 0 := fun j hj => by
    have := hz j hj
    simp only at this k1
    rw [(hM.at (i := d.toNat + j) (by omega)).2.2.1] at this
    exact this
  simp only at k1 hz
  refine ⟨fun hk => ?_, fun hk => ?_⟩
  case refine_2 =>
    refine ⟨⟨by omega, by omega⟩, ⟨by omega, by omega, rfl, hcb, d0, d1, el, elb, ⟨m, hM, hm, hmb⟩, ?_⟩, by omega⟩
    rw [← hclr, hstep, hc1]
    show _ = (match findR (vw A' K') cc.toNat d.toNat ((vw A' K').length - d.toNat) with
      | none => _
      | some i0 => _)
    rw [findR_no (fun j hj => hz2 j (by rw [hML] at hj; omega))]
  have hi : d.toNat + k.toNat < K'.length := by omega
  have hik : (d + k).toNat = d.toNat + k.toNat := by omega
  obtain ⟨a1, a2, a3, a4, a5⟩ := hM.at hi
  refine ⟨⟨k0, by omega⟩, hi, a2, a5, ⟨c0, by rw [a4]; omega⟩, fun hne => ⟨fun hneg => absurd k0 (by omega), fun _ => ?_⟩, fun hne => ?_⟩
  case refine_2 =>
    refine ⟨⟨by omega, by omega⟩, ⟨by omega, by simp only; omega, rfl, rfl, rfl, rfl, fun j hj => ?_⟩, by simp only; omega⟩
    by_cases hjk : j < k.toNat
    · exact hz j hjk
    · have : j = k.toNat := by omega
      subst this
      have := of_decide_eq_false hne
      exact Classical.not_not.1 this
  have hne := of_decide_eq_true hne
  rw [a3] at hne
  have hfind : findR (vw A' K') cc.toNat d.toNat ((vw A' K').length - d.toNat) = some (d.toNat + k.toNat) := findR_at hz2 hne (by rw [hML]; omega)
  obtain ⟨hMs, hvs⟩ := hM.swap (d := d.toNat) (i := (d + k).toNat) (by omega) (by omega)
  generalize hZ : (K'.set d.toNat (gd (Row.no UInt8) K' (d + k).toNat)).set (d + k).toNat (gd (Row.no UInt8) K' d.toNat) = Z at hMs hvs ⊢
  have hZl : Z.length = K'.length := by rw [← hZ]; simp
  have hdz : d.toNat < K'.length := by omega
  obtain ⟨b1, b2, b3, b4, b5⟩ := hMs.at hdz
  have hbz : (d.toNat : Int) < (Z.length : Int) := by omega
  refine ⟨⟨by omega, by omega⟩, ⟨by omega, by omega⟩, ⟨by omega, by omega⟩, by omega, ⟨d0, by omega⟩, hdz, ⟨d0, by omega⟩, hdz, ⟨by omega, by rw [List.length_set]; omega⟩, by rw [List.length_set]; omega, ⟨d0, by omega⟩, by omega, b2, ⟨c0, by rw [b4]; omega⟩, b2, by rw [b4]; omega, trivial, ⟨d0, by omega⟩, by omega, b2, ⟨Int.le_refl _, rfl, rfl, rfl, d0, by omega, ?_, by omega⟩, fun k2 i f K3 A3 hS => ?_⟩
  · show RowR A' A' (gd (Row.no UInt8) Z d.toNat) (scTo _ _ 0)
    rw [scTo_zero]; exact RowR.start b1
  obtain ⟨q0, eqi, eqf, eqK, q1, q2, hR, q3⟩ := hS
  subst eqi; subst eqK
  have hR : RowR A' A3 (gd (Row.no UInt8) K3 i.toNat) (scTo (lkA A' (gd (Row.no UInt8) K3 i.toNat).id) f k2.toNat) := hR
  have q3 : k2 ≤ ((lkA A' (gd (Row.no UInt8) K3 i.toNat).id).length : Int) := q3
  have hrl := b1.get.1
  rw [hrl] at b3 b4
  rw [b4] at q3
  have hg3 := hR.mine.get
  rw [hR.get] at hg3
  have hl3 : ((gd (Row.no UInt8) K3 i.toNat).get A3).length = m := by rw [hg3.1, scTo_len, b4]
  have hfe : f = invN (gd 0 (lkA A' (gd (Row.no UInt8) K3 i.toNat).id) cc.toNat) := by rw [eqf, hrl]
  rw [← eqf, hrl, b4, hl3, hg3.1]
  refine ⟨fun hk2 => ?_, fun hk2 => ?_⟩
  · refine ⟨⟨q1, by omega⟩, by omega, ⟨q1, by omega⟩, by omega, hR.mine.ok, ⟨q0, by omega⟩, hR.mine.ok, by omega, trivial, hR.mine.ok, ⟨q0, by omega⟩, hR.mine, by omega, ⟨by omega, by omega⟩, ⟨by omega, rfl, rfl, rfl, q1, q2, ?_, by show k2 + 1 ≤ ((lkA A' (gd (Row.no UInt8) K3 i.toNat).id).length : Int); omega⟩, by omega⟩
    rw [scTo_step (by omega), show k2.toNat + 1 = (k2 + 1).toNat by omega]
    exact hR.put (by rw [scTo_len, scTo_len])
  rw [scTo_end (by omega)] at hR
  obtain ⟨hM3, hv3⟩ := hMs.put hdz hR (by simp [scaleL, b4])
  have hrow : gd [] (swapL (vw A' K') i.toNat (i.toNat + k.toNat)) i.toNat = lkA A' (gd (Row.no UInt8) K3 i.toNat).id := by rw [← vw_gd hMs hdz, hvs, hik]
  have hent : gd 0 (lkA A' (gd (Row.no UInt8) K3 i.toNat).id) cc.toNat ≠ 0 := by
    rw [← hrow, swapL_row hM.rect hdz hi, if_pos rfl]; exact hne
  have hone : vw A3 K3 = oneL (swapL (vw A' K') i.toNat (i.toNat + k.toNat)) cc.toNat i.toNat := by
    unfold oneL
    rw [hv3, hfe, invN_ne hent, hrow, hvs, hik]
  refine ⟨⟨Int.le_refl _, by omega, rfl, rfl, rfl, ⟨m, by rw [hZl]; exact hM3, by rw [hZl]; exact hM3, by omega, hmb⟩, offTo_zero.symm⟩, fun k3 c2 d2 K4 A4 hO => ?_⟩
  obtain ⟨p0, p1, ec2, ed2, eK4, ⟨m', hMa, hMb, hcm, hmb'⟩, hv4⟩ := hO
  subst ec2; subst ed2; subst eK4
  have hl4 : K4.length = K'.length := hZl
  rw [hl4] at hMa hMb p1
  have hM3l : (vw A3 K4).length = K'.length := by rw [vw_len, hl4]
  rw [hl4]
  refine ⟨fun hk3 => ⟨fun hkd => ?_, fun hkd => ?_⟩, fun hk3 => ?_⟩
  · have hkt : k3.toNat < K'.length := by omega
    have hkn : k3.toNat ≠ d2.toNat := fun e => hkd (by omega)
    obtain ⟨e1, e2, e3, e4, e5⟩ := hMb.at hkt
    obtain ⟨g1, g2, g3, g4, g5⟩ := hMb.at hdz
    have el1 := (hMb.row _ hkt).2
    have el2 := (hMb.row _ hdz).2
    refine ⟨⟨p0, by omega⟩, by omega, e2, ⟨c0, by rw [e4]; omega⟩, e2, by rw [e4]; omega, ⟨d0, by omega⟩, by omega, g2, ⟨Int.le_refl _, rfl, rfl, rfl, rfl, p0, by omega, d0, by omega, fun e => hkn (hMb.inj _ _ hdz hkt e).symm, g1, by show (lkA A4 (gd (Row.no UInt8) K4 d2.toNat).id).length = (lkA A4 (gd (Row.no UInt8) K4 k3.toNat).id).length; rw [el1, el2], ?_, by omega⟩, fun k5 t s f5 K5 A5 hA => ?_⟩
    · show RowR A4 A4 (gd (Row.no UInt8) K4 k3.toNat) (adTo _ _ _ 0)
      rw [adTo_zero]; exact RowR.start e1
    obtain ⟨r0, et, es, ef, eK5, t0, t1, s0, s1, hidn, hsm, hsl, hR5, r3⟩ := hA
    subst et; subst es; subst eK5
    have hidn : (gd (Row.no UInt8) K5 s.toNat).id ≠ (gd (Row.no UInt8) K5 t.toNat).id := hidn
    have hR5 : RowR A4 A5 (gd (Row.no UInt8) K5 t.toNat) (adTo (lkA A4 (gd (Row.no UInt8) K5 t.toNat).id) (lkA A4 (gd (Row.no UInt8) K5 s.toNat).id) f5 k5.toNat) := hR5
    have r3 : k5 ≤ ((lkA A4 (gd (Row.no UInt8) K5 s.toNat).id).length : Int) := r3
    have hql : (lkA A4 (gd (Row.no UInt8) K5 s.toNat).id).length = (lkA A4 (gd (Row.no UInt8) K5 t.toNat).id).length := by rw [el1, el2]
    have hq : lkA A5 (gd (Row.no UInt8) K5 s.toNat).id = lkA A4 (gd (Row.no UInt8) K5 s.toNat).id := hR5.lk _ hidn
    have hs5 : (gd (Row.no UInt8) K5 s.toNat).mine A5 := ⟨g1.1, (hR5.has _ hidn).2 g1.2.1, by rw [hq]; exact g1.2.2⟩
    have hgs := hs5.get.1
    rw [hq] at hgs
    have hgt := hR5.mine.get
    rw [hR5.get] at hgt
    have hlt5 : ((gd (Row.no UInt8) K5 t.toNat).get A5).length = m' := by rw [hgt.1, adTo_len hql, el1]
    have hls5 : ((gd (Row.no UInt8) K5 s.toNat).get A5).length = m' := by rw [hgs, el2]
    rw [el2] at r3
    rw [g4, hlt5, hls5, hgt.1, hgs]
    refine ⟨fun hk5 => ?_, fun hk5 => ?_⟩
    · refine ⟨hs5.ok, ⟨r0, hk5⟩, hs5.ok, by omega, ⟨t0, t1⟩, by omega, hR5.mine.ok, ⟨r0, hk5⟩, hR5.mine.ok, by omega, trivial, hR5.mine.ok, ⟨r0, hk5⟩, hR5.mine, by omega, ⟨by omega, by omega⟩, ⟨by omega, rfl, rfl, ef, rfl, t0, t1, s0, s1, hidn, g1, hql, ?_, ?_⟩, ?_⟩
      · rw [adTo_step hql (by omega), show k5.toNat + 1 = (k5 + 1).toNat by omega]
        exact hR5.put (by rw [adTo_len hql, adTo_len hql])
      · show k5 + 1 ≤ ((lkA A4 (gd (Row.no UInt8) K5 s.toNat).id).length : Int)
        omega
      · show (((lkA A4 (gd (Row.no UInt8) K5 s.toNat).id).length : Int) - (k5 + 1)).toNat < (((lkA A4 (gd (Row.no UInt8) K5 s.toNat).id).length : Int) - k5).toNat
        omega
    · rw [adTo_end hql (by omega)] at hR5
      obtain ⟨hM5, hv5⟩ := hMb.put hkt hR5 (by rw [addL_len hql.symm]; exact el1)
      refine ⟨⟨by omega, by omega⟩, ⟨by omega, by omega, rfl, rfl, rfl, ⟨m', hl4 ▸ hMa, hl4 ▸ hM5, hcm, hmb'⟩, ?_⟩, by omega⟩
      have et1 : lkA A4 (gd (Row.no UInt8) K5 t.toNat).id = gd [] (vw A3 K5) t.toNat := by rw [← vw_gd hMb hkt, hv4, offTo_gd (by omega), if_neg (by omega)]
      have es1 : lkA A4 (gd (Row.no UInt8) K5 s.toNat).id = gd [] (vw A3 K5) s.toNat := by rw [← vw_gd hMb hdz, hv4, offTo_gd (by omega), if_neg (by omega)]
      rw [hv5, hv4, ef, e1.get.1, et1, es1, offTo_step (by omega) hkn, show t.toNat + 1 = (t + 1).toNat by omega]
  · refine ⟨⟨by omega, by omega⟩, ⟨by omega, by omega, rfl, rfl, rfl, ⟨m', hl4 ▸ hMa, hl4 ▸ hMb, hcm, hmb'⟩, ?_⟩, by omega⟩
    rw [hv4, hkd, hd1, offTo_same]
  · have hend : vw A4 K4 = pivL (vw A' K') c2.toNat d2.toNat (d2.toNat + k.toNat) := by
      unfold pivL
      rw [hv4, offTo_end (by omega), hone]
    have hun : clrL (cols' - c2).toNat (vw A' K') c2.toNat d2.toNat = if d2.toNat + 1 = (vw A' K').length then (vw A4 K4, d2.toNat + 1) else clrL (cols' - (c2 + 1)).toNat (vw A4 K4) (c2 + 1).toNat (d2 + 1).toNat := by
      rw [hstep, hc1, hd1, hend]
      show (match findR (vw A' K') c2.toNat d2.toNat ((vw A' K').length - d2.toNat) with
        | none => _
        | some i0 => _) = _
      rw [hfind]
    refine ⟨⟨by omega, by omega⟩, fun hq => ?_, fun hq => ⟨⟨by omega, by omega⟩, ⟨by omega, by omega, rfl, hcb, by omega, by omega, by omega, by omega, ⟨m', by rw [hl4]; exact hMb, ?_, hmb'⟩, ?_⟩, by omega⟩⟩
    · refine hQ _ _ _ (by omega) ⟨m', by rw [← el]; exact hMb, ?_⟩ ?_
      · have q1 := (hM3.row _ hdz).2
        have q2 := (hMa.row _ hdz).2
        omega
      · rw [← hclr, hun, if_pos (by rw [hML]; omega), hd1]
    · have q1 := (hM3.row _ hdz).2
      have q2 := (hMa.row _ hdz).2
      omega
    · rw [← hclr, hun, if_neg (by rw [hML]; omega)]
open Go.RowKit
theorem FillI.mt {A : ArL} {K : RwL} {i m n : Int} {f : Nat → Nat → UInt8} (h : FillI A K i m n f) (hi : m ≤ i) (hm : 0 ≤ m) : Mt A K K.length n.toNat := by
  have hl := h.len
  refine ⟨rfl, fun j hj => ?_, fun j k hj hk e => h.inj j k (by omega) (by omega) e⟩
  obtain ⟨q1, q2, q3⟩ := h.row j (by omega)
  exact ⟨q1, by rw [q3]; simp⟩
theorem FillI.vw {A : ArL} {K : RwL} {i m n : Int} {f : Nat → Nat → UInt8} (h : FillI A K i m n f) (hi : m ≤ i) (hm : 0 ≤ m) : Proofs.Ytnbgbknocijjlaa.vw A K = fillL m n f := (h.fin hi hm).2
theorem ClI.start {A : ArL} {K : RwL} {i m n cols : Int} {f : Nat → Nat → UInt8} (h : FillI A K i m n f) (hi : m ≤ i) (hm : 0 < m ∧ m ≤ 1000) (hn : 0 ≤ cols ∧ cols ≤ n ∧ n ≤ 1000) : ClI 0 0 cols K A 0 0 cols K A := by
  have hl := h.len
  exact ⟨Int.le_refl _, hn.1, rfl, by omega, Int.le_refl _, by omega, rfl, by omega, ⟨n.toNat, h.mt hi (by omega), by omega, by omega⟩, by rw [Int.sub_zero]; rfl⟩
open Go.RowKit
def fB (a : List (List UInt8)) (n i k : Nat) : UInt8 := if k < n then gd 0 (gd [] a i) k else if k - n = i then 1 else 0
def fI (b : List (List UInt8)) (n i k : Nat) : UInt8 := gd 0 (gd [] b i) (n + k)
def clI (a : List (List UInt8)) : List (List UInt8) × Nat := clrL a.length (fillL a.length (2 * (a.length : Int)) (fB a a.length)) 0 0
def invL (a : List (List UInt8)) : List (List UInt8) × Int :=
  if mchk a ≠ 0 then ([], mchk a) else if a.length ≠ (gd [] a 0).length then ([], 1) else if (clI a).2 < a.length then ([], 5) else (fillL a.length a.length (fI (clI a).1 a.length), 0)
theorem clI_rect {a : List (List UInt8)} (h : 0 < a.length) : Rect a.length (2 * (a.length : Int)).toNat (clI a).1 := by
  have hr : Rect a.length (2 * (a.length : Int)).toNat (fillL a.length (2 * (a.length : Int)) (fB a a.length)) := by
    have := fill_rect (m := (a.length : Int)) (n := 2 * (a.length : Int)) (f := fB a a.length)
    rw [Int.toNat_natCast] at this
    exact this
  exact (clr_law a.length _ 0 0 _ hr (RE.refl a.length _) (ech_start a.length _) h).1
theorem fB_v {a : List (List UInt8)} {i k : Int} (hi : 0 ≤ i) (hk : 0 ≤ k) : ((if k < (a.length : Int) then gd 0 (gd [] a i.toNat) k.toNat else if k - (a.length : Int) = i then 1 else 0) : UInt8) = fB a a.length i.toNat k.toNat := by
  unfold fB
  by_cases h : k < ((a.length : Nat) : Int)
  · have h2 : k.toNat < a.length := by omega
    rw [if_pos h, if_pos h2]
  · have h2 : ¬k.toNat < a.length := by omega
    rw [if_neg h, if_neg h2]
    by_cases h3 : k - (a.length : Int) = i
    · have h4 : k.toNat - a.length = i.toNat := by omega
      rw [if_pos h3, if_pos h4]
    · have h4 : ¬k.toNat - a.length = i.toNat := by omega
      rw [if_neg h3, if_neg h4]
theorem Mt.frz {A : ArL} {K : RwL} {n m : Nat} (h : Mt A K n m) : ∀ r, r ∈ K → r.ok A ∧ r.kd ≠ RK.nil := by
  intro r hr
  obtain ⟨i, hi, rfl⟩ := List.mem_iff_getElem.1 hr
  have e : gd (Row.no UInt8) K i = K[i] := by unfold gd; rw [List.getElem?_eq_getElem hi]; rfl
  have hm := (h.row i (by rw [← h.len]; exact hi)).1
  rw [e] at hm
  exact ⟨Row.mine.ok hm, by rw [hm.1]; intro e; cases e⟩
def k_48 : Con Tc Tc.dn := ⟨48, [.ty .cInt, .ty .cInt, .ptr .cInt, .ptr .llU8], fun x => (fun (i : Int) (k : Int) (n : Int) (a : (List (List UInt8))) => 0 ≤ i ∧ i < a.length ∧ 0 ≤ k ∧ 0 ≤ n ∧ n ≤ 1000 ∧ k ≤ 2000 ∧ n ≤ (gd [] a i.toNat).length) x.1 x.2.1 x.2.2.1 x.2.2.2.1, [.cU8], fun x => (fun (i : Int) (k : Int) (n : Int) (a : (List (List UInt8))) => if k < n then gd 0 (gd [] a i.toNat) k.toNat else if k - n = i then 1 else 0) x.1 x.2.1 x.2.2.1 x.2.2.2.1⟩
theorem k_48_v (i : Int) (k : Int) (n : Int) (a : (List (List UInt8))) (hp : 0 ≤ i ∧ i < a.length ∧ 0 ≤ k ∧ 0 ≤ n ∧ n ≤ 1000 ∧ k ≤ 2000 ∧ n ≤ (gd [] a i.toNat).length) : (k < n → ((0 : Int) ≤ i ∧ i < (↑a.length : Int)) ∧ ((0 : Int) ≤ k ∧ k < (↑(gd [] a i.toNat).length : Int)) ∧ gd (0 : UInt8) (gd [] a i.toNat) k.toNat = if k < n then gd (0 : UInt8) (gd [] a i.toNat) k.toNat else if k - n = i then (1 : UInt8) else (0 : UInt8)) ∧ (n ≤ k → I64 (k - n) ∧ (k - n = i → UInt8.ofNat (Int.toNat (1 : Int)) = if k < n then gd (0 : UInt8) (gd [] a i.toNat) k.toNat else if k - n = i then (1 : UInt8) else (0 : UInt8)) ∧ (¬k - n = i → UInt8.ofNat (Int.toNat (0 : Int)) = if k < n then gd (0 : UInt8) (gd [] a i.toNat) k.toNat else if k - n = i then (1 : UInt8) else (0 : UInt8))) := by
  (repeat' (first | apply And.intro | intro _)) <;> first | assumption | trivial | omega | (grind [I64]) | trace_state
theorem k_48_ok : k_48.Ok Try.prog tD := con_ok tD_ok (Δ := []) trivial (Ω := []) trivial k_48 F48_ok F48_call (fun _ => []) (fun _ => trivial) 0 (fun x => (fun (i : Int) (k : Int) (n : Int) (a : (List (List UInt8))) => (fun _ => none)) x.1 x.2.1 x.2.2.1 x.2.2.2.1) fun x hp => Eq.mp (by kernel_rfl) (k_48_v x.1 x.2.1 x.2.2.1 x.2.2.2.1 hp)
def k_50 : Con Tc Tc.dn := ⟨50, [.ty .cInt, .ty .cInt, .ptr .llU8, .ptr .cInt], fun x => (fun (i : Int) (k : Int) (b : (List (List UInt8))) (n : Int) => 0 ≤ i ∧ i < b.length ∧ 0 ≤ k ∧ 0 ≤ n ∧ n ≤ 1000 ∧ n + k < (gd [] b i.toNat).length ∧ k ≤ 1000) x.1 x.2.1 x.2.2.1 x.2.2.2.1, [.cU8], fun x => (fun (i : Int) (k : Int) (b : (List (List UInt8))) (n : Int) => gd 0 (gd [] b i.toNat) (n + k).toNat) x.1 x.2.1 x.2.2.1 x.2.2.2.1⟩
theorem k_50_v (i : Int) (k : Int) (b : (List (List UInt8))) (n : Int) (hp : 0 ≤ i ∧ i < b.length ∧ 0 ≤ k ∧ 0 ≤ n ∧ n ≤ 1000 ∧ n + k < (gd [] b i.toNat).length ∧ k ≤ 1000) : ((0 : Int) ≤ i ∧ i < (↑b.length : Int)) ∧ I64 (n + k) ∧ ((0 : Int) ≤ n + k ∧ n + k < (↑(gd [] b i.toNat).length : Int)) ∧ gd (0 : UInt8) (gd [] b i.toNat) (n + k).toNat = gd (0 : UInt8) (gd [] b i.toNat) (n + k).toNat := by
  (repeat' (first | apply And.intro | intro _)) <;> first | assumption | trivial | omega | (grind [I64]) | trace_state
theorem k_50_ok : k_50.Ok Try.prog tD := con_ok tD_ok (Δ := []) trivial (Ω := []) trivial k_50 F50_ok F50_call (fun _ => []) (fun _ => trivial) 0 (fun x => (fun (i : Int) (k : Int) (b : (List (List UInt8))) (n : Int) => (fun _ => none)) x.1 x.2.1 x.2.2.1 x.2.2.2.1) fun x hp => Eq.mp (by kernel_rfl) (k_50_v x.1 x.2.1 x.2.2.1 x.2.2.2.1 hp)
def i_32_35_1 (n : Int) (b : (List (List UInt8))) (q : Int) (k0 : Int) (i0 : Int) (K0 : (List (Row UInt8))) (A0 : (List (Nat × List UInt8))) (k : Int) (i : Int) (K : (List (Row UInt8))) (A : (List (Nat × List UInt8))) : Prop := 0 ≤ k ∧ k ≤ n ∧ K = K0 ∧ i = i0 ∧ FillR A0 A (gd (Row.no UInt8) K i.toNat) k n (fI b q.toNat i.toNat)
def i_32_35_0 (m : Int) (n : Int) (b : (List (List UInt8))) (q : Int) (i : Int) (K : (List (Row UInt8))) (A : (List (Nat × List UInt8))) : Prop := 0 ≤ i ∧ i ≤ m ∧ FillI A K i m n (fI b q.toNat)
def k_32_35 : Con Tc Tc.dn := ⟨47, [.ty .cInt, .ty .cInt, .fnc 50 [(true, .llU8), (true, .cInt)]], fun x => (fun (m : Int) (n : Int) (b : (List (List UInt8))) (q : Int) => 0 ≤ m ∧ m ≤ 64 ∧ 0 ≤ n ∧ n ≤ 64 ∧ 0 ≤ q ∧ q ≤ 64 ∧ m ≤ b.length ∧ ∀ r, r ∈ b → q + n ≤ r.length) x.1 x.2.1 x.2.2.1.1 x.2.2.1.2.1, [.llU8], fun x => (fun (m : Int) (n : Int) (b : (List (List UInt8))) (q : Int) => fillL m n (fI b q.toNat)) x.1 x.2.1 x.2.2.1.1 x.2.2.1.2.1⟩
abbrev z32_35_0 (n : Int) := (List.replicate n.toNat (UInt8.ofNat (Int.toNat (0 : Int))))
theorem k_32_35_v (m : Int) (n : Int) (b : (List (List UInt8))) (q : Int) (hp : 0 ≤ m ∧ m ≤ 64 ∧ 0 ≤ n ∧ n ≤ 64 ∧ 0 ≤ q ∧ q ≤ 64 ∧ m ≤ b.length ∧ ∀ r, r ∈ b → q + n ≤ r.length) : ((0 : Int) ≤ m ∧ m ≤ m ∧ m * (↑(24 : Nat) : Int) ≤ (140737488355328 : Int)) ∧ i_32_35_0 m n b q (0 : Int) (List.replicate m.toNat (Row.no UInt8)) [] ∧ ∀ (x : Int) (x_1 : List (Row UInt8)) (x_2 : List (Nat × List UInt8)), i_32_35_0 m n b q x x_1 x_2 → (x < (↑(List.replicate m.toNat (Row.no UInt8)).length : Int) → ((0 : Int) ≤ n ∧ n ≤ n ∧ n * (↑(1 : Nat) : Int) ≤ (140737488355328 : Int)) ∧ ((0 : Int) ≤ x ∧ x < (↑x_1.length : Int)) ∧ ∀ (id : Nat), ¬hasA x_2 id → x.toNat < x_1.length ∧ ((0 : Int) ≤ x ∧ x < (↑(x_1.set x.toNat (Row.at UInt8 id (z32_35_0 n).length)).length : Int)) ∧ x.toNat < (x_1.set x.toNat (Row.at UInt8 id (z32_35_0 n).length)).length ∧ (gd (Row.no UInt8) (x_1.set x.toNat (Row.at UInt8 id (z32_35_0 n).length)) x.toNat).ok ((id, List.replicate n.toNat (UInt8.ofNat (Int.toNat (0 : Int)))) :: x_2) ∧ i_32_35_1 n b q (0 : Int) x (x_1.set x.toNat (Row.at UInt8 id (z32_35_0 n).length)) ((id, List.replicate n.toNat (UInt8.ofNat (Int.toNat (0 : Int)))) :: x_2) (0 : Int) x (x_1.set x.toNat (Row.at UInt8 id (z32_35_0 n).length)) ((id, List.replicate n.toNat (UInt8.ofNat (Int.toNat (0 : Int)))) :: x_2) ∧ ∀ (x_3 x_4 : Int) (x_5 : List (Row UInt8)) (x_6 : List (Nat × List UInt8)), i_32_35_1 n b q (0 : Int) x (x_1.set x.toNat (Row.at UInt8 id (z32_35_0 n).length)) ((id, List.replicate n.toNat (UInt8.ofNat (Int.toNat (0 : Int)))) :: x_2) x_3 x_4 x_5 x_6 → (x_3 < (↑((gd (Row.no UInt8) (x_1.set x.toNat (Row.at UInt8 id (z32_35_0 n).length)) x.toNat).get ((id, List.replicate n.toNat (UInt8.ofNat (Int.toNat (0 : Int)))) :: x_2)).length : Int) → ((0 : Int) ≤ x_4 ∧ x_4 < (↑x_5.length : Int)) ∧ x_4.toNat < x_5.length ∧ ((0 : Int) ≤ x_4 ∧ x_4 < (↑b.length : Int) ∧ (0 : Int) ≤ x_3 ∧ (0 : Int) ≤ q ∧ q ≤ (1000 : Int) ∧ q + x_3 < (↑(gd [] b x_4.toNat).length : Int) ∧ x_3 ≤ (1000 : Int)) ∧ (gd (Row.no UInt8) x_5 x_4.toNat).ok x_6 ∧ ((0 : Int) ≤ x_3 ∧ x_3 < (↑((gd (Row.no UInt8) x_5 x_4.toNat).get x_6).length : Int)) ∧ (gd (Row.no UInt8) x_5 x_4.toNat).mine x_6 ∧ x_3.toNat < ((gd (Row.no UInt8) x_5 x_4.toNat).get x_6).length ∧ I64 (x_3 + (1 : Int)) ∧ i_32_35_1 n b q (0 : Int) x (x_1.set x.toNat (Row.at UInt8 id (z32_35_0 n).length)) ((id, List.replicate n.toNat (UInt8.ofNat (Int.toNat (0 : Int)))) :: x_2) (x_3 + (1 : Int)) x_4 x_5 (((gd (Row.no UInt8) x_5 x_4.toNat).id, ((gd (Row.no UInt8) x_5 x_4.toNat).get x_6).set x_3.toNat (gd (0 : UInt8) (gd [] b x_4.toNat) (q + x_3).toNat)) :: x_6) ∧ (n - (x_3 + (1 : Int))).toNat < (n - x_3).toNat) ∧ ((↑((gd (Row.no UInt8) (x_1.set x.toNat (Row.at UInt8 id (z32_35_0 n).length)) x.toNat).get ((id, List.replicate n.toNat (UInt8.ofNat (Int.toNat (0 : Int)))) :: x_2)).length : Int) ≤ x_3 → I64 (x + (1 : Int)) ∧ i_32_35_0 m n b q (x + (1 : Int)) x_5 x_6 ∧ (m - (x + (1 : Int))).toNat < (m - x).toNat)) ∧ ((↑(List.replicate m.toNat (Row.no UInt8)).length : Int) ≤ x → (∀ (x : Row UInt8), x ∈ x_1 → x.ok x_2 ∧ x.kd ≠ RK.nil) ∧ List.map (fun x => x.get x_2) x_1 = fillL m n (fI b q.toNat)) := by
  delta z32_35_0
  exact filled_vc m n (fI b q.toNat) (fun i k => gd 0 (gd [] b i.toNat) (q + k).toNat) (fun i k => (0 : Int) ≤ i ∧ i < (↑b.length : Int) ∧ (0 : Int) ≤ k ∧ (0 : Int) ≤ q ∧ q ≤ (1000 : Int) ∧ q + k < (↑(gd [] b i.toNat).length : Int) ∧ k ≤ (1000 : Int)) _ ⟨hp.1, hp.2.1, hp.2.2.1, hp.2.2.2.1⟩ (fun i k h1 h2 h3 h4 => ⟨⟨h1, by omega, h3, by omega, by omega, by have := hp.2.2.2.2.2.2.2 _ (gd_mem (d := []) (xs := b) (i := i.toNat) (by omega)); omega, by omega⟩, by unfold fI; rw [show (q + k).toNat = q.toNat + k.toNat by omega]⟩) fun K A i hi h => h.fin hi hp.1
theorem k_32_35_ok : k_32_35.Ok Try.prog tD := con_ok tD_ok (Δ := [k_50]) ⟨k_50_ok, trivial⟩ (Ω := []) trivial k_32_35 F47_ok F47_call (fun _ => []) (fun _ => trivial) 0 (fun x => (fun (m : Int) (n : Int) (b : (List (List UInt8))) (q : Int) => (fun k => bif Nat.beq k 0 then some (.inv [.sl 14 .cInt, .bl 1 .rU8, .ar .cU8] (fun zo zv => (fun (i : Int) (K : (List (Row UInt8))) (A : (List (Nat × List UInt8))) => i_32_35_0 m n b q i K A) zv.1 zv.2.1 zv.2.2.1) (fun zo zv => (fun (i : Int) (K : (List (Row UInt8))) (A : (List (Nat × List UInt8))) => (m - i).toNat) zv.1 zv.2.1 zv.2.2.1)) else bif Nat.beq k 1 then some (.inv [.sl 27 .cInt, .sl 8 .cInt, .bl 1 .rU8, .ar .cU8] (fun zo zv => (fun (k0 : Int) (i0 : Int) (K0 : (List (Row UInt8))) (A0 : (List (Nat × List UInt8))) (k : Int) (i : Int) (K : (List (Row UInt8))) (A : (List (Nat × List UInt8))) => i_32_35_1 n b q k0 i0 K0 A0 k i K A) zo.1 zo.2.1 zo.2.2.1 zo.2.2.2.1 zv.1 zv.2.1 zv.2.2.1 zv.2.2.2.1) (fun zo zv => (fun (k0 : Int) (i0 : Int) (K0 : (List (Row UInt8))) (A0 : (List (Nat × List UInt8))) (k : Int) (i : Int) (K : (List (Row UInt8))) (A : (List (Nat × List UInt8))) => (n - k).toNat) zo.1 zo.2.1 zo.2.2.1 zo.2.2.2.1 zv.1 zv.2.1 zv.2.2.1 zv.2.2.2.1)) else none)) x.1 x.2.1 x.2.2.1.1 x.2.2.1.2.1) fun x hp => Eq.mp (by kernel_rfl) (k_32_35_v x.1 x.2.1 x.2.2.1.1 x.2.2.1.2.1 hp)
def i_24_47_48_1 (a : (List (List UInt8))) (k0 : Int) (i0 : Int) (K0 : (List (Row UInt8))) (A0 : (List (Nat × List UInt8))) (k : Int) (i : Int) (K : (List (Row UInt8))) (A : (List (Nat × List UInt8))) : Prop := 0 ≤ k ∧ k ≤ (2 * (a.length : Int)) ∧ K = K0 ∧ i = i0 ∧ FillR A0 A (gd (Row.no UInt8) K i.toNat) k (2 * (a.length : Int)) (fB a a.length i.toNat)
def i_24_47_48_0 (a : (List (List UInt8))) (i : Int) (K : (List (Row UInt8))) (A : (List (Nat × List UInt8))) : Prop := 0 ≤ i ∧ i ≤ (a.length : Int) ∧ FillI A K i (a.length : Int) (2 * (a.length : Int)) (fB a a.length)
def i_24_70_0 (k0 : Int) (s0 : (Nat × Nat)) (c0 : Int) (K0 : (List (Row UInt8))) (A0 : (List (Nat × List UInt8))) (k : Int) (s : (Nat × Nat)) (c : Int) (K : (List (Row UInt8))) (A : (List (Nat × List UInt8))) : Prop := IxI k0 s0 c0 K0 A0 k s c K A
def i_24_72_0 (k0 : Int) (i0 : Int) (f0 : UInt8) (K0 : (List (Row UInt8))) (A0 : (List (Nat × List UInt8))) (k : Int) (i : Int) (f : UInt8) (K : (List (Row UInt8))) (A : (List (Nat × List UInt8))) : Prop := ScI k0 i0 f0 K0 A0 k i f K A
def i_24_73_0 (k0 : Int) (t0 : Int) (s0 : Int) (f0 : UInt8) (K0 : (List (Row UInt8))) (A0 : (List (Nat × List UInt8))) (k : Int) (t : Int) (s : Int) (f : UInt8) (K : (List (Row UInt8))) (A : (List (Nat × List UInt8))) : Prop := AdI k0 t0 s0 f0 K0 A0 k t s f K A
def i_24_49_1 (k0 : Int) (c0 : Int) (d0 : Int) (K0 : (List (Row UInt8))) (A0 : (List (Nat × List UInt8))) (k : Int) (c : Int) (d : Int) (K : (List (Row UInt8))) (A : (List (Nat × List UInt8))) : Prop := OfI k0 c0 d0 K0 A0 k c d K A
def i_24_49_0 (c0 : Int) (d0 : Int) (cols0 : Int) (K0 : (List (Row UInt8))) (A0 : (List (Nat × List UInt8))) (c : Int) (d : Int) (cols : Int) (K : (List (Row UInt8))) (A : (List (Nat × List UInt8))) : Prop := ClI c0 d0 cols0 K0 A0 c d cols K A
def k_24 : Con Tc Tc.dn := ⟨24, [.ty .llU8], fun x => (fun (a : (List (List UInt8))) => True) x.1, [.llU8, .cInt], fun x => (fun (a : (List (List UInt8))) => invL a) x.1⟩
abbrev z24_0 (a : (List (List UInt8))) := (List.replicate ((2 : Int) * (↑a.length : Int)).toNat (UInt8.ofNat (Int.toNat (0 : Int))))
theorem k_24_v (a : (List (List UInt8))) : True ∧ (¬mchk a = (0 : Int) → ([], mchk a) = invL a) ∧ (mchk a = (0 : Int) → ((0 : Int) ≤ (0 : Int) ∧ (0 : Int) < (↑a.length : Int)) ∧ (¬(↑a.length : Int) = (↑(gd [] a (Int.toNat (0 : Int))).length : Int) → ([], (1 : Int)) = invL a) ∧ ((↑a.length : Int) = (↑(gd [] a (Int.toNat (0 : Int))).length : Int) → I64 ((2 : Int) * (↑a.length : Int)) ∧ ((0 : Int) ≤ (↑a.length : Int) ∧ (↑a.length : Int) ≤ (↑a.length : Int) ∧ (↑a.length : Int) * (↑(24 : Nat) : Int) ≤ (140737488355328 : Int)) ∧ i_24_47_48_0 a (0 : Int) (List.replicate (↑a.length : Int).toNat (Row.no UInt8)) [] ∧ ∀ (x : Int) (x_1 : List (Row UInt8)) (x_2 : List (Nat × List UInt8)), i_24_47_48_0 a x x_1 x_2 → (x < (↑(List.replicate (↑a.length : Int).toNat (Row.no UInt8)).length : Int) → ((0 : Int) ≤ (2 : Int) * (↑a.length : Int) ∧ (2 : Int) * (↑a.length : Int) ≤ (2 : Int) * (↑a.length : Int) ∧ (2 : Int) * (↑a.length : Int) * (↑(1 : Nat) : Int) ≤ (140737488355328 : Int)) ∧ ((0 : Int) ≤ x ∧ x < (↑x_1.length : Int)) ∧ ∀ (id : Nat), ¬hasA x_2 id → x.toNat < x_1.length ∧ ((0 : Int) ≤ x ∧ x < (↑(x_1.set x.toNat (Row.at UInt8 id (z24_0 a).length)).length : Int)) ∧ x.toNat < (x_1.set x.toNat (Row.at UInt8 id (z24_0 a).length)).length ∧ (gd (Row.no UInt8) (x_1.set x.toNat (Row.at UInt8 id (z24_0 a).length)) x.toNat).ok ((id, List.replicate ((2 : Int) * (↑a.length : Int)).toNat (UInt8.ofNat (Int.toNat (0 : Int)))) :: x_2) ∧ i_24_47_48_1 a (0 : Int) x (x_1.set x.toNat (Row.at UInt8 id (z24_0 a).length)) ((id, List.replicate ((2 : Int) * (↑a.length : Int)).toNat (UInt8.ofNat (Int.toNat (0 : Int)))) :: x_2) (0 : Int) x (x_1.set x.toNat (Row.at UInt8 id (z24_0 a).length)) ((id, List.replicate ((2 : Int) * (↑a.length : Int)).toNat (UInt8.ofNat (Int.toNat (0 : Int)))) :: x_2) ∧ ∀ (x_3 x_4 : Int) (x_5 : List (Row UInt8)) (x_6 : List (Nat × List UInt8)), i_24_47_48_1 a (0 : Int) x (x_1.set x.toNat (Row.at UInt8 id (z24_0 a).length)) ((id, List.replicate ((2 : Int) * (↑a.length : Int)).toNat (UInt8.ofNat (Int.toNat (0 : Int)))) :: x_2) x_3 x_4 x_5 x_6 → (x_3 < (↑((gd (Row.no UInt8) (x_1.set x.toNat (Row.at UInt8 id (z24_0 a).length)) x.toNat).get ((id, List.replicate ((2 : Int) * (↑a.length : Int)).toNat (UInt8.ofNat (Int.toNat (0 : Int)))) :: x_2)).length : Int) → ((0 : Int) ≤ x_4 ∧ x_4 < (↑x_5.length : Int)) ∧ x_4.toNat < x_5.length ∧ ((0 : Int) ≤ x_4 ∧ x_4 < (↑a.length : Int) ∧ (0 : Int) ≤ x_3 ∧ (0 : Int) ≤ (↑a.length : Int) ∧ (↑a.length : Int) ≤ (1000 : Int) ∧ x_3 ≤ (2000 : Int) ∧ (↑a.length : Int) ≤ (↑(gd [] a x_4.toNat).length : Int)) ∧ (gd (Row.no UInt8) x_5 x_4.toNat).ok x_6 ∧ ((0 : Int) ≤ x_3 ∧ x_3 < (↑((gd (Row.no UInt8) x_5 x_4.toNat).get x_6).length : Int)) ∧ (gd (Row.no UInt8) x_5 x_4.toNat).mine x_6 ∧ x_3.toNat < ((gd (Row.no UInt8) x_5 x_4.toNat).get x_6).length ∧ I64 (x_3 + (1 : Int)) ∧ i_24_47_48_1 a (0 : Int) x (x_1.set x.toNat (Row.at UInt8 id (z24_0 a).length)) ((id, List.replicate ((2 : Int) * (↑a.length : Int)).toNat (UInt8.ofNat (Int.toNat (0 : Int)))) :: x_2) (x_3 + (1 : Int)) x_4 x_5 (((gd (Row.no UInt8) x_5 x_4.toNat).id, ((gd (Row.no UInt8) x_5 x_4.toNat).get x_6).set x_3.toNat (if x_3 < (↑a.length : Int) then gd (0 : UInt8) (gd [] a x_4.toNat) x_3.toNat else if x_3 - (↑a.length : Int) = x_4 then (1 : UInt8) else (0 : UInt8))) :: x_6) ∧ ((2 : Int) * (↑a.length : Int) - (x_3 + (1 : Int))).toNat < ((2 : Int) * (↑a.length : Int) - x_3).toNat) ∧ ((↑((gd (Row.no UInt8) (x_1.set x.toNat (Row.at UInt8 id (z24_0 a).length)) x.toNat).get ((id, List.replicate ((2 : Int) * (↑a.length : Int)).toNat (UInt8.ofNat (Int.toNat (0 : Int)))) :: x_2)).length : Int) ≤ x_3 → I64 (x + (1 : Int)) ∧ i_24_47_48_0 a (x + (1 : Int)) x_5 x_6 ∧ ((↑a.length : Int) - (x + (1 : Int))).toNat < ((↑a.length : Int) - x).toNat)) ∧ ((↑(List.replicate (↑a.length : Int).toNat (Row.no UInt8)).length : Int) ≤ x → i_24_49_0 (0 : Int) (0 : Int) (↑a.length : Int) x_1 x_2 (0 : Int) (0 : Int) (↑a.length : Int) x_1 x_2 ∧ ∀ (x x_3 x_4 : Int) (x_5 : List (Row UInt8)) (x_6 : List (Nat × List UInt8)), i_24_49_0 (0 : Int) (0 : Int) (↑a.length : Int) x_1 x_2 x x_3 x_4 x_5 x_6 → (x < (↑a.length : Int) → ((0 : Int) ≤ x_3 ∧ x_3 ≤ (↑x_5.length : Int)) ∧ i_24_70_0 (0 : Int) (x_3.toNat, (↑x_5.length : Int).toNat - x_3.toNat) x x_5 x_6 (0 : Int) (x_3.toNat, (↑x_5.length : Int).toNat - x_3.toNat) x x_5 x_6 ∧ ∀ (x_7 : Int) (x_8 : Nat × Nat) (x_9 : Int) (x_10 : List (Row UInt8)) (x_11 : List (Nat × List UInt8)), i_24_70_0 (0 : Int) (x_3.toNat, (↑x_5.length : Int).toNat - x_3.toNat) x x_5 x_6 x_7 x_8 x_9 x_10 x_11 → (x_7 < (↑((↑x_5.length : Int).toNat - x_3.toNat) : Int) → ((0 : Int) ≤ x_7 ∧ x_7 < (↑x_8.snd : Int)) ∧ x_8.fst + x_7.toNat < x_10.length ∧ (gd (Row.no UInt8) x_10 (x_8.fst + x_7.toNat)).ok x_11 ∧ (gd (Row.no UInt8) x_10 (x_8.fst + x_7.toNat)).kd ≠ RK.nil ∧ ((0 : Int) ≤ x_9 ∧ x_9 < (↑((gd (Row.no UInt8) x_10 (x_8.fst + x_7.toNat)).get x_11).length : Int)) ∧ (decide (gd (0 : UInt8) ((gd (Row.no UInt8) x_10 (x_8.fst + x_7.toNat)).get x_11) x_9.toNat ≠ (0 : UInt8)) = true → (x_7 < (0 : Int) → I64 (x + (1 : Int)) ∧ i_24_49_0 (0 : Int) (0 : Int) (↑a.length : Int) x_1 x_2 (x + (1 : Int)) x_3 x_4 x_10 x_11 ∧ (x_4 - (x + (1 : Int))).toNat < (x_4 - x).toNat) ∧ ((0 : Int) ≤ x_7 → I64 (x_3 + x_7) ∧ I64 (x_3 + x_7) ∧ ((0 : Int) ≤ x_3 + x_7 ∧ x_3 + x_7 < (↑x_10.length : Int)) ∧ (x_3 + x_7).toNat < x_10.length ∧ ((0 : Int) ≤ x_3 ∧ x_3 < (↑x_10.length : Int)) ∧ x_3.toNat < x_10.length ∧ ((0 : Int) ≤ x_3 ∧ x_3 < (↑x_10.length : Int)) ∧ x_3.toNat < x_10.length ∧ ((0 : Int) ≤ x_3 + x_7 ∧ x_3 + x_7 < (↑(x_10.set x_3.toNat (gd (Row.no UInt8) x_10 (x_3 + x_7).toNat)).length : Int)) ∧ (x_3 + x_7).toNat < (x_10.set x_3.toNat (gd (Row.no UInt8) x_10 (x_3 + x_7).toNat)).length ∧ ((0 : Int) ≤ x_3 ∧ x_3 < (↑((x_10.set x_3.toNat (gd (Row.no UInt8) x_10 (x_3 + x_7).toNat)).set (x_3 + x_7).toNat (gd (Row.no UInt8) x_10 x_3.toNat)).length : Int)) ∧ x_3.toNat < ((x_10.set x_3.toNat (gd (Row.no UInt8) x_10 (x_3 + x_7).toNat)).set (x_3 + x_7).toNat (gd (Row.no UInt8) x_10 x_3.toNat)).length ∧ (gd (Row.no UInt8) ((x_10.set x_3.toNat (gd (Row.no UInt8) x_10 (x_3 + x_7).toNat)).set (x_3 + x_7).toNat (gd (Row.no UInt8) x_10 x_3.toNat)) x_3.toNat).ok x_11 ∧ ((0 : Int) ≤ x_9 ∧ x_9 < (↑((gd (Row.no UInt8) ((x_10.set x_3.toNat (gd (Row.no UInt8) x_10 (x_3 + x_7).toNat)).set (x_3 + x_7).toNat (gd (Row.no UInt8) x_10 x_3.toNat)) x_3.toNat).get x_11).length : Int)) ∧ (gd (Row.no UInt8) ((x_10.set x_3.toNat (gd (Row.no UInt8) x_10 (x_3 + x_7).toNat)).set (x_3 + x_7).toNat (gd (Row.no UInt8) x_10 x_3.toNat)) x_3.toNat).ok x_11 ∧ x_9.toNat < ((gd (Row.no UInt8) ((x_10.set x_3.toNat (gd (Row.no UInt8) x_10 (x_3 + x_7).toNat)).set (x_3 + x_7).toNat (gd (Row.no UInt8) x_10 x_3.toNat)) x_3.toNat).get x_11).length ∧ True ∧ ((0 : Int) ≤ x_3 ∧ x_3 < (↑((x_10.set x_3.toNat (gd (Row.no UInt8) x_10 (x_3 + x_7).toNat)).set (x_3 + x_7).toNat (gd (Row.no UInt8) x_10 x_3.toNat)).length : Int)) ∧ x_3.toNat < ((x_10.set x_3.toNat (gd (Row.no UInt8) x_10 (x_3 + x_7).toNat)).set (x_3 + x_7).toNat (gd (Row.no UInt8) x_10 x_3.toNat)).length ∧ (gd (Row.no UInt8) ((x_10.set x_3.toNat (gd (Row.no UInt8) x_10 (x_3 + x_7).toNat)).set (x_3 + x_7).toNat (gd (Row.no UInt8) x_10 x_3.toNat)) x_3.toNat).ok x_11 ∧ i_24_72_0 (0 : Int) x_3 (invN (gd (0 : UInt8) ((gd (Row.no UInt8) ((x_10.set x_3.toNat (gd (Row.no UInt8) x_10 (x_3 + x_7).toNat)).set (x_3 + x_7).toNat (gd (Row.no UInt8) x_10 x_3.toNat)) x_3.toNat).get x_11) x_9.toNat)) ((x_10.set x_3.toNat (gd (Row.no UInt8) x_10 (x_3 + x_7).toNat)).set (x_3 + x_7).toNat (gd (Row.no UInt8) x_10 x_3.toNat)) x_11 (0 : Int) x_3 (invN (gd (0 : UInt8) ((gd (Row.no UInt8) ((x_10.set x_3.toNat (gd (Row.no UInt8) x_10 (x_3 + x_7).toNat)).set (x_3 + x_7).toNat (gd (Row.no UInt8) x_10 x_3.toNat)) x_3.toNat).get x_11) x_9.toNat)) ((x_10.set x_3.toNat (gd (Row.no UInt8) x_10 (x_3 + x_7).toNat)).set (x_3 + x_7).toNat (gd (Row.no UInt8) x_10 x_3.toNat)) x_11 ∧ ∀ (x_12 x_13 : Int) (x_14 : UInt8) (x_15 : List (Row UInt8)) (x_16 : List (Nat × List UInt8)), i_24_72_0 (0 : Int) x_3 (invN (gd (0 : UInt8) ((gd (Row.no UInt8) ((x_10.set x_3.toNat (gd (Row.no UInt8) x_10 (x_3 + x_7).toNat)).set (x_3 + x_7).toNat (gd (Row.no UInt8) x_10 x_3.toNat)) x_3.toNat).get x_11) x_9.toNat)) ((x_10.set x_3.toNat (gd (Row.no UInt8) x_10 (x_3 + x_7).toNat)).set (x_3 + x_7).toNat (gd (Row.no UInt8) x_10 x_3.toNat)) x_11 x_12 x_13 x_14 x_15 x_16 → (x_12 < (↑((gd (Row.no UInt8) ((x_10.set x_3.toNat (gd (Row.no UInt8) x_10 (x_3 + x_7).toNat)).set (x_3 + x_7).toNat (gd (Row.no UInt8) x_10 x_3.toNat)) x_3.toNat).get x_11).length : Int) → ((0 : Int) ≤ x_13 ∧ x_13 < (↑x_15.length : Int)) ∧ x_13.toNat < x_15.length ∧ ((0 : Int) ≤ x_13 ∧ x_13 < (↑x_15.length : Int)) ∧ x_13.toNat < x_15.length ∧ (gd (Row.no UInt8) x_15 x_13.toNat).ok x_16 ∧ ((0 : Int) ≤ x_12 ∧ x_12 < (↑((gd (Row.no UInt8) x_15 x_13.toNat).get x_16).length : Int)) ∧ (gd (Row.no UInt8) x_15 x_13.toNat).ok x_16 ∧ x_12.toNat < ((gd (Row.no UInt8) x_15 x_13.toNat).get x_16).length ∧ True ∧ (gd (Row.no UInt8) x_15 x_13.toNat).ok x_16 ∧ ((0 : Int) ≤ x_12 ∧ x_12 < (↑((gd (Row.no UInt8) x_15 x_13.toNat).get x_16).length : Int)) ∧ (gd (Row.no UInt8) x_15 x_13.toNat).mine x_16 ∧ x_12.toNat < ((gd (Row.no UInt8) x_15 x_13.toNat).get x_16).length ∧ I64 (x_12 + (1 : Int)) ∧ i_24_72_0 (0 : Int) x_3 (invN (gd (0 : UInt8) ((gd (Row.no UInt8) ((x_10.set x_3.toNat (gd (Row.no UInt8) x_10 (x_3 + x_7).toNat)).set (x_3 + x_7).toNat (gd (Row.no UInt8) x_10 x_3.toNat)) x_3.toNat).get x_11) x_9.toNat)) ((x_10.set x_3.toNat (gd (Row.no UInt8) x_10 (x_3 + x_7).toNat)).set (x_3 + x_7).toNat (gd (Row.no UInt8) x_10 x_3.toNat)) x_11 (x_12 + (1 : Int)) x_13 x_14 x_15 (((gd (Row.no UInt8) x_15 x_13.toNat).id, ((gd (Row.no UInt8) x_15 x_13.toNat).get x_16).set x_12.toNat (gmul (gd (0 : UInt8) ((gd (Row.no UInt8) x_15 x_13.toNat).get x_16) x_12.toNat) x_14)) :: x_16) ∧ ((↑(lkA x_11 (rAt x_15 x_13).id).length : Int) - (x_12 + (1 : Int))).toNat < ((↑(lkA x_11 (rAt x_15 x_13).id).length : Int) - x_12).toNat) ∧ ((↑((gd (Row.no UInt8) ((x_10.set x_3.toNat (gd (Row.no UInt8) x_10 (x_3 + x_7).toNat)).set (x_3 + x_7).toNat (gd (Row.no UInt8) x_10 x_3.toNat)) x_3.toNat).get x_11).length : Int) ≤ x_12 → i_24_49_1 (0 : Int) x x_3 x_15 x_16 (0 : Int) x x_3 x_15 x_16 ∧ ∀ (x_17 x_18 x_19 : Int) (x_20 : List (Row UInt8)) (x_21 : List (Nat × List UInt8)), i_24_49_1 (0 : Int) x x_3 x_15 x_16 x_17 x_18 x_19 x_20 x_21 → (x_17 < (↑x_15.length : Int) → (¬x_17 = x_19 → ((0 : Int) ≤ x_17 ∧ x_17 < (↑x_20.length : Int)) ∧ x_17.toNat < x_20.length ∧ (gd (Row.no UInt8) x_20 x_17.toNat).ok x_21 ∧ ((0 : Int) ≤ x_9 ∧ x_9 < (↑((gd (Row.no UInt8) x_20 x_17.toNat).get x_21).length : Int)) ∧ (gd (Row.no UInt8) x_20 x_17.toNat).ok x_21 ∧ x_9.toNat < ((gd (Row.no UInt8) x_20 x_17.toNat).get x_21).length ∧ ((0 : Int) ≤ x_19 ∧ x_19 < (↑x_20.length : Int)) ∧ x_19.toNat < x_20.length ∧ (gd (Row.no UInt8) x_20 x_19.toNat).ok x_21 ∧ i_24_73_0 (0 : Int) x_17 x_19 (gd (0 : UInt8) ((gd (Row.no UInt8) x_20 x_17.toNat).get x_21) x_9.toNat) x_20 x_21 (0 : Int) x_17 x_19 (gd (0 : UInt8) ((gd (Row.no UInt8) x_20 x_17.toNat).get x_21) x_9.toNat) x_20 x_21 ∧ ∀ (x_22 x_23 x_24 : Int) (x_25 : UInt8) (x_26 : List (Row UInt8)) (x_27 : List (Nat × List UInt8)), i_24_73_0 (0 : Int) x_17 x_19 (gd (0 : UInt8) ((gd (Row.no UInt8) x_20 x_17.toNat).get x_21) x_9.toNat) x_20 x_21 x_22 x_23 x_24 x_25 x_26 x_27 → (x_22 < (↑((gd (Row.no UInt8) x_20 x_19.toNat).get x_21).length : Int) → (gd (Row.no UInt8) x_20 x_19.toNat).ok x_27 ∧ ((0 : Int) ≤ x_22 ∧ x_22 < (↑((gd (Row.no UInt8) x_20 x_19.toNat).get x_27).length : Int)) ∧ (gd (Row.no UInt8) x_20 x_19.toNat).ok x_27 ∧ x_22.toNat < ((gd (Row.no UInt8) x_20 x_19.toNat).get x_27).length ∧ ((0 : Int) ≤ x_23 ∧ x_23 < (↑x_26.length : Int)) ∧ x_23.toNat < x_26.length ∧ (gd (Row.no UInt8) x_26 x_23.toNat).ok x_27 ∧ ((0 : Int) ≤ x_22 ∧ x_22 < (↑((gd (Row.no UInt8) x_26 x_23.toNat).get x_27).length : Int)) ∧ (gd (Row.no UInt8) x_26 x_23.toNat).ok x_27 ∧ x_22.toNat < ((gd (Row.no UInt8) x_26 x_23.toNat).get x_27).length ∧ True ∧ (gd (Row.no UInt8) x_26 x_23.toNat).ok x_27 ∧ ((0 : Int) ≤ x_22 ∧ x_22 < (↑((gd (Row.no UInt8) x_26 x_23.toNat).get x_27).length : Int)) ∧ (gd (Row.no UInt8) x_26 x_23.toNat).mine x_27 ∧ x_22.toNat < ((gd (Row.no UInt8) x_26 x_23.toNat).get x_27).length ∧ I64 (x_22 + (1 : Int)) ∧ i_24_73_0 (0 : Int) x_17 x_19 (gd (0 : UInt8) ((gd (Row.no UInt8) x_20 x_17.toNat).get x_21) x_9.toNat) x_20 x_21 (x_22 + (1 : Int)) x_23 x_24 x_25 x_26 (((gd (Row.no UInt8) x_26 x_23.toNat).id, ((gd (Row.no UInt8) x_26 x_23.toNat).get x_27).set x_22.toNat (gd (0 : UInt8) ((gd (Row.no UInt8) x_26 x_23.toNat).get x_27) x_22.toNat ^^^ gmul x_25 (gd (0 : UInt8) ((gd (Row.no UInt8) x_20 x_19.toNat).get x_27) x_22.toNat))) :: x_27) ∧ ((↑(lkA x_21 (rAt x_26 x_24).id).length : Int) - (x_22 + (1 : Int))).toNat < ((↑(lkA x_21 (rAt x_26 x_24).id).length : Int) - x_22).toNat) ∧ ((↑((gd (Row.no UInt8) x_20 x_19.toNat).get x_21).length : Int) ≤ x_22 → I64 (x_17 + (1 : Int)) ∧ i_24_49_1 (0 : Int) x x_3 x_15 x_16 (x_17 + (1 : Int)) x_18 x_19 x_26 x_27 ∧ ((↑x_26.length : Int) - (x_17 + (1 : Int))).toNat < ((↑x_20.length : Int) - x_17).toNat)) ∧ (x_17 = x_19 → I64 (x_17 + (1 : Int)) ∧ i_24_49_1 (0 : Int) x x_3 x_15 x_16 (x_17 + (1 : Int)) x_18 x_19 x_20 x_21 ∧ ((↑x_20.length : Int) - (x_17 + (1 : Int))).toNat < ((↑x_20.length : Int) - x_17).toNat)) ∧ ((↑x_15.length : Int) ≤ x_17 → I64 (x_19 + (1 : Int)) ∧ (x_19 + (1 : Int) = (↑x_20.length : Int) → (x_19 + (1 : Int) < (↑a.length : Int) → ([], (5 : Int)) = invL a) ∧ ((↑a.length : Int) ≤ x_19 + (1 : Int) → (∀ (x : Row UInt8), x ∈ x_20 → x.ok x_21 ∧ x.kd ≠ RK.nil) ∧ ((0 : Int) ≤ (↑a.length : Int) ∧ (↑a.length : Int) ≤ (64 : Int) ∧ (0 : Int) ≤ (↑a.length : Int) ∧ (↑a.length : Int) ≤ (64 : Int) ∧ (0 : Int) ≤ (↑a.length : Int) ∧ (↑a.length : Int) ≤ (64 : Int) ∧ (↑a.length : Int) ≤ (↑(List.map (fun x => x.get x_21) x_20).length : Int) ∧ ∀ (r : List UInt8), r ∈ List.map (fun x => x.get x_21) x_20 → (↑a.length : Int) + (↑a.length : Int) ≤ (↑r.length : Int)) ∧ (fillL (↑a.length : Int) (↑a.length : Int) (fI (List.map (fun x => x.get x_21) x_20) (↑a.length : Int).toNat), (0 : Int)) = invL a)) ∧ (¬x_19 + (1 : Int) = (↑x_20.length : Int) → I64 (x_18 + (1 : Int)) ∧ i_24_49_0 (0 : Int) (0 : Int) (↑a.length : Int) x_1 x_2 (x_18 + (1 : Int)) (x_19 + (1 : Int)) x_4 x_20 x_21 ∧ (x_4 - (x_18 + (1 : Int))).toNat < (x_4 - x).toNat))))) ∧ (decide (gd (0 : UInt8) ((gd (Row.no UInt8) x_10 (x_8.fst + x_7.toNat)).get x_11) x_9.toNat ≠ (0 : UInt8)) = false → I64 (x_7 + (1 : Int)) ∧ i_24_70_0 (0 : Int) (x_3.toNat, (↑x_5.length : Int).toNat - x_3.toNat) x x_5 x_6 (x_7 + (1 : Int)) x_8 x_9 x_10 x_11 ∧ ((↑x_8.snd : Int) - (x_7 + (1 : Int))).toNat < ((↑x_8.snd : Int) - x_7).toNat)) ∧ ((↑((↑x_5.length : Int).toNat - x_3.toNat) : Int) ≤ x_7 → I64 (x + (1 : Int)) ∧ i_24_49_0 (0 : Int) (0 : Int) (↑a.length : Int) x_1 x_2 (x + (1 : Int)) x_3 x_4 x_10 x_11 ∧ (x_4 - (x + (1 : Int))).toNat < (x_4 - x).toNat)) ∧ ((↑a.length : Int) ≤ x → (x_3 < (↑a.length : Int) → ([], (5 : Int)) = invL a) ∧ ((↑a.length : Int) ≤ x_3 → (∀ (x : Row UInt8), x ∈ x_5 → x.ok x_6 ∧ x.kd ≠ RK.nil) ∧ ((0 : Int) ≤ (↑a.length : Int) ∧ (↑a.length : Int) ≤ (64 : Int) ∧ (0 : Int) ≤ (↑a.length : Int) ∧ (↑a.length : Int) ≤ (64 : Int) ∧ (0 : Int) ≤ (↑a.length : Int) ∧ (↑a.length : Int) ≤ (64 : Int) ∧ (↑a.length : Int) ≤ (↑(List.map (fun x => x.get x_6) x_5).length : Int) ∧ ∀ (r : List UInt8), r ∈ List.map (fun x => x.get x_6) x_5 → (↑a.length : Int) + (↑a.length : Int) ≤ (↑r.length : Int)) ∧ (fillL (↑a.length : Int) (↑a.length : Int) (fI (List.map (fun x => x.get x_6) x_5) (↑a.length : Int).toNat), (0 : Int)) = invL a))))) := by
  delta z24_0
  refine ⟨trivial, fun h => by unfold invL; rw [if_pos h], fun h => ?_⟩
  obtain ⟨h1, h2, h3, h4, h5, h6⟩ := mchk_ok h
  have h00 : (gd [] a (Int.toNat 0)) = gd [] a 0 := rfl
  refine ⟨⟨Int.le_refl _, by omega⟩, fun hne => by unfold invL; rw [if_neg (by rw [h]; simp), if_pos (by rw [h00] at hne; omega)], fun he => ⟨by unfold I64; omega, ?_⟩⟩
  rw [h00] at he
  have hE : a.length = (gd [] a 0).length := by omega
  refine filled_vc (a.length : Int) (2 * (a.length : Int)) (fB a a.length) (fun i k => if k < (a.length : Int) then gd 0 (gd [] a i.toNat) k.toNat else if k - (a.length : Int) = i then 1 else 0) (fun i k => (0 : Int) ≤ i ∧ i < (↑a.length : Int) ∧ (0 : Int) ≤ k ∧ (0 : Int) ≤ (↑a.length : Int) ∧ (↑a.length : Int) ≤ 1000 ∧ k ≤ 2000 ∧ (↑a.length : Int) ≤ (↑(gd [] a i.toNat).length : Int)) _ ⟨by omega, by omega, by omega, by omega⟩ (fun i k q1 q2 q3 q4 => ⟨⟨q1, q2, q3, by omega, by omega, by omega, by have := h6 _ (gd_mem (d := []) (xs := a) (i := i.toNat) (by omega)); omega⟩, fB_v q1 q3⟩) fun K A i hi hF => ?_
  refine clear_vc (a.length : Int) K A (fun d K A => (d < (a.length : Int) → (([] : List (List UInt8)), (5 : Int)) = invL a) ∧ ((a.length : Int) ≤ d → (∀ x : Row UInt8, x ∈ K → x.ok A ∧ x.kd ≠ RK.nil) ∧ (0 ≤ (a.length : Int) ∧ (a.length : Int) ≤ 64 ∧ 0 ≤ (a.length : Int) ∧ (a.length : Int) ≤ 64 ∧ 0 ≤ (a.length : Int) ∧ (a.length : Int) ≤ 64 ∧ (a.length : Int) ≤ ((List.map (fun x => x.get A) K).length : Int) ∧ ∀ r, r ∈ List.map (fun x => x.get A) K → (a.length : Int) + (a.length : Int) ≤ (r.length : Int)) ∧ (fillL (a.length : Int) (a.length : Int) (fI (List.map (fun x => x.get A) K) (a.length : Int).toNat), (0 : Int)) = invL a)) (ClI.start hF hi ⟨by omega, by omega⟩ ⟨by omega, by omega, by omega⟩) fun d K2 A2 hd hm he2 => ?_
  obtain ⟨m, hM, hcm⟩ := hm
  rw [hF.vw hi (by omega), Int.toNat_natCast] at he2
  have e1 : vw A2 K2 = (clI a).1 := by unfold clI; rw [he2]
  have e2 : d.toNat = (clI a).2 := by unfold clI; rw [he2]
  have hR := clI_rect (a := a) (by omega)
  have hinv : invL a = if (clI a).2 < a.length then ([], 5) else (fillL a.length a.length (fI (clI a).1 a.length), 0) := by
    unfold invL; rw [if_neg (by rw [h]; simp), if_neg (by omega)]
  refine ⟨fun hlt => by rw [hinv, if_pos (by omega)], fun hge => ⟨hM.frz, ?_, ?_⟩⟩
  · show _ ∧ _ ∧ _ ∧ _ ∧ _ ∧ _ ∧ (a.length : Int) ≤ ((vw A2 K2).length : Int) ∧ ∀ r, r ∈ vw A2 K2 → (a.length : Int) + (a.length : Int) ≤ (r.length : Int)
    rw [e1]
    refine ⟨by omega, by omega, by omega, by omega, by omega, by omega, by rw [hR.1]; omega, fun r hr => by rw [hR.2 r hr]; omega⟩
  · show (fillL (a.length : Int) (a.length : Int) (fI (vw A2 K2) (a.length : Int).toNat), (0 : Int)) = invL a
    rw [hinv, if_neg (by omega), e1, Int.toNat_natCast]
def l_24 : PD Tc.dn k_24.ps → List (IL Tc Tc.dn) := fun x => (fun (a : (List (List UInt8))) => ([⟨47, .fn F47 (fun k => bif Nat.beq k 0 then some (.inv [.sl 14 .cInt, .bl 3 .rU8, .ar .cU8] (fun zo zv => (fun (i : Int) (K : (List (Row UInt8))) (A : (List (Nat × List UInt8))) => i_24_47_48_0 a i K A) zv.1 zv.2.1 zv.2.2.1) (fun zo zv => (fun (i : Int) (K : (List (Row UInt8))) (A : (List (Nat × List UInt8))) => ((a.length : Int) - i).toNat) zv.1 zv.2.1 zv.2.2.1)) else bif Nat.beq k 1 then some (.inv [.sl 27 .cInt, .sl 8 .cInt, .bl 3 .rU8, .ar .cU8] (fun zo zv => (fun (k0 : Int) (i0 : Int) (K0 : (List (Row UInt8))) (A0 : (List (Nat × List UInt8))) (k : Int) (i : Int) (K : (List (Row UInt8))) (A : (List (Nat × List UInt8))) => i_24_47_48_1 a k0 i0 K0 A0 k i K A) zo.1 zo.2.1 zo.2.2.1 zo.2.2.2.1 zv.1 zv.2.1 zv.2.2.1 zv.2.2.2.1) (fun zo zv => (fun (k0 : Int) (i0 : Int) (K0 : (List (Row UInt8))) (A0 : (List (Nat × List UInt8))) (k : Int) (i : Int) (K : (List (Row UInt8))) (A : (List (Nat × List UInt8))) => ((2 * (a.length : Int)) - k).toNat) zo.1 zo.2.1 zo.2.2.1 zo.2.2.2.1 zv.1 zv.2.1 zv.2.2.1 zv.2.2.2.1)) else none), some 48⟩, ⟨70, .fn F70 (fun k => bif Nat.beq k 0 then some (.inv [.sl 8 .cInt, .pt 0 3 1, .ce 5 .cInt, .bl 3 .rU8, .ar .cU8] (fun zo zv => (fun (k0 : Int) (s0 : (Nat × Nat)) (c0 : Int) (K0 : (List (Row UInt8))) (A0 : (List (Nat × List UInt8))) (k : Int) (s : (Nat × Nat)) (c : Int) (K : (List (Row UInt8))) (A : (List (Nat × List UInt8))) => i_24_70_0 k0 s0 c0 K0 A0 k s c K A) zo.1 zo.2.1 zo.2.2.1 zo.2.2.2.1 zo.2.2.2.2.1 zv.1 zv.2.1 zv.2.2.1 zv.2.2.2.1 zv.2.2.2.2.1) (fun zo zv => (fun (k0 : Int) (s0 : (Nat × Nat)) (c0 : Int) (K0 : (List (Row UInt8))) (A0 : (List (Nat × List UInt8))) (k : Int) (s : (Nat × Nat)) (c : Int) (K : (List (Row UInt8))) (A : (List (Nat × List UInt8))) => ((s.2 : Int) - k).toNat) zo.1 zo.2.1 zo.2.2.1 zo.2.2.2.1 zo.2.2.2.2.1 zv.1 zv.2.1 zv.2.2.1 zv.2.2.2.1 zv.2.2.2.2.1)) else none), none⟩, ⟨72, .fn F72 (fun k => bif Nat.beq k 0 then some (.inv [.sl 12 .cInt, .sl 1 .cInt, .sl 2 .cU8, .bl 3 .rU8, .ar .cU8] (fun zo zv => (fun (k0 : Int) (i0 : Int) (f0 : UInt8) (K0 : (List (Row UInt8))) (A0 : (List (Nat × List UInt8))) (k : Int) (i : Int) (f : UInt8) (K : (List (Row UInt8))) (A : (List (Nat × List UInt8))) => i_24_72_0 k0 i0 f0 K0 A0 k i f K A) zo.1 zo.2.1 zo.2.2.1 zo.2.2.2.1 zo.2.2.2.2.1 zv.1 zv.2.1 zv.2.2.1 zv.2.2.2.1 zv.2.2.2.2.1) (fun zo zv => (fun (k0 : Int) (i0 : Int) (f0 : UInt8) (K0 : (List (Row UInt8))) (A0 : (List (Nat × List UInt8))) (k : Int) (i : Int) (f : UInt8) (K : (List (Row UInt8))) (A : (List (Nat × List UInt8))) => ((lkA A0 (rAt K i).id).length - k).toNat) zo.1 zo.2.1 zo.2.2.1 zo.2.2.2.1 zo.2.2.2.2.1 zv.1 zv.2.1 zv.2.2.1 zv.2.2.2.1 zv.2.2.2.2.1)) else none), none⟩, ⟨73, .fn F73 (fun k => bif Nat.beq k 0 then some (.inv [.sl 15 .cInt, .sl 1 .cInt, .sl 2 .cInt, .sl 3 .cU8, .bl 3 .rU8, .ar .cU8] (fun zo zv => (fun (k0 : Int) (t0 : Int) (s0 : Int) (f0 : UInt8) (K0 : (List (Row UInt8))) (A0 : (List (Nat × List UInt8))) (k : Int) (t : Int) (s : Int) (f : UInt8) (K : (List (Row UInt8))) (A : (List (Nat × List UInt8))) => i_24_73_0 k0 t0 s0 f0 K0 A0 k t s f K A) zo.1 zo.2.1 zo.2.2.1 zo.2.2.2.1 zo.2.2.2.2.1 zo.2.2.2.2.2.1 zv.1 zv.2.1 zv.2.2.1 zv.2.2.2.1 zv.2.2.2.2.1 zv.2.2.2.2.2.1) (fun zo zv => (fun (k0 : Int) (t0 : Int) (s0 : Int) (f0 : UInt8) (K0 : (List (Row UInt8))) (A0 : (List (Nat × List UInt8))) (k : Int) (t : Int) (s : Int) (f : UInt8) (K : (List (Row UInt8))) (A : (List (Nat × List UInt8))) => ((lkA A0 (rAt K s).id).length - k).toNat) zo.1 zo.2.1 zo.2.2.1 zo.2.2.2.1 zo.2.2.2.2.1 zo.2.2.2.2.2.1 zv.1 zv.2.1 zv.2.2.1 zv.2.2.2.1 zv.2.2.2.2.1 zv.2.2.2.2.2.1)) else none), none⟩, ⟨49, .fn F49 (fun k => bif Nat.beq k 0 then some (.inv [.sl 12 .cInt, .sl 5 .cInt, .sl 1 .cInt, .bl 3 .rU8, .ar .cU8] (fun zo zv => (fun (c0 : Int) (d0 : Int) (cols0 : Int) (K0 : (List (Row UInt8))) (A0 : (List (Nat × List UInt8))) (c : Int) (d : Int) (cols : Int) (K : (List (Row UInt8))) (A : (List (Nat × List UInt8))) => i_24_49_0 c0 d0 cols0 K0 A0 c d cols K A) zo.1 zo.2.1 zo.2.2.1 zo.2.2.2.1 zo.2.2.2.2.1 zv.1 zv.2.1 zv.2.2.1 zv.2.2.2.1 zv.2.2.2.2.1) (fun zo zv => (fun (c0 : Int) (d0 : Int) (cols0 : Int) (K0 : (List (Row UInt8))) (A0 : (List (Nat × List UInt8))) (c : Int) (d : Int) (cols : Int) (K : (List (Row UInt8))) (A : (List (Nat × List UInt8))) => (cols - c).toNat) zo.1 zo.2.1 zo.2.2.1 zo.2.2.2.1 zo.2.2.2.2.1 zv.1 zv.2.1 zv.2.2.1 zv.2.2.2.1 zv.2.2.2.2.1)) else bif Nat.beq k 1 then some (.inv [.sl 57 .cInt, .sl 12 .cInt, .sl 5 .cInt, .bl 3 .rU8, .ar .cU8] (fun zo zv => (fun (k0 : Int) (c0 : Int) (d0 : Int) (K0 : (List (Row UInt8))) (A0 : (List (Nat × List UInt8))) (k : Int) (c : Int) (d : Int) (K : (List (Row UInt8))) (A : (List (Nat × List UInt8))) => i_24_49_1 k0 c0 d0 K0 A0 k c d K A) zo.1 zo.2.1 zo.2.2.1 zo.2.2.2.1 zo.2.2.2.2.1 zv.1 zv.2.1 zv.2.2.1 zv.2.2.2.1 zv.2.2.2.2.1) (fun zo zv => (fun (k0 : Int) (c0 : Int) (d0 : Int) (K0 : (List (Row UInt8))) (A0 : (List (Nat × List UInt8))) (k : Int) (c : Int) (d : Int) (K : (List (Row UInt8))) (A : (List (Nat × List UInt8))) => ((K.length : Int) - k).toNat) zo.1 zo.2.1 zo.2.2.1 zo.2.2.2.1 zo.2.2.2.2.1 zv.1 zv.2.1 zv.2.2.1 zv.2.2.2.1 zv.2.2.2.2.1)) else none), none⟩])) x.1
theorem l_24_ok : ∀ x, ILs Try.prog tD (l_24 x) := fun _ => ⟨⟨F47_ok, F47_call⟩, ⟨F70_ok, F70_call⟩, ⟨F72_ok, F72_call⟩, ⟨F73_ok, F73_call⟩, ⟨F49_ok, F49_call⟩, trivial⟩
theorem k_24_ok : k_24.Ok Try.prog tD := con_ok tD_ok (Δ := [k_45, k_48, k_32_35, k_58, k_44, k_71]) ⟨k_45_ok, k_48_ok, k_32_35_ok, k_58_ok, k_44_ok, k_71_ok, trivial⟩ (Ω := []) trivial k_24 F24_ok F24_call (l_24) (l_24_ok) 3 (fun x => (fun (a : (List (List UInt8))) => (fun k => bif Nat.beq k 1029 then some (.frz [5]) else bif Nat.beq k 1033 then some (.frz [6]) else none)) x.1) fun x hp => Eq.mp (by kernel_rfl) (k_24_v x.1)
open Go.RowKit
def allF (many more : Int) : List (List UInt8) := fillL many many fU ++ fillL more many (fC more)
def rowsF (many more : Int) (at_ : List Int) : List (List UInt8) := at_.map fun i => gd [] (allF many more) i.toNat
theorem allF_len {many more : Int} (h1 : 0 ≤ many) (h2 : 0 ≤ more) : ((allF many more).length : Int) = many + more := by
  unfold allF fillL; simp; omega
structure RwF (many more : Int) (at_ : List Int) (i : Int) (out : List (List UInt8)) : Prop where
  lo : 0 ≤ i
  hi : i ≤ at_.length
  eq : out = (at_.take i.toNat).map fun i => gd [] (allF many more) i.toNat
theorem RwF.start {many more : Int} {at_ : List Int} : RwF many more at_ 0 [] := ⟨by omega, by omega, by simp⟩
theorem RwF.step {many more i : Int} {at_ : List Int} {out : List (List UInt8)} (h : RwF many more at_ i out) (hi : i < at_.length) : RwF many more at_ (i + 1) (out ++ [gd [] (allF many more) (gd 0 at_ i.toNat).toNat]) := by
  have h0 := h.lo
  refine ⟨by omega, by omega, ?_⟩
  rw [show (i + 1).toNat = i.toNat + 1 by omega, List.take_add_one, gd_get (d := 0) (by omega), h.eq]
  simp
theorem RwF.len {many more i : Int} {at_ : List Int} {out : List (List UInt8)} (h : RwF many more at_ i out) : (out.length : Int) = i := by
  have := h.lo; have := h.hi
  rw [h.eq]; simp; omega
theorem RwF.fin {many more i : Int} {at_ : List Int} {out : List (List UInt8)} (h : RwF many more at_ i out) (hi : at_.length ≤ i) : out = rowsF many more at_ := by
  rw [h.eq, List.take_of_length_le (by omega)]; rfl
def atGo (n : Int) : List Int → List Int → Int
  | _, [] => 0
  | seen, x :: r => if x < 0 ∨ n ≤ x then 3 else if x ∈ seen then 6 else atGo n (seen ++ [x]) r
def atE (n : Int) (at_ : List Int) : Int := atGo n [] at_
structure AtI (n : Int) (at_ : List Int) (i : Int) : Prop where
  lo : 0 ≤ i
  hi : i ≤ at_.length
  eq : atGo n (at_.take i.toNat) (at_.drop i.toNat) = atE n at_
theorem AtI.start {n : Int} {at_ : List Int} : AtI n at_ 0 := ⟨by omega, by omega, rfl⟩
theorem AtI.out {n : Int} {at_ : List Int} {i : Int} (h : AtI n at_ i) (hi : i < at_.length) (hb : gd 0 at_ i.toNat < 0 ∨ n ≤ gd 0 at_ i.toNat) : atE n at_ = 3 := by
  have h0 := h.lo
  rw [← h.eq, gd_drop 0 (by omega), atGo, if_pos hb]
theorem AtI.twice {n : Int} {at_ : List Int} {i : Int} (h : AtI n at_ i) (hi : i < at_.length) (h1 : 0 ≤ gd 0 at_ i.toNat) (h2 : gd 0 at_ i.toNat < n) (hb : gd 0 at_ i.toNat ∈ at_.take i.toNat) : atE n at_ = 6 := by
  have h0 := h.lo
  rw [← h.eq, gd_drop 0 (by omega), atGo, if_neg (by omega), if_pos hb]
theorem AtI.step {n : Int} {at_ : List Int} {i : Int} (h : AtI n at_ i) (hi : i < at_.length) (h1 : 0 ≤ gd 0 at_ i.toNat) (h2 : gd 0 at_ i.toNat < n) (hb : ¬ gd 0 at_ i.toNat ∈ at_.take i.toNat) : AtI n at_ (i + 1) := by
  have h0 := h.lo
  refine ⟨by omega, by omega, ?_⟩
  rw [← h.eq, gd_drop 0 (i := i.toNat) (by omega), atGo, if_neg (by omega), if_neg hb, show (i + 1).toNat = i.toNat + 1 by omega, List.take_add_one, gd_get (d := 0) (by omega)]
  rfl
theorem AtI.fin {n : Int} {at_ : List Int} {i : Int} (h : AtI n at_ i) (hi : at_.length ≤ i) : atE n at_ = 0 := by
  rw [← h.eq, List.drop_eq_nil_of_le (by omega)]; rfl
theorem atGo_rng {n : Int} : ∀ {seen l : List Int}, atGo n seen l = 0 → (∀ i, i ∈ l → 0 ≤ i ∧ i < n ∧ ¬ i ∈ seen) ∧ l.Nodup
  | _, [], _ => ⟨fun i h => by simp at h, List.nodup_nil⟩
  | seen, x :: r, h => by
    unfold atGo at h
    split at h
    · simp at h
    · rename_i h1
      split at h
      · simp at h
      · rename_i h2
        obtain ⟨q1, q2⟩ := atGo_rng h
        refine ⟨fun i hi => ?_, ?_⟩
        · rcases List.mem_cons.1 hi with e | e
          · rw [e]; exact ⟨by omega, by omega, h2⟩
          · obtain ⟨p1, p2, p3⟩ := q1 i e
            exact ⟨p1, p2, fun hh => p3 (List.mem_append_left _ hh)⟩
        · rw [List.nodup_cons]
          exact ⟨fun hx => (q1 x hx).2.2 (by simp), q2⟩
theorem atE_rng {n : Int} {at_ : List Int} (h : atE n at_ = 0) : (∀ i, i ∈ at_ → 0 ≤ i ∧ i < n) ∧ at_.Nodup := by
  obtain ⟨q1, q2⟩ := atGo_rng h
  exact ⟨fun i hi => ⟨(q1 i hi).1, (q1 i hi).2.1⟩, q2⟩
def rebL (many more : Int) (at_ : List Int) (pieces : List BA) : List BA × Int :=
  if ¬ (1 ≤ many ∧ many ≤ 8) ∨ ¬ (1 ≤ more ∧ more ≤ 6) then ([], 3) else if ¬ (at_.length : Int) = pieces.length then ([], 1) else if (at_.length : Int) < many then ([], 8) else if many < (at_.length : Int) then ([], 2) else if ¬ atE (many + more) at_ = 0 then ([], atE (many + more) at_) else if ¬ alkE pieces = 0 then ([], alkE pieces) else if ¬ (invL (rowsF many more at_)).2 = 0 then ([], (invL (rowsF many more at_)).2) else (mixS (invL (rowsF many more at_)).1 pieces, 0)
theorem inv_w {a : List (List UInt8)} (h : (invL a).2 = 0) : (invL a).1.length = a.length ∧ ∀ r, r ∈ (invL a).1 → r.length = a.length := by
  unfold invL at h ⊢
  by_cases h1 : mchk a ≠ 0
  · rw [if_pos h1] at h; exact absurd h h1
  · rw [if_neg h1] at h ⊢
    by_cases h2 : a.length ≠ (gd [] a 0).length
    · rw [if_pos h2] at h; simp at h
    · rw [if_neg h2] at h ⊢
      by_cases h3 : (clI a).2 < a.length
      · rw [if_pos h3] at h; simp at h
      · rw [if_neg h3]
        refine ⟨by unfold fillL; simp, fun r hr => ?_⟩
        have := fill_w r hr
        omega
theorem reb_mx {many more : Int} {at_ : List Int} {pieces : List BA} (h1 : 1 ≤ many) (h2 : many ≤ 8) (hl : (at_.length : Int) = pieces.length) (hm : (at_.length : Int) = many) (hk : alkE pieces = 0) (hi : (invL (rowsF many more at_)).2 = 0) : MxP (invL (rowsF many more at_)).1 pieces := by
  obtain ⟨a1, a2⟩ := alk_ok hk
  obtain ⟨b1, b2⟩ := inv_w hi
  have h0 := a1 _ (gd_mem (d := ByteArray.empty) (xs := pieces) (i := 0) (by omega))
  have hr : (rowsF many more at_).length = at_.length := by unfold rowsF; simp
  refine ⟨by omega, by omega, by omega, fun r hr' => by have := b2 r hr'; omega, fun s hs => by rw [a2 s hs]; exact Nat.le_refl _, by omega⟩
theorem at_in {n : Int} {at_ : List Int} {i : Int} (h : ∀ i, i ∈ at_ → 0 ≤ i ∧ i < n) (h1 : 0 ≤ i) (h2 : i < at_.length) : 0 ≤ gd 0 at_ i.toNat ∧ gd 0 at_ i.toNat < n := h _ (gd_mem (by omega))
def i_35_47_79_1 (many : Int) (k0 : Int) (i0 : Int) (K0 : (List (Row UInt8))) (A0 : (List (Nat × List UInt8))) (k : Int) (i : Int) (K : (List (Row UInt8))) (A : (List (Nat × List UInt8))) : Prop := 0 ≤ k ∧ k ≤ many ∧ K = K0 ∧ i = i0 ∧ FillR A0 A (gd (Row.no UInt8) K i.toNat) k many (fU i.toNat)
def i_35_47_79_0 (many : Int) (i : Int) (K : (List (Row UInt8))) (A : (List (Nat × List UInt8))) : Prop := 0 ≤ i ∧ i ≤ many ∧ FillI A K i many many (fU)
def i_35_0 (many : Int) (more : Int) (at_ : (List Int)) (i : Int) (out : (List (List UInt8))) : Prop := RwF many more at_ i out
def k_35 : Con Tc Tc.dn := ⟨35, [.ty .cInt, .ty .cInt, .ty .lInt], fun x => (fun (many : Int) (more : Int) (at_ : (List Int)) => 1 ≤ many ∧ many ≤ 8 ∧ 1 ≤ more ∧ more ≤ 6 ∧ at_.length ≤ 100 ∧ ∀ i, i ∈ at_ → 0 ≤ i ∧ i < many + more) x.1 x.2.1 x.2.2.1, [.llU8], fun x => (fun (many : Int) (more : Int) (at_ : (List Int)) => rowsF many more at_) x.1 x.2.1 x.2.2.1⟩
abbrev z35_0 (many : Int) := (List.replicate many.toNat (UInt8.ofNat (Int.toNat (0 : Int))))
theorem k_35_v (many : Int) (more : Int) (at_ : (List Int)) (hp : 1 ≤ many ∧ many ≤ 8 ∧ 1 ≤ more ∧ more ≤ 6 ∧ at_.length ≤ 100 ∧ ∀ i, i ∈ at_ → 0 ≤ i ∧ i < many + more) : True ∧ (decide ((1 : Int) ≤ many ∧ many ≤ (16 : Int)) = !true → True ∧ (cauL more many).fst.length * (24 : Nat) ≤ (140737488355328 : Nat) ∧ i_35_0 many more at_ (0 : Int) [] ∧ ∀ (x : Int) (x_1 : List (List UInt8)), i_35_0 many more at_ x x_1 → (x < (↑at_.length : Int) → ((0 : Int) ≤ x ∧ x < (↑at_.length : Int)) ∧ ((0 : Int) ≤ gd (0 : Int) at_ x.toNat ∧ gd (0 : Int) at_ x.toNat < (↑(cauL more many).fst.length : Int)) ∧ (gd (0 : Int) at_ x.toNat).toNat < (cauL more many).fst.length ∧ (x_1.length + (1 : Nat)) * (24 : Nat) ≤ (140737488355328 : Nat) ∧ I64 (x + (1 : Int)) ∧ i_35_0 many more at_ (x + (1 : Int)) (x_1 ++ [gd [] (cauL more many).fst (gd (0 : Int) at_ x.toNat).toNat]) ∧ ((↑at_.length : Int) - (x + (1 : Int))).toNat < ((↑at_.length : Int) - x).toNat) ∧ ((↑at_.length : Int) ≤ x → x_1 = rowsF many more at_)) ∧ (decide ((1 : Int) ≤ many ∧ many ≤ (16 : Int)) = !false → ((0 : Int) ≤ many ∧ many ≤ many ∧ many * (↑(24 : Nat) : Int) ≤ (140737488355328 : Int)) ∧ i_35_47_79_0 many (0 : Int) (List.replicate many.toNat (Row.no UInt8)) [] ∧ ∀ (x : Int) (x_1 : List (Row UInt8)) (x_2 : List (Nat × List UInt8)), i_35_47_79_0 many x x_1 x_2 → (x < (↑(List.replicate many.toNat (Row.no UInt8)).length : Int) → ((0 : Int) ≤ many ∧ many ≤ many ∧ many * (↑(1 : Nat) : Int) ≤ (140737488355328 : Int)) ∧ ((0 : Int) ≤ x ∧ x < (↑x_1.length : Int)) ∧ ∀ (id : Nat), ¬hasA x_2 id → x.toNat < x_1.length ∧ ((0 : Int) ≤ x ∧ x < (↑(x_1.set x.toNat (Row.at UInt8 id (z35_0 many).length)).length : Int)) ∧ x.toNat < (x_1.set x.toNat (Row.at UInt8 id (z35_0 many).length)).length ∧ (gd (Row.no UInt8) (x_1.set x.toNat (Row.at UInt8 id (z35_0 many).length)) x.toNat).ok ((id, List.replicate many.toNat (UInt8.ofNat (Int.toNat (0 : Int)))) :: x_2) ∧ i_35_47_79_1 many (0 : Int) x (x_1.set x.toNat (Row.at UInt8 id (z35_0 many).length)) ((id, List.replicate many.toNat (UInt8.ofNat (Int.toNat (0 : Int)))) :: x_2) (0 : Int) x (x_1.set x.toNat (Row.at UInt8 id (z35_0 many).length)) ((id, List.replicate many.toNat (UInt8.ofNat (Int.toNat (0 : Int)))) :: x_2) ∧ ∀ (x_3 x_4 : Int) (x_5 : List (Row UInt8)) (x_6 : List (Nat × List UInt8)), i_35_47_79_1 many (0 : Int) x (x_1.set x.toNat (Row.at UInt8 id (z35_0 many).length)) ((id, List.replicate many.toNat (UInt8.ofNat (Int.toNat (0 : Int)))) :: x_2) x_3 x_4 x_5 x_6 → (x_3 < (↑((gd (Row.no UInt8) (x_1.set x.toNat (Row.at UInt8 id (z35_0 many).length)) x.toNat).get ((id, List.replicate many.toNat (UInt8.ofNat (Int.toNat (0 : Int)))) :: x_2)).length : Int) → ((0 : Int) ≤ x_4 ∧ x_4 < (↑x_5.length : Int)) ∧ x_4.toNat < x_5.length ∧ True ∧ (gd (Row.no UInt8) x_5 x_4.toNat).ok x_6 ∧ ((0 : Int) ≤ x_3 ∧ x_3 < (↑((gd (Row.no UInt8) x_5 x_4.toNat).get x_6).length : Int)) ∧ (gd (Row.no UInt8) x_5 x_4.toNat).mine x_6 ∧ x_3.toNat < ((gd (Row.no UInt8) x_5 x_4.toNat).get x_6).length ∧ I64 (x_3 + (1 : Int)) ∧ i_35_47_79_1 many (0 : Int) x (x_1.set x.toNat (Row.at UInt8 id (z35_0 many).length)) ((id, List.replicate many.toNat (UInt8.ofNat (Int.toNat (0 : Int)))) :: x_2) (x_3 + (1 : Int)) x_4 x_5 (((gd (Row.no UInt8) x_5 x_4.toNat).id, ((gd (Row.no UInt8) x_5 x_4.toNat).get x_6).set x_3.toNat (if x_4 = x_3 then (1 : RD Tc.dn [Tc.cU8]) else (0 : RD Tc.dn [Tc.cU8]))) :: x_6) ∧ (many - (x_3 + (1 : Int))).toNat < (many - x_3).toNat) ∧ ((↑((gd (Row.no UInt8) (x_1.set x.toNat (Row.at UInt8 id (z35_0 many).length)) x.toNat).get ((id, List.replicate many.toNat (UInt8.ofNat (Int.toNat (0 : Int)))) :: x_2)).length : Int) ≤ x_3 → I64 (x + (1 : Int)) ∧ i_35_47_79_0 many (x + (1 : Int)) x_5 x_6 ∧ (many - (x + (1 : Int))).toNat < (many - x).toNat)) ∧ ((↑(List.replicate many.toNat (Row.no UInt8)).length : Int) ≤ x → True ∧ (∀ (x : Row UInt8), x ∈ x_1 → x.ok x_2 ∧ x.kd ≠ RK.nil) ∧ ((List.map (fun x => x.get x_2) x_1).length + (cauL more many).fst.length) * (24 : Nat) ≤ (140737488355328 : Nat) ∧ i_35_0 many more at_ (0 : Int) [] ∧ ∀ (x : Int) (x_3 : List (List UInt8)), i_35_0 many more at_ x x_3 → (x < (↑at_.length : Int) → ((0 : Int) ≤ x ∧ x < (↑at_.length : Int)) ∧ ((0 : Int) ≤ gd (0 : Int) at_ x.toNat ∧ gd (0 : Int) at_ x.toNat < (↑(List.map (fun x => x.get x_2) x_1 ++ (cauL more many).fst).length : Int)) ∧ (gd (0 : Int) at_ x.toNat).toNat < (List.map (fun x => x.get x_2) x_1 ++ (cauL more many).fst).length ∧ (x_3.length + (1 : Nat)) * (24 : Nat) ≤ (140737488355328 : Nat) ∧ I64 (x + (1 : Int)) ∧ i_35_0 many more at_ (x + (1 : Int)) (x_3 ++ [gd [] (List.map (fun x => x.get x_2) x_1 ++ (cauL more many).fst) (gd (0 : Int) at_ x.toNat).toNat]) ∧ ((↑at_.length : Int) - (x + (1 : Int))).toNat < ((↑at_.length : Int) - x).toNat) ∧ ((↑at_.length : Int) ≤ x → x_3 = rowsF many more at_))) := by
  delta z35_0
  refine ⟨trivial, fun h => absurd h (by simp; omega), fun _ => filled_vc many many fU (fun i k => if i = k then 1 else 0) (fun i k => True) _ ⟨by omega, by omega, by omega, by omega⟩ (fun i k h1 h2 h3 h4 => ⟨trivial, by unfold fU; by_cases h : i = k <;> simp [h]; omega⟩) fun K A i hi hF => ?_⟩
  obtain ⟨e1, e2⟩ := hF.fin hi (by omega)
  rw [e2, cau_ok (by omega) (by omega) (by omega) (by omega)]
  have hl := allF_len (many := many) (more := more) (by omega) (by omega)
  have hl2 : (allF many more).length = (fillL many many fU).length + (fillL more many (fC more)).length := by unfold allF; rw [List.length_append]
  have a1 := @RwF.start many more at_
  have a2 := @RwF.step many more
  have a3 := @RwF.len many more
  have a4 := @RwF.fin many more
  have a5 := @RwF.lo many more
  have a6 := @at_in (many + more) at_
  obtain ⟨p1, p2, p3, p4, p5, p6⟩ := hp
  show True ∧ _ ∧ _ ∧ _ ∧ ∀ (x : Int) (x_3 : List (List UInt8)), i_35_0 many more at_ x x_3 → (x < (↑at_.length : Int) → ((0 : Int) ≤ x ∧ x < (↑at_.length : Int)) ∧ ((0 : Int) ≤ gd (0 : Int) at_ x.toNat ∧ gd (0 : Int) at_ x.toNat < (↑(allF many more).length : Int)) ∧ (gd (0 : Int) at_ x.toNat).toNat < (allF many more).length ∧ (x_3.length + (1 : Nat)) * (24 : Nat) ≤ (140737488355328 : Nat) ∧ I64 (x + (1 : Int)) ∧ i_35_0 many more at_ (x + (1 : Int)) (x_3 ++ [gd [] (allF many more) (gd (0 : Int) at_ x.toNat).toNat]) ∧ ((↑at_.length : Int) - (x + (1 : Int))).toNat < ((↑at_.length : Int) - x).toNat) ∧ ((↑at_.length : Int) ≤ x → x_3 = rowsF many more at_)
  (repeat' (first | apply And.intro | intro _)) <;> first | assumption | trivial | omega | (grind [i_35_47_79_1, i_35_47_79_0, i_35_0, I64]) | trace_state
def l_35 : PD Tc.dn k_35.ps → List (IL Tc Tc.dn) := fun x => (fun (many : Int) (more : Int) (at_ : (List Int)) => ([⟨53, .fn F53 (fun _ => none), none⟩, ⟨74, .fn F74 (fun _ => none), none⟩, ⟨47, .fn F47 (fun k => bif Nat.beq k 0 then some (.inv [.sl 14 .cInt, .bl 1 .rU8, .ar .cU8] (fun zo zv => (fun (i : Int) (K : (List (Row UInt8))) (A : (List (Nat × List UInt8))) => i_35_47_79_0 many i K A) zv.1 zv.2.1 zv.2.2.1) (fun zo zv => (fun (i : Int) (K : (List (Row UInt8))) (A : (List (Nat × List UInt8))) => (many - i).toNat) zv.1 zv.2.1 zv.2.2.1)) else bif Nat.beq k 1 then some (.inv [.sl 27 .cInt, .sl 8 .cInt, .bl 1 .rU8, .ar .cU8] (fun zo zv => (fun (k0 : Int) (i0 : Int) (K0 : (List (Row UInt8))) (A0 : (List (Nat × List UInt8))) (k : Int) (i : Int) (K : (List (Row UInt8))) (A : (List (Nat × List UInt8))) => i_35_47_79_1 many k0 i0 K0 A0 k i K A) zo.1 zo.2.1 zo.2.2.1 zo.2.2.2.1 zv.1 zv.2.1 zv.2.2.1 zv.2.2.2.1) (fun zo zv => (fun (k0 : Int) (i0 : Int) (K0 : (List (Row UInt8))) (A0 : (List (Nat × List UInt8))) (k : Int) (i : Int) (K : (List (Row UInt8))) (A : (List (Nat × List UInt8))) => (many - k).toNat) zo.1 zo.2.1 zo.2.2.1 zo.2.2.2.1 zv.1 zv.2.1 zv.2.2.1 zv.2.2.2.1)) else none), some 79⟩])) x.1 x.2.1 x.2.2.1
theorem l_35_ok : ∀ x, ILs Try.prog tD (l_35 x) := fun _ => ⟨⟨F53_ok, F53_call⟩, ⟨F74_ok, F74_call⟩, ⟨F47_ok, F47_call⟩, trivial⟩
theorem k_35_ok : k_35.Ok Try.prog tD := con_ok tD_ok (Δ := [k_56, k_79, k_32]) ⟨k_56_ok, k_79_ok, k_32_ok, trivial⟩ (Ω := []) trivial k_35 F35_ok F35_call (l_35) (l_35_ok) 3 (fun x => (fun (many : Int) (more : Int) (at_ : (List Int)) => (fun k => bif Nat.beq k 0 then some (.inv [.sl 31 .cInt, .ow 12 .lU8] (fun zo zv => (fun (i : Int) (out : (List (List UInt8))) => i_35_0 many more at_ i out) zv.1 zv.2.1) (fun zo zv => (fun (i : Int) (out : (List (List UInt8))) => ((at_.length : Int) - i).toNat) zv.1 zv.2.1)) else bif Nat.beq k 1026 then some (.frz [7, 5000]) else none)) x.1 x.2.1 x.2.2.1) fun x hp => Eq.mp (by kernel_rfl) (k_35_v x.1 x.2.1 x.2.2.1 hp)
def i_12_0 (many : Int) (more : Int) (at_ : (List Int)) (pieces : (List ByteArray)) (i : Int) : Prop := (at_.length : Int) = pieces.length ∧ (at_.length : Int) = many ∧ (1 ≤ many ∧ many ≤ 8 ∧ 1 ≤ more ∧ more ≤ 6) ∧ AtI (many + more) at_ i
def k_12 : Con Tc Tc.dn := ⟨12, [.ty .cInt, .ty .cInt, .ty .lInt, .ty .lStr], fun x => (fun (many : Int) (more : Int) (at_ : (List Int)) (pieces : (List ByteArray)) => True) x.1 x.2.1 x.2.2.1 x.2.2.2.1, [.lStr, .cInt], fun x => (fun (many : Int) (more : Int) (at_ : (List Int)) (pieces : (List ByteArray)) => rebL many more at_ pieces) x.1 x.2.1 x.2.2.1 x.2.2.2.1⟩
theorem k_12_v (many : Int) (more : Int) (at_ : (List Int)) (pieces : (List ByteArray)) : True ∧ (decide ((1 : Int) ≤ many ∧ many ≤ (8 : Int)) = !!true → True) ∧ (decide ((1 : Int) ≤ many ∧ many ≤ (8 : Int)) = !true ∧ decide ((1 : Int) ≤ many ∧ many ≤ (8 : Int)) = !true ∨ decide ((1 : Int) ≤ many ∧ many ≤ (8 : Int)) = !!true ∧ decide ((1 : Int) ≤ more ∧ more ≤ (6 : Int)) = !true → ([], (3 : Int)) = rebL many more at_ pieces) ∧ ((decide ((1 : Int) ≤ many ∧ many ≤ (8 : Int)) = !false ∨ decide ((1 : Int) ≤ many ∧ many ≤ (8 : Int)) = !false) ∧ (decide ((1 : Int) ≤ many ∧ many ≤ (8 : Int)) = !!false ∨ decide ((1 : Int) ≤ more ∧ more ≤ (6 : Int)) = !false) → (¬(↑at_.length : Int) = (↑pieces.length : Int) → ([], (1 : Int)) = rebL many more at_ pieces) ∧ ((↑at_.length : Int) = (↑pieces.length : Int) → ((↑at_.length : Int) < many → ([], (8 : Int)) = rebL many more at_ pieces) ∧ (many ≤ (↑at_.length : Int) → (many < (↑at_.length : Int) → ([], (2 : Int)) = rebL many more at_ pieces) ∧ ((↑at_.length : Int) ≤ many → i_12_0 many more at_ pieces (0 : Int) ∧ ∀ (x : Int), i_12_0 many more at_ pieces x → (x < (↑at_.length : Int) → ((0 : Int) ≤ x ∧ x < (↑at_.length : Int)) ∧ ((0 : Int) ≤ gd (0 : Int) at_ x.toNat → (0 : Int) ≤ gd (0 : Int) at_ x.toNat) ∧ ((0 : Int) ≤ gd (0 : Int) at_ x.toNat → (0 : Int) ≤ gd (0 : Int) at_ x.toNat) ∧ ((0 : Int) ≤ gd (0 : Int) at_ x.toNat → I64 (many + more)) ∧ ((0 : Int) ≤ gd (0 : Int) at_ x.toNat → (0 : Int) ≤ gd (0 : Int) at_ x.toNat) ∧ ((0 : Int) ≤ gd (0 : Int) at_ x.toNat → (0 : Int) ≤ gd (0 : Int) at_ x.toNat) ∧ ((0 : Int) ≤ gd (0 : Int) at_ x.toNat → (0 : Int) ≤ gd (0 : Int) at_ x.toNat) ∧ (gd (0 : Int) at_ x.toNat < (0 : Int) ∨ many + more ≤ gd (0 : Int) at_ x.toNat → ([], (3 : Int)) = rebL many more at_ pieces) ∧ ((0 : Int) ≤ gd (0 : Int) at_ x.toNat ∧ gd (0 : Int) at_ x.toNat < many + more → ((0 : Int) ≤ x ∧ x ≤ (↑at_.length : Int)) ∧ (List.take x.toNat at_).length ≤ (1000000 : Nat) ∧ (decide (gd (0 : Int) at_ x.toNat ∈ List.take x.toNat at_) = true → ([], (6 : Int)) = rebL many more at_ pieces) ∧ (decide (gd (0 : Int) at_ x.toNat ∈ List.take x.toNat at_) = false → I64 (x + (1 : Int)) ∧ i_12_0 many more at_ pieces (x + (1 : Int)) ∧ ((↑at_.length : Int) - (x + (1 : Int))).toNat < ((↑at_.length : Int) - x).toNat))) ∧ ((↑at_.length : Int) ≤ x → pieces.length ≤ (1000000 : Nat) ∧ (¬alkE pieces = (0 : Int) → ([], alkE pieces) = rebL many more at_ pieces) ∧ (alkE pieces = (0 : Int) → ((1 : Int) ≤ many ∧ many ≤ (8 : Int) ∧ (1 : Int) ≤ more ∧ more ≤ (6 : Int) ∧ at_.length ≤ (100 : Nat) ∧ ∀ (i : Int), i ∈ at_ → (0 : Int) ≤ i ∧ i < many + more) ∧ True ∧ (¬(invL (rowsF many more at_)).snd = (0 : Int) → ([], (invL (rowsF many more at_)).snd) = rebL many more at_ pieces) ∧ ((invL (rowsF many more at_)).snd = (0 : Int) → MxP (invL (rowsF many more at_)).fst pieces ∧ (mixS (invL (rowsF many more at_)).fst pieces, (0 : Int)) = rebL many more at_ pieces))))))) := by
  have a1 := @AtI.start (many + more) at_
  have a2 := @AtI.out (many + more) at_
  have a3 := @AtI.twice (many + more) at_
  have a4 := @AtI.step (many + more) at_
  have a5 := @AtI.fin (many + more) at_
  have a6 := @AtI.lo (many + more) at_
  have b1 := @atE_rng (many + more) at_
  have b2 := @reb_mx many more at_ pieces
  unfold rebL
  simp only [Bool.not_false, Bool.not_true, decide_eq_true_eq, decide_eq_false_iff_not]
  (repeat' (first | apply And.intro | intro _)) <;> first | assumption | trivial | omega | (focus ((repeat (first | rw [if_pos (by omega)] | rw [if_neg (by omega)])); done)) | (grind [i_12_0, I64]) | trace_state
theorem k_12_ok : k_12.Ok Try.prog tD := con_ok tD_ok (Δ := [k_30, k_34, k_31, k_35, k_24, k_33]) ⟨k_30_ok, k_34_ok, k_31_ok, k_35_ok, k_24_ok, k_33_ok, trivial⟩ (Ω := []) trivial k_12 F12_ok F12_call (fun _ => []) (fun _ => trivial) 0 (fun x => (fun (many : Int) (more : Int) (at_ : (List Int)) (pieces : (List ByteArray)) => (fun k => bif Nat.beq k 0 then some (.inv [.sl 40 .cInt] (fun zo zv => (fun (i : Int) => i_12_0 many more at_ pieces i) zv.1) (fun zo zv => (fun (i : Int) => ((at_.length : Int) - i).toNat) zv.1)) else none)) x.1 x.2.1 x.2.2.1 x.2.2.2.1) fun x hp => Eq.mp (by kernel_rfl) (k_12_v x.1 x.2.1 x.2.2.1 x.2.2.2.1)
open Go.RowKit
theorem gd_app {α : Type} {d : α} {l : List α} {x : α} {j : Nat} : gd d (l ++ [x]) j = if j = l.length then x else gd d l j := by
  unfold gd
  rcases Nat.lt_trichotomy j l.length with h | h | h
  · rw [List.getElem?_append_left h, if_neg (by omega)]
  · subst h; rw [if_pos rfl, List.getElem?_concat_length]; rfl
  · rw [if_neg (by omega), List.getElem?_eq_none (by simp; omega), List.getElem?_eq_none (by omega)]
open Go.RowKit
theorem gd_iff {α : Type} {d : α} {a b : List α} (h : a.length = b.length) (k : ∀ i, i < a.length → gd d a i = gd d b i) : a = b := by
  refine List.ext_getElem h fun i h1 h2 => ?_
  have := k i h1
  unfold gd at this
  rw [List.getElem?_eq_getElem h1, List.getElem?_eq_getElem h2] at this
  simpa using this
structure StI (K : RwL) (A : ArL) (L : List (List UInt8)) : Prop where
  len : K.length = L.length
  row : ∀ j, j < L.length → (gd (Row.no UInt8) K j).mine A ∧ lkA A (gd (Row.no UInt8) K j).id = gd [] L j
theorem StI.nil {A : ArL} : StI [] A [] := ⟨rfl, fun j hj => by simp at hj⟩
theorem StI.snoc {K : RwL} {A : ArL} {L : List (List UInt8)} {id : Nat} {r : List UInt8} (h : StI K A L) (hid : ¬ hasA A id) : StI (K ++ [Row.at UInt8 id r.length]) ((id, r) :: A) (L ++ [r]) := by
  refine ⟨by simp [h.len], fun j hj => ?_⟩
  rw [gd_app, gd_app]
  simp only [List.length_append, List.length_singleton] at hj
  by_cases e : j = K.length
  · rw [if_pos e, if_pos (by rw [e, h.len])]
    exact ⟨at_mine rfl, by rw [Row.at_id, lkA_cons, if_pos rfl]⟩
  · rw [if_neg e, if_neg (by rw [← h.len]; exact e)]
    obtain ⟨q1, q2⟩ := h.row j (by have := h.len; omega)
    have hne : (gd (Row.no UInt8) K j).id ≠ id := fun e => hid (e ▸ q1.2.1)
    exact ⟨⟨q1.1, hasA_cons.2 (.inr q1.2.1), by rw [lkA_cons, if_neg hne]; exact q1.2.2⟩, by rw [lkA_cons, if_neg hne]; exact q2⟩
theorem StI.fin {K : RwL} {A : ArL} {L : List (List UInt8)} (h : StI K A L) : (∀ x : Row UInt8, x ∈ K → x.ok A ∧ x.kd ≠ RK.nil) ∧ List.map (fun x => x.get A) K = L := by
  have hl := h.len
  refine ⟨gd_all (d := Row.no UInt8) fun j hj => ⟨Row.mine.ok (h.row j (by omega)).1, by rw [(h.row j (by omega)).1.1]; intro e; cases e⟩, ?_⟩
  refine gd_iff (d := []) (by simp [hl]) fun j hj => ?_
  simp only [List.length_map] at hj
  obtain ⟨p1, p2⟩ := h.row j (by omega)
  have e1 : gd (Row.no UInt8) K j = K[j] := by unfold gd; rw [List.getElem?_eq_getElem hj]; rfl
  rw [e1] at p1 p2
  rw [← p2, ← (Row.mine.get p1).1]
  unfold gd
  rw [List.getElem?_map, List.getElem?_eq_getElem hj]; rfl
structure UpI {α : Type} (n : Int) (f : Nat → α) (i : Int) (L : List α) : Prop where
  lo : 0 ≤ i
  hi : i ≤ n
  eq : L = (List.range i.toNat).map f
theorem UpI.start {α : Type} {n : Int} {f : Nat → α} (h : 0 ≤ n) : UpI n f 0 [] := ⟨by omega, h, rfl⟩
theorem UpI.step {α : Type} {n : Int} {f : Nat → α} {i : Int} {L : List α} (h : UpI n f i L) (hi : i < n) : UpI n f (i + 1) (L ++ [f i.toNat]) := ⟨by have := h.lo; omega, by omega, by
  have := h.lo
  rw [show (i + 1).toNat = i.toNat + 1 by omega, List.range_succ, List.map_append, ← h.eq]; rfl⟩
theorem UpI.len {α : Type} {n : Int} {f : Nat → α} {i : Int} {L : List α} (h : UpI n f i L) : (L.length : Int) = i := by rw [h.eq]; have := h.lo; simp; omega
theorem UpI.fin {α : Type} {n : Int} {f : Nat → α} {i : Int} {L : List α} (h : UpI n f i L) (hi : n ≤ i) : L = (List.range n.toNat).map f := by rw [h.eq, show i = n by have := h.hi; omega]
structure RwI (m n : Int) (f : Nat → Nat → UInt8) (i : Int) (K : RwL) (A : ArL) : Prop where
  lo : 0 ≤ i
  hi : i ≤ m
  few : m ≤ 64 ∧ n ≤ 64
  st : StI K A ((List.range i.toNat).map fun j => (List.range n.toNat).map (f j))
theorem RwI.start {m n : Int} {f : Nat → Nat → UInt8} {A : ArL} (h : 0 ≤ m) (hm : m ≤ 64) (hn : n ≤ 64) : RwI m n f 0 [] A := ⟨by omega, h, ⟨hm, hn⟩, StI.nil⟩
theorem RwI.len {m n : Int} {f : Nat → Nat → UInt8} {i : Int} {K : RwL} {A : ArL} (h : RwI m n f i K A) : (K.length : Int) = i := by rw [h.st.len]; have := h.lo; simp; omega
theorem RwI.step {m n k : Int} {f : Nat → Nat → UInt8} {i : Int} {K : RwL} {A : ArL} {id : Nat} {r : List UInt8} (h : RwI m n f i K A) (hi : i < m) (hid : ¬ hasA A id) (hr : UpI n (f i.toNat) k r) (hk : n ≤ k) : RwI m n f (i + 1) (K ++ [Row.at UInt8 id r.length]) ((id, r) :: A) := ⟨by have := h.lo; omega, by omega, h.few, by
  have := h.lo
  rw [show (i + 1).toNat = i.toNat + 1 by omega, List.range_succ, List.map_append]
  have := h.st.snoc hid (r := r)
  rw [hr.fin hk] at this ⊢
  exact this⟩
theorem RwI.fin {m n : Int} {f : Nat → Nat → UInt8} {i : Int} {K : RwL} {A : ArL} (h : RwI m n f i K A) (hi : m ≤ i) : (∀ x : Row UInt8, x ∈ K → x.ok A ∧ x.kd ≠ RK.nil) ∧ List.map (fun x => x.get A) K = fillL m n f := by
  have := h.st.fin
  rw [show i = m by have := h.hi; omega] at this
  exact this
-- no VC: supercargoref.SameBytes
-- no VC: supercargoref.SameMatrix
open Go.RowKit
def verL (all : List BA) (more : Int) : Bool × Int :=
  if ¬ (1 ≤ more ∧ more ≤ 6) then (false, 3) else if (all.length : Int) ≤ more then (false, 8) else if ¬ (encL (all.take ((all.length : Int) - more).toNat) more).2 = 0 then (false, (encL (all.take ((all.length : Int) - more).toNat) more).2) else if (all.drop ((all.length : Int) - more).toNat).any (pWd all) = true then (false, 1) else (decide ((encL (all.take ((all.length : Int) - more).toNat) more).1 = all.drop ((all.length : Int) - more).toNat), 0)
theorem enc_len {data : List BA} {more : Int} : (encL data more).1.length ≤ 1000000 := by
  unfold encL
  split; simp
  split; simp
  split; simp
  split; simp
  rename_i h1 h2 h3 h4
  rw [cau_ok (by omega) (by omega) (by omega) (by omega)]
  unfold mixS fillL; simp; omega
def chgT (i : Int) (old now : BA) (row : List UInt8) (s : BA) : BA := txt s.size fun j => gb s j ^^^ gmul (gd 0 row i.toNat) (gb old j ^^^ gb now j)
def chgF (i : Int) (old now : BA) (many : Int) (rest : List BA) (r : Nat) : BA := chgT i old now (gd [] (cauL rest.length many).1 r) (gd ByteArray.empty rest r)
def chgL (i : Int) (old now : BA) (many : Int) (rest : List BA) : List BA × Int :=
  if ¬ (1 ≤ many ∧ many ≤ 8) ∨ i < 0 ∨ many ≤ i then ([], 3) else if (rest.length : Int) = 0 then ([], 8) else if 6 < (rest.length : Int) then ([], 2) else if ¬ alkE ([old, now] ++ rest) = 0 then ([], alkE ([old, now] ++ rest)) else ((List.range (rest.length : Int).toNat).map (chgF i old now many rest), 0)
structure ChI (old now : BA) (many i : Int) (rest : List BA) : Prop where
  m : 1 ≤ many ∧ many ≤ 8
  i0 : 0 ≤ i ∧ i < many
  r : 1 ≤ (rest.length : Int) ∧ (rest.length : Int) ≤ 6
  k : alkE ([old, now] ++ rest) = 0
theorem ChI.mk' {old now : BA} {many i : Int} {rest : List BA} (h1 : 1 ≤ many) (h2 : many ≤ 8) (h3 : 0 ≤ i) (h4 : i < many) (h5 : ¬ (rest.length : Int) = 0) (h6 : (rest.length : Int) ≤ 6) (h7 : alkE ([old, now] ++ rest) = 0) : ChI old now many i rest := ⟨⟨h1, h2⟩, ⟨h3, h4⟩, ⟨by omega, h6⟩, h7⟩
theorem ChI.wid {old now : BA} {many i : Int} {rest : List BA} (h : ChI old now many i rest) : old.size ≤ 64 ∧ now.size = old.size ∧ ∀ r : Nat, r < rest.length → (gd ByteArray.empty rest r).size = old.size := by
  obtain ⟨a1, a2⟩ := alk_ok h.k
  have e0 : gd ByteArray.empty ([old, now] ++ rest) 0 = old := rfl
  rw [e0] at a2
  exact ⟨a1 old (by simp), a2 now (by simp), fun r hr => a2 _ (List.mem_append_right _ (gd_mem hr))⟩
theorem ChI.row {old now : BA} {many i : Int} {rest : List BA} (h : ChI old now many i rest) : (cauL rest.length many).1.length = rest.length ∧ ∀ r : Nat, r < rest.length → (gd [] (cauL rest.length many).1 r).length = many.toNat := by
  have h1 := h.m; have h2 := h.r
  rw [cau_ok (by omega) (by omega) (by omega) (by omega)]
  have e : (fillL rest.length many (fC rest.length)).length = rest.length := by unfold fillL; simp
  exact ⟨e, fun r hr => fill_w _ (gd_mem (by rw [e]; exact hr))⟩
structure ChJ (i : Int) (old now : BA) (row : List UInt8) (s : BA) (j : Int) (b : List UInt8) : Prop where
  lo : 0 ≤ j
  hi : j ≤ s.size
  len : b.length = s.size
  got : ∀ t, t < s.size → gd 0 b t = if t < j.toNat then gb s t ^^^ gmul (gd 0 row i.toNat) (gb old t ^^^ gb now t) else gb s t
theorem bytes_gd (s : BA) (t : Nat) : gd 0 (List.map id s.data.toList) t = gb s t := by
  rw [List.map_id, ← gb_list]
theorem ChJ.start {i : Int} {old now s : BA} {row : List UInt8} : ChJ i old now row s 0 (List.map id s.data.toList) := ⟨by omega, by omega, by rw [List.length_map]; rfl, fun t ht => by rw [if_neg (by simp)]; exact bytes_gd s t⟩
theorem ChJ.step {i j : Int} {old now s : BA} {row b : List UInt8} (h : ChJ i old now row s j b) (hj : j < s.size) : ChJ i old now row s (j + 1) (b.set j.toNat (gd 0 b j.toNat ^^^ gmul (gd 0 row i.toNat) (gb old j.toNat ^^^ gb now j.toNat))) := by
  have h0 := h.lo; have hl := h.len
  refine ⟨by omega, by omega, by rw [List.length_set]; exact hl, fun t ht => ?_⟩
  rw [gd_set2 (by omega)]
  by_cases e : j.toNat = t
  · rw [if_pos e, if_pos (by omega), h.got _ (by omega), if_neg (by omega), e]
  · rw [if_neg e, h.got t ht]
    by_cases e2 : t < j.toNat
    · rw [if_pos e2, if_pos (by omega)]
    · rw [if_neg e2, if_neg (by omega)]
theorem ChJ.fin {i j : Int} {old now s : BA} {row b : List UInt8} (h : ChJ i old now row s j b) (hj : s.size ≤ j) : (⟨(List.map id b).toArray⟩ : BA) = chgT i old now row s := by
  rw [List.map_id]
  unfold chgT
  refine list_txt h.len fun t ht => ?_
  rw [h.got t ht, if_pos (by omega)]
structure AnI (l : List BA) (i : Int) : Prop where
  lo : 0 ≤ i
  hi : i ≤ l.length
  eq : ∀ j, j < i.toNat → pLg (gd ByteArray.empty l j) = false
theorem AnI.start {l : List BA} : AnI l 0 := ⟨by omega, by omega, fun j hj => by simp at hj⟩
theorem AnI.step {l : List BA} {i : Int} (h : AnI l i) (hi : i < l.length) (he : ((gd ByteArray.empty l i.toNat).size : Int) ≤ 64) : AnI l (i + 1) := by
  have h0 := h.lo
  refine ⟨by omega, by omega, fun j hj => ?_⟩
  by_cases e : j < i.toNat
  · exact h.eq j e
  · rw [show j = i.toNat by omega]; unfold pLg; simp; omega
theorem AnI.bad {l : List BA} {i : Int} (h : AnI l i) (hi : i < l.length) (he : 64 < ((gd ByteArray.empty l i.toNat).size : Int)) : (2 : Int) = alkE l := by
  have h0 := h.lo
  refine alk_long (List.any_eq_true.2 ⟨_, gd_mem (d := ByteArray.empty) (xs := l) (i := i.toNat) (by omega), ?_⟩)
  unfold pLg; simpa using he
theorem AnI.fin {l : List BA} {i : Int} (h : AnI l i) (hi : l.length ≤ i) : AlI l 0 := by
  refine AlI.start fun hh => ?_
  obtain ⟨x, hx, hp⟩ := List.any_eq_true.1 hh
  obtain ⟨j, hj, rfl⟩ := List.getElem_of_mem hx
  have := h.eq j (by omega)
  rw [show gd ByteArray.empty l j = l[j] by unfold gd; rw [List.getElem?_eq_getElem hj]; rfl, hp] at this
  simp at this
def mixG (row : List UInt8) (pieces : List BA) (j : Nat) : UInt8 := sg pieces.length fun k => gmul (gd 0 row k) (gb (gd ByteArray.empty pieces k) j)
def mixP (row : List UInt8) (pieces : List BA) (j k : Int) : UInt8 := sg k.toNat fun k => gmul (gd 0 row k) (gb (gd ByteArray.empty pieces k) j.toNat)
theorem mixP_zero {row : List UInt8} {pieces : List BA} {j : Int} : mixP row pieces j 0 = UInt8.ofNat (Int.toNat 0) := rfl
theorem mixP_step {row : List UInt8} {pieces : List BA} {j k : Int} (h : 0 ≤ k) : mixP row pieces j k ^^^ gmul (gd 0 row k.toNat) (gb (gd ByteArray.empty pieces k.toNat) j.toNat) = mixP row pieces j (k + 1) := by
  unfold mixP; rw [show (k + 1).toNat = k.toNat + 1 by omega]; rfl
theorem mixP_fin {row : List UInt8} {pieces : List BA} {j k : Int} (h : k = (pieces.length : Int)) : mixP row pieces j k = mixG row pieces j.toNat := by subst h; rfl
theorem MxP.one {row : List UInt8} {pieces : List BA} (h : MxP [row] pieces) : pieces.length ≤ row.length := h.w row (by simp)
theorem mix_fin {row : List UInt8} {pieces : List BA} {j : Int} {out : List UInt8} (h : UpI ((gd ByteArray.empty pieces (Int.toNat 0)).size : Int) (mixG row pieces) j out) (hj : ((gd ByteArray.empty pieces (Int.toNat 0)).size : Int) ≤ j) : (⟨(List.map id out).toArray⟩ : BA) = mixT row pieces := by
  rw [h.fin hj, List.map_id, Int.toNat_natCast]; rfl
theorem mixS_range {X : List (List UInt8)} {p : List BA} {n : Nat} (h : X.length = n) : (List.range n).map (fun i => mixT (gd [] X i) p) = mixS X p := by
  unfold mixS
  refine List.ext_getElem (by simp [h]) fun i h1 h2 => ?_
  simp at h1
  rw [List.getElem_map, List.getElem_map, List.getElem_range]
  unfold gd; rw [List.getElem?_eq_getElem (by omega)]; rfl
theorem MxP.sub {X : List (List UInt8)} {p : List BA} (h : MxP X p) {i : Nat} (hi : i < X.length) : MxP [gd [] X i] p := ⟨h.p0, h.p1, by simp, fun r hr => by rw [List.mem_singleton.1 hr]; exact h.w _ (gd_mem hi), h.s, h.s0⟩
def encG (data : List BA) (more : Int) (i : Nat) : BA := mixT (gd [] (cauL more data.length).1 i) data
theorem encG_len {data : List BA} {more : Int} (h1 : 1 ≤ more) (h2 : more ≤ 6) (h3 : ¬ (data.length : Int) = 0) (h4 : (data.length : Int) ≤ 8) : ((cauL more data.length).1.length : Int) = more := by
  rw [cau_ok h1 (by omega) (by omega) (by omega)]; unfold fillL; simp; omega
theorem encG_fin {data : List BA} {more i : Int} {out : List BA} (h1 : 1 ≤ more) (h2 : more ≤ 6) (h3 : ¬ (data.length : Int) = 0) (h4 : (data.length : Int) ≤ 8) (h : UpI more (encG data more) i out) (hi : more ≤ i) (hk : alkE data = 0) : (out, (0 : Int)) = encL data more := by
  have hl := encG_len h1 h2 h3 h4
  unfold encL
  rw [if_neg h3, if_neg (by omega), if_neg (by omega), if_neg (by omega), h.fin hi, ← mixS_range (n := more.toNat) (by omega)]
  rfl
theorem allF_lo {many more i : Int} (h1 : 0 ≤ i) (h2 : i < many) : gd [] (fillL many many fU) i.toNat = gd [] (allF many more) i.toNat := by
  unfold allF gd
  rw [List.getElem?_append_left (by unfold fillL; simp; omega)]
theorem allF_hi {many more i : Int} (h1 : many ≤ i) (h0 : 0 ≤ many) : gd [] (fillL more many (fC more)) (i - many).toNat = gd [] (allF many more) i.toNat := by
  unfold allF gd
  have e : (fillL many many fU).length = many.toNat := by unfold fillL; simp
  rw [List.getElem?_append_right (by omega), e, show i.toNat - many.toNat = (i - many).toNat by omega]
theorem fill_n {m n : Int} {f : Nat → Nat → UInt8} : (fillL m n f).length = m.toNat := by unfold fillL; simp
structure NoI (at_ : List Int) (i k : Int) : Prop where
  lo : 0 ≤ k
  hi : k ≤ i
  eq : ∀ j, j < k.toNat → ¬ gd 0 at_ j = gd 0 at_ i.toNat
theorem NoI.start {at_ : List Int} {i : Int} (h : 0 ≤ i) : NoI at_ i 0 := ⟨by omega, h, fun j hj => by simp at hj⟩
theorem NoI.step {at_ : List Int} {i k : Int} (h : NoI at_ i k) (hk : k < i) (he : ¬ gd 0 at_ k.toNat = gd 0 at_ i.toNat) : NoI at_ i (k + 1) := by
  have h0 := h.lo
  refine ⟨by omega, by omega, fun j hj => ?_⟩
  by_cases e : j < k.toNat
  · exact h.eq j e
  · rw [show j = k.toNat by omega]; exact he
theorem NoI.bad {at_ : List Int} {i k : Int} (h : NoI at_ i k) (hk : k < i) (hi : i < at_.length) (he : gd 0 at_ k.toNat = gd 0 at_ i.toNat) : gd 0 at_ i.toNat ∈ at_.take i.toNat := by
  have h0 := h.lo
  rw [← he, List.mem_take_iff_getElem]
  exact ⟨k.toNat, by omega, by unfold gd; rw [List.getElem?_eq_getElem (by omega)]; rfl⟩
theorem NoI.fin {at_ : List Int} {i k : Int} (h : NoI at_ i k) (hk : i ≤ k) (hi : i < at_.length) : ¬ gd 0 at_ i.toNat ∈ at_.take i.toNat := by
  intro hh
  obtain ⟨j, hj, he⟩ := List.mem_take_iff_getElem.1 hh
  refine h.eq j (by omega) ?_
  rw [← he]; unfold gd; rw [List.getElem?_eq_getElem (by omega)]; rfl
def rebG (X : List (List UInt8)) (pieces : List BA) (i : Nat) : BA := mixT (gd [] X i) pieces
theorem rebG_fin {X : List (List UInt8)} {pieces : List BA} {n i : Int} {out : List BA} (h : UpI n (rebG X pieces) i out) (hi : n ≤ i) (hX : (X.length : Int) = n) : out = mixS X pieces := by
  rw [h.fin hi, ← mixS_range (n := n.toNat) (by omega)]; rfl
def k_17 : Con Tc Tc.dn := ⟨17, [.ty .lStr, .ty .cInt], fun x => (fun (all : (List ByteArray)) (more : Int) => all.length ≤ 9223372036854775807) x.1 x.2.1, [.cBool, .cInt], fun x => (fun (all : (List ByteArray)) (more : Int) => verL all more) x.1 x.2.1⟩
abbrev z17_0 (all : (List ByteArray)) (more : Int) := (encL (List.take ((↑all.length : Int) - more).toNat all) more)
theorem k_17_v (all : (List ByteArray)) (more : Int) (hp : all.length ≤ 9223372036854775807) : True ∧ (decide ((1 : Int) ≤ more ∧ more ≤ (6 : Int)) = !true → (false, (3 : Int)) = verL all more) ∧ (decide ((1 : Int) ≤ more ∧ more ≤ (6 : Int)) = !false → ((↑all.length : Int) ≤ more → (false, (8 : Int)) = verL all more) ∧ (more < (↑all.length : Int) → I64 ((↑all.length : Int) - more) ∧ ((0 : Int) ≤ (↑all.length : Int) - more ∧ (↑all.length : Int) - more ≤ (↑all.length : Int)) ∧ True ∧ ((z17_0 all more).snd = (0 : Int) → (z17_0 all more).snd = (0 : Int)) ∧ ((z17_0 all more).snd = (0 : Int) → (z17_0 all more).snd = (0 : Int)) ∧ ((z17_0 all more).snd = (0 : Int) → (0 : Int) ≤ (↑all.length : Int) - more ∧ (↑all.length : Int) - more ≤ (↑all.length : Int)) ∧ ((z17_0 all more).snd = (0 : Int) → (z17_0 all more).snd = (0 : Int)) ∧ ((z17_0 all more).snd = (0 : Int) → (z17_0 all more).snd = (0 : Int)) ∧ ((z17_0 all more).snd = (0 : Int) → (List.drop ((↑all.length : Int) - more).toNat all).length ≤ (1000000 : Nat) ∧ (0 : Nat) < all.length) ∧ ((z17_0 all more).snd = (0 : Int) → (z17_0 all more).snd = (0 : Int)) ∧ ((z17_0 all more).snd = (0 : Int) ∧ (List.drop ((↑all.length : Int) - more).toNat all).any (pWd all) = true → (false, (1 : Int)) = verL all more) ∧ (¬(z17_0 all more).snd = (0 : Int) ∨ (List.drop ((↑all.length : Int) - more).toNat all).any (pWd all) = false → ((z17_0 all more).snd = (0 : Int) → (z17_0 all more).snd = (0 : Int)) ∧ ((z17_0 all more).snd = (0 : Int) → (z17_0 all more).snd = (0 : Int)) ∧ ((z17_0 all more).snd = (0 : Int) → (0 : Int) ≤ (↑all.length : Int) - more ∧ (↑all.length : Int) - more ≤ (↑all.length : Int)) ∧ ((z17_0 all more).snd = (0 : Int) → (z17_0 all more).snd = (0 : Int)) ∧ ((z17_0 all more).snd = (0 : Int) → (z17_0 all more).snd = (0 : Int)) ∧ ((z17_0 all more).snd = (0 : Int) → (z17_0 all more).fst.length ≤ (1000000 : Nat)) ∧ ((z17_0 all more).snd = (0 : Int) → (z17_0 all more).snd = (0 : Int)) ∧ ((z17_0 all more).snd == (0 : Int) && decide ((z17_0 all more).fst = List.drop ((↑all.length : Int) - more).toNat all), (z17_0 all more).snd) = verL all more))) := by
  delta z17_0
  have h1 := @enc_len (all.take ((all.length : Int) - more).toNat) more
  unfold verL
  simp only [Bool.not_false, Bool.not_true, decide_eq_true_eq, decide_eq_false_iff_not]
  (repeat' (first | apply And.intro | intro _)) <;> first | assumption | trivial | omega | (focus ((repeat (first | rw [if_pos (by omega)] | rw [if_neg (by omega)])); done)) | (grind [I64]) | trace_state
theorem k_17_ok : k_17.Ok Try.prog tD := con_ok tD_ok (Δ := [k_30, k_11, k_41_v, k_43]) ⟨k_30_ok, k_11_ok, k_41_v_ok, k_43_ok, trivial⟩ (Ω := []) trivial k_17 F17_ok F17_call (fun _ => []) (fun _ => trivial) 0 (fun x => (fun (all : (List ByteArray)) (more : Int) => (fun _ => none)) x.1 x.2.1) fun x hp => Eq.mp (by kernel_rfl) (k_17_v x.1 x.2.1 hp)
def i_18_1 (i : Int) (old : ByteArray) (now : ByteArray) (many : Int) (rest : (List ByteArray)) (j0 : Int) (r0 : Int) (b0 : (List UInt8)) (j : Int) (r : Int) (b : (List UInt8)) : Prop := r = r0 ∧ ChJ i old now (gd [] (cauL rest.length many).1 r.toNat) (gd ByteArray.empty rest r.toNat) j b
def i_18_0 (i : Int) (old : ByteArray) (now : ByteArray) (many : Int) (rest : (List ByteArray)) (r : Int) (out : (List ByteArray)) : Prop := ChI old now many i rest ∧ UpI (rest.length : Int) (chgF i old now many rest) r out
def k_18 : Con Tc Tc.dn := ⟨18, [.ty .cInt, .ty .cStr, .ty .cStr, .ty .cInt, .ty .lStr], fun x => (fun (i : Int) (old : ByteArray) (now : ByteArray) (many : Int) (rest : (List ByteArray)) => True) x.1 x.2.1 x.2.2.1 x.2.2.2.1 x.2.2.2.2.1, [.lStr, .cInt], fun x => (fun (i : Int) (old : ByteArray) (now : ByteArray) (many : Int) (rest : (List ByteArray)) => chgL i old now many rest) x.1 x.2.1 x.2.2.1 x.2.2.2.1 x.2.2.2.2.1⟩
theorem k_18_v (i : Int) (old : ByteArray) (now : ByteArray) (many : Int) (rest : (List ByteArray)) : True ∧ (decide ((1 : Int) ≤ many ∧ many ≤ (8 : Int)) = !!true → (0 : Int) ≤ i → (0 : Int) ≤ i) ∧ (decide ((1 : Int) ≤ many ∧ many ≤ (8 : Int)) = !!true → (0 : Int) ≤ i → (0 : Int) ≤ i) ∧ (decide ((1 : Int) ≤ many ∧ many ≤ (8 : Int)) = !!true → (0 : Int) ≤ i → (0 : Int) ≤ i) ∧ (decide ((1 : Int) ≤ many ∧ many ≤ (8 : Int)) = !true ∧ decide ((1 : Int) ≤ many ∧ many ≤ (8 : Int)) = !true ∨ decide ((1 : Int) ≤ many ∧ many ≤ (8 : Int)) = !!true ∧ (i < (0 : Int) ∨ many ≤ i) → ([], (3 : Int)) = chgL i old now many rest) ∧ ((decide ((1 : Int) ≤ many ∧ many ≤ (8 : Int)) = !false ∨ decide ((1 : Int) ≤ many ∧ many ≤ (8 : Int)) = !false) ∧ (decide ((1 : Int) ≤ many ∧ many ≤ (8 : Int)) = !!false ∨ (0 : Int) ≤ i ∧ i < many) → ((↑rest.length : Int) = (0 : Int) → ([], (8 : Int)) = chgL i old now many rest) ∧ (¬(↑rest.length : Int) = (0 : Int) → ((6 : Int) < (↑rest.length : Int) → ([], (2 : Int)) = chgL i old now many rest) ∧ ((↑rest.length : Int) ≤ (6 : Int) → ((2 : Nat) + rest.length) * (16 : Nat) ≤ (140737488355328 : Nat) ∧ ([old, now] ++ rest).length ≤ (1000000 : Nat) ∧ (¬alkE ([old, now] ++ rest) = (0 : Int) → ([], alkE ([old, now] ++ rest)) = chgL i old now many rest) ∧ (alkE ([old, now] ++ rest) = (0 : Int) → True ∧ i_18_0 i old now many rest (0 : Int) [] ∧ ∀ (x : Int) (x_1 : List ByteArray), i_18_0 i old now many rest x x_1 → (x < (↑rest.length : Int) → ((0 : Int) ≤ x ∧ x < (↑rest.length : Int)) ∧ (gd ByteArray.empty rest x.toNat).size ≤ (140737488355328 : Nat) ∧ i_18_1 i old now many rest (0 : Int) x (List.map id (gd ByteArray.empty rest x.toNat).data.toList) (0 : Int) x (List.map id (gd ByteArray.empty rest x.toNat).data.toList) ∧ ∀ (x_2 x_3 : Int) (x_4 : List UInt8), i_18_1 i old now many rest (0 : Int) x (List.map id (gd ByteArray.empty rest x.toNat).data.toList) x_2 x_3 x_4 → (x_2 < (↑(List.map id (gd ByteArray.empty rest x.toNat).data.toList).length : Int) → ((0 : Int) ≤ x_2 ∧ x_2 < (↑x_4.length : Int)) ∧ x_2.toNat < x_4.length ∧ ((0 : Int) ≤ x ∧ x < (↑(cauL (↑rest.length : Int) many).fst.length : Int)) ∧ ((0 : Int) ≤ i ∧ i < (↑(gd [] (cauL (↑rest.length : Int) many).fst x.toNat).length : Int)) ∧ ((0 : Int) ≤ x_2 ∧ x_2 < (↑old.size : Int)) ∧ ((0 : Int) ≤ x_2 ∧ x_2 < (↑now.size : Int)) ∧ True ∧ ((0 : Int) ≤ x_2 ∧ x_2 < (↑x_4.length : Int)) ∧ x_2.toNat < x_4.length ∧ I64 (x_2 + (1 : Int)) ∧ i_18_1 i old now many rest (0 : Int) x (List.map id (gd ByteArray.empty rest x.toNat).data.toList) (x_2 + (1 : Int)) x_3 (x_4.set x_2.toNat (gd (0 : UInt8) x_4 x_2.toNat ^^^ gmul (gd (0 : UInt8) (gd [] (cauL (↑rest.length : Int) many).fst x.toNat) i.toNat) (gb old x_2.toNat ^^^ gb now x_2.toNat))) ∧ ((↑(x_4.set x_2.toNat (gd (0 : UInt8) x_4 x_2.toNat ^^^ gmul (gd (0 : UInt8) (gd [] (cauL (↑rest.length : Int) many).fst x.toNat) i.toNat) (gb old x_2.toNat ^^^ gb now x_2.toNat))).length : Int) - (x_2 + (1 : Int))).toNat < ((↑x_4.length : Int) - x_2).toNat) ∧ ((↑(List.map id (gd ByteArray.empty rest x.toNat).data.toList).length : Int) ≤ x_2 → (x_1.length + (1 : Nat)) * (16 : Nat) ≤ (140737488355328 : Nat) ∧ I64 (x_3 + (1 : Int)) ∧ i_18_0 i old now many rest (x_3 + (1 : Int)) (x_1 ++ [ByteArray.mk (List.map id x_4).toArray]) ∧ ((↑rest.length : Int) - (x_3 + (1 : Int))).toNat < ((↑rest.length : Int) - x).toNat)) ∧ ((↑rest.length : Int) ≤ x → (x_1, (0 : Int)) = chgL i old now many rest))))) := by
  have a1 := @ChI.mk' old now many i rest
  have a2 := @ChI.wid old now many i rest
  have a3 := @ChI.row old now many i rest
  have u1 := @UpI.start BA (rest.length : Int)
  have u2 := @UpI.step BA (rest.length : Int)
  have u3 := @UpI.len BA (rest.length : Int)
  have u4 := @UpI.lo BA (rest.length : Int)
  have u5 := @UpI.fin BA (rest.length : Int)
  have b1 := @ChJ.start i old now
  have b2 := @ChJ.step i
  have b3 := @ChJ.fin i
  have b4 := @ChJ.lo i old now
  have b5 := @ChJ.len i old now
  have b6 := @ChI.m old now many i rest
  have b7 := @ChI.i0 old now many i rest
  have b8 := @ChI.r old now many i rest
  have b9 := @ChI.k old now many i rest
  have c1 : ∀ s : BA, (List.map id s.data.toList).length = s.size := fun s => by rw [List.length_map]; rfl
  have c2 : ([old, now] ++ rest).length = 2 + rest.length := by simp; omega
  have c3 : ∀ r : Int, chgF i old now many rest r.toNat = chgT i old now (gd [] (cauL rest.length many).1 r.toNat) (gd ByteArray.empty rest r.toNat) := fun r => rfl
  have c4 : ChI old now many i rest → chgL i old now many rest = ((List.range (rest.length : Int).toNat).map (chgF i old now many rest), 0) := fun h => by
    have d1 := h.m; have d2 := h.i0; have d3 := h.r; have d4 := h.k
    unfold chgL
    rw [if_neg (by omega), if_neg (by omega), if_neg (by omega), if_neg (by omega)]
  have e1 : ¬ (1 ≤ many ∧ many ≤ 8) ∨ i < 0 ∨ many ≤ i → chgL i old now many rest = ([], 3) := fun h => by unfold chgL; rw [if_pos h]
  have e2 : ¬ (¬ (1 ≤ many ∧ many ≤ 8) ∨ i < 0 ∨ many ≤ i) → (rest.length : Int) = 0 → chgL i old now many rest = ([], 8) := fun h h2 => by unfold chgL; rw [if_neg h, if_pos h2]
  have e3 : ¬ (¬ (1 ≤ many ∧ many ≤ 8) ∨ i < 0 ∨ many ≤ i) → ¬ (rest.length : Int) = 0 → 6 < (rest.length : Int) → chgL i old now many rest = ([], 2) := fun h h2 h3 => by unfold chgL; rw [if_neg h, if_neg h2, if_pos h3]
  have e4 : ¬ (¬ (1 ≤ many ∧ many ≤ 8) ∨ i < 0 ∨ many ≤ i) → ¬ (rest.length : Int) = 0 → (rest.length : Int) ≤ 6 → ¬ alkE ([old, now] ++ rest) = 0 → chgL i old now many rest = ([], alkE ([old, now] ++ rest)) := fun h h2 h3 h4 => by unfold chgL; rw [if_neg h, if_neg h2, if_neg (by omega), if_pos h4]
  simp only [Bool.not_false, Bool.not_true, decide_eq_true_eq, decide_eq_false_iff_not]
  (repeat' (first | apply And.intro | intro _)) <;> first | assumption | trivial | omega | (grind [i_18_1, i_18_0, I64]) | trace_state
theorem k_18_ok : k_18.Ok Try.prog tD := con_ok tD_ok (Δ := [k_30, k_31, k_32, k_44]) ⟨k_30_ok, k_31_ok, k_32_ok, k_44_ok, trivial⟩ (Ω := []) trivial k_18 F18_ok F18_call (fun _ => []) (fun _ => trivial) 0 (fun x => (fun (i : Int) (old : ByteArray) (now : ByteArray) (many : Int) (rest : (List ByteArray)) => (fun k => bif Nat.beq k 0 then some (.inv [.sl 57 .cInt, .ow 15 .cStr] (fun zo zv => (fun (r : Int) (out : (List ByteArray)) => i_18_0 i old now many rest r out) zv.1 zv.2.1) (fun zo zv => (fun (r : Int) (out : (List ByteArray)) => ((rest.length : Int) - r).toNat) zv.1 zv.2.1)) else bif Nat.beq k 1 then some (.inv [.sl 66 .cInt, .sl 57 .cInt, .ow 18 .cU8] (fun zo zv => (fun (j0 : Int) (r0 : Int) (b0 : (List UInt8)) (j : Int) (r : Int) (b : (List UInt8)) => i_18_1 i old now many rest j0 r0 b0 j r b) zo.1 zo.2.1 zo.2.2.1 zv.1 zv.2.1 zv.2.2.1) (fun zo zv => (fun (j0 : Int) (r0 : Int) (b0 : (List UInt8)) (j : Int) (r : Int) (b : (List UInt8)) => ((b.length : Int) - j).toNat) zo.1 zo.2.1 zo.2.2.1 zv.1 zv.2.1 zv.2.2.1)) else none)) x.1 x.2.1 x.2.2.1 x.2.2.2.1 x.2.2.2.2.1) fun x hp => Eq.mp (by kernel_rfl) (k_18_v x.1 x.2.1 x.2.2.1 x.2.2.2.1 x.2.2.2.2.1)
open Go.RowKit
-- no VC: supercargolaw.matrixBegun
open Go.RowKit
theorem mx_fill {m n : Int} {f : Nat → Nat → UInt8} {i j : Nat} (hi : (i : Int) < m) (hj : (j : Int) < n) : mxL (fillL m n f) i j = f i j := by
  unfold mxL
  rw [fill_row hi]
  unfold gd
  rw [List.getElem?_map, List.getElem?_range (by omega)]; rfl
theorem fill_congr {m n : Int} {f g : Nat → Nat → UInt8} (h : ∀ i j : Nat, (i : Int) < m → (j : Int) < n → f i j = g i j) : fillL m n f = fillL m n g := by
  unfold fillL
  refine List.map_congr_left fun i hi => List.map_congr_left fun j hj => h i j ?_ ?_
  · have := List.mem_range.1 hi; omega
  · have := List.mem_range.1 hj; omega
theorem fill_self {n m : Nat} {a : List (List UInt8)} (h : mrect n m a) : fillL n m (mxL a) = a := by
  refine gd_iff (d := []) (by rw [fill_len, h.1]; simp) fun i hi => ?_
  rw [fill_len] at hi
  have hin : i < n := by omega
  rw [fill_row (by omega)]
  refine gd_iff (d := 0) (by rw [List.length_map, List.length_range, h.row hin]; simp) fun j hj => ?_
  rw [List.length_map, List.length_range] at hj
  unfold gd
  rw [List.getElem?_map, List.getElem?_range hj]; rfl
theorem rect_eq {n m : Nat} {a b : List (List UInt8)} (ha : mrect n m a) (hb : mrect n m b) (h : ∀ i j, i < n → j < m → mxL a i j = mxL b i j) : a = b := by
  rw [← fill_self ha, ← fill_self hb]
  exact fill_congr fun i j hi hj => h i j (by omega) (by omega)
theorem mchkGo_of {n : Int} : ∀ {a : List (List UInt8)}, (∀ r, r ∈ a → (r.length : Int) = n ∧ r.length ≤ 16 ∧ 0 < r.length) → mchkGo n a = 0
  | [], _ => rfl
  | r :: l, h => by
    have h1 := h r (List.mem_cons_self ..)
    unfold mchkGo
    rw [if_neg (by omega), if_neg (by omega)]
    exact mchkGo_of fun q hq => h q (List.mem_cons_of_mem _ hq)
theorem rect_zero {n m : Nat} {a : List (List UInt8)} (h : mrect n m a) (hn : 0 < n) : (gd [] a 0).length = m := h.row hn
theorem mchk_of {n m : Nat} {a : List (List UInt8)} (h : mrect n m a) (h1 : 0 < n) (h2 : n ≤ 16) (h3 : 0 < m) (h4 : m ≤ 16) : mchk a = 0 := by
  have hl := h.1
  unfold mchk
  rw [if_neg (by omega), if_neg (by omega), rect_zero h h1]
  exact mchkGo_of fun r hr => by have := h.2 r hr; omega
theorem fill_rectN {m n : Nat} {f : Nat → Nat → UInt8} : mrect m n (fillL m n f) := by
  have := fill_rect (m := (m : Int)) (n := (n : Int)) (f := f)
  simpa using this
theorem sg_front (d : Nat) (f : Nat → UInt8) : sg (d + 1) f = f 0 ^^^ sg d fun j => f (j + 1) := by
  rw [sg_skip d 0 f (Nat.zero_le _)]
  rfl
theorem dot_sg : ∀ (xs ys : List UInt8) (o : UInt8), dotGo xs ys o = o ^^^ sg xs.length fun t => gmul (gd 0 xs t) (gd 0 ys t)
  | [], ys, o => by simp [dotGo, sg]
  | x :: l, ys, o => by
    unfold dotGo
    rw [dot_sg l (ys.drop 1), List.length_cons, sg_front, UInt8.xor_assoc]
    congr 2
    refine sg_congr fun i hi => ?_
    congr 1
    unfold gd
    rw [List.getElem?_drop, Nat.add_comm]
theorem turn_rect {n m : Nat} {a : List (List UInt8)} (h : mrect n m a) (hn : 0 < n) : mrect m n (turnL a) := by
  unfold turnL
  rw [rect_zero h hn, h.1]
  exact fill_rectN
theorem turn_mx {n m : Nat} {a : List (List UInt8)} (h : mrect n m a) (hn : 0 < n) {i j : Nat} (hi : i < m) (hj : j < n) : mxL (turnL a) i j = mxL a j i := by
  unfold turnL
  rw [rect_zero h hn, h.1, mx_fill (by omega) (by omega)]
  rfl
theorem raw_eq {n k m : Nat} {a b : List (List UInt8)} (ha : mrect n k a) (hb : mrect k m b) (hk : 0 < k) : rawL a b = fillL n m (mm k (mxL a) (mxL b)) := by
  have ht := turn_rect hb hk
  unfold rawL
  rw [ha.1, ht.1]
  refine fill_congr fun i j hi hj => ?_
  unfold fR
  rw [dot_sg, ha.row (by omega)]
  unfold mm
  rw [UInt8.zero_xor]
  refine sg_congr fun t htk => ?_
  congr 1
  exact turn_mx hb hk (by omega) htk
theorem raw_rect {n k m : Nat} {a b : List (List UInt8)} (ha : mrect n k a) (hb : mrect k m b) (hk : 0 < k) : mrect n m (rawL a b) := by
  rw [raw_eq ha hb hk]; exact fill_rectN
theorem raw_mx {n k m : Nat} {a b : List (List UInt8)} (ha : mrect n k a) (hb : mrect k m b) (hk : 0 < k) {i j : Nat} (hi : i < n) (hj : j < m) : mxL (rawL a b) i j = mm k (mxL a) (mxL b) i j := by
  rw [raw_eq ha hb hk, mx_fill (by omega) (by omega)]
structure Okm (a : List (List UInt8)) (n m : Nat) : Prop where
  rect : mrect n m a
  n0 : 0 < n
  n16 : n ≤ 16
  m0 : 0 < m
  m16 : m ≤ 16
theorem Okm.of {a : List (List UInt8)} (h : mchk a = 0) : Okm a a.length (gd [] a 0).length := by
  obtain ⟨h1, h2, h3, h4, h5⟩ := mchk_ok h
  exact ⟨h5, h1, h2, h3, h4⟩
theorem Okm.chk {a : List (List UInt8)} {n m : Nat} (h : Okm a n m) : mchk a = 0 := mchk_of h.rect h.n0 h.n16 h.m0 h.m16
theorem Okm.len {a : List (List UInt8)} {n m : Nat} (h : Okm a n m) : a.length = n := h.rect.1
theorem Okm.wid {a : List (List UInt8)} {n m : Nat} (h : Okm a n m) : (gd [] a 0).length = m := rect_zero h.rect h.n0
theorem Okm.raw {a b : List (List UInt8)} {n k m : Nat} (ha : Okm a n k) (hb : Okm b k m) : Okm (rawL a b) n m := ⟨raw_rect ha.rect hb.rect ha.m0, ha.n0, ha.n16, hb.m0, hb.m16⟩
theorem Okm.fill {m n : Nat} {f : Nat → Nat → UInt8} (h1 : 0 < m) (h2 : m ≤ 16) (h3 : 0 < n) (h4 : n ≤ 16) : Okm (fillL m n f) m n := ⟨fill_rectN, h1, h2, h3, h4⟩
theorem unit_ok {n : Nat} (h1 : 0 < n) (h2 : n ≤ 16) : unitL n = (fillL n n fU, 0) ∧ Okm (fillL n n fU) n n := by
  unfold unitL
  rw [if_pos (by omega)]
  exact ⟨rfl, Okm.fill h1 h2 h1 h2⟩
theorem unit_mx {n i j : Nat} (hi : i < n) (hj : j < n) : mxL (fillL n n fU) i j = unitM i j := mx_fill (by omega) (by omega)
open Go.RowKit
theorem div_one (x : UInt8) : divN (UInt8.ofNat (Int.toNat 1)) x = invN x := by
  unfold divN invN
  by_cases h : x = 0
  · rw [if_pos h, if_pos h]
  · rw [if_neg h, if_neg h]; exact one_gmul _
theorem fC_eq {m : Int} {i k : Int} (h0 : 0 ≤ i) (h1 : 0 ≤ k) (hm : 0 ≤ m) : divN (UInt8.ofNat (Int.toNat 1)) (UInt8.ofNat (((i.toNat ^^^ (m + k).toNat : Nat) : Int)).toNat) = fC m i.toNat k.toNat := by
  rw [div_one]
  unfold fC
  rw [Int.toNat_natCast, show (m + k).toNat = m.toNat + k.toNat by omega]
def i_63_0 (a : (List (List UInt8))) (i : Int) : Prop := 0 ≤ i ∧ i ≤ a.length ∧ 0 < a.length ∧ a.length ≤ 16 ∧ mchkGo (gd [] a 0).length (a.drop i.toNat) = mchkGo (gd [] a 0).length a
def k_63 : Con Tc Tc.dn := ⟨63, [.ty .llU8], fun x => (fun (a : (List (List UInt8))) => True) x.1, [.cInt], fun x => (fun (a : (List (List UInt8))) => mchk a) x.1⟩
theorem k_63_v (a : (List (List UInt8))) : ((16 : Int) < (↑a.length : Int) → (2 : Int) = mchk a) ∧ ((↑a.length : Int) ≤ (16 : Int) → ((↑a.length : Int) = (0 : Int) → (1 : Int) = mchk a) ∧ (¬(↑a.length : Int) = (0 : Int) → i_63_0 a (0 : Int) ∧ ∀ (x : Int), i_63_0 a x → (x < (↑a.length : Int) → ((0 : Int) ≤ x ∧ x < (↑a.length : Int)) ∧ ((16 : Int) < (↑(gd [] a x.toNat).length : Int) → (2 : Int) = mchk a) ∧ ((↑(gd [] a x.toNat).length : Int) ≤ (16 : Int) → ((0 : Int) ≤ x ∧ x < (↑a.length : Int)) ∧ (¬(↑(gd [] a x.toNat).length : Int) = (0 : Int) → ¬(↑(gd [] a x.toNat).length : Int) = (0 : Int)) ∧ (¬(↑(gd [] a x.toNat).length : Int) = (0 : Int) → ¬(↑(gd [] a x.toNat).length : Int) = (0 : Int)) ∧ (¬(↑(gd [] a x.toNat).length : Int) = (0 : Int) → (0 : Int) ≤ x ∧ x < (↑a.length : Int)) ∧ (¬(↑(gd [] a x.toNat).length : Int) = (0 : Int) → ¬(↑(gd [] a x.toNat).length : Int) = (0 : Int)) ∧ (¬(↑(gd [] a x.toNat).length : Int) = (0 : Int) → ¬(↑(gd [] a x.toNat).length : Int) = (0 : Int)) ∧ (¬(↑(gd [] a x.toNat).length : Int) = (0 : Int) → ¬(↑(gd [] a x.toNat).length : Int) = (0 : Int)) ∧ (¬(↑(gd [] a x.toNat).length : Int) = (0 : Int) → (0 : Int) ≤ (0 : Int) ∧ (0 : Int) < (↑a.length : Int)) ∧ (¬(↑(gd [] a x.toNat).length : Int) = (0 : Int) → ¬(↑(gd [] a x.toNat).length : Int) = (0 : Int)) ∧ (¬(↑(gd [] a x.toNat).length : Int) = (0 : Int) → ¬(↑(gd [] a x.toNat).length : Int) = (0 : Int)) ∧ (¬(↑(gd [] a x.toNat).length : Int) = (0 : Int) → ¬(↑(gd [] a x.toNat).length : Int) = (0 : Int)) ∧ (¬(↑(gd [] a x.toNat).length : Int) = (0 : Int) → ¬(↑(gd [] a x.toNat).length : Int) = (0 : Int)) ∧ (¬(↑(gd [] a x.toNat).length : Int) = (0 : Int) → ¬(↑(gd [] a x.toNat).length : Int) = (0 : Int)) ∧ ((↑(gd [] a x.toNat).length : Int) = (0 : Int) ∨ ¬(↑(gd [] a x.toNat).length : Int) = (↑(gd [] a (Int.toNat (0 : Int))).length : Int) → (1 : Int) = mchk a) ∧ (¬(↑(gd [] a x.toNat).length : Int) = (0 : Int) ∧ (↑(gd [] a x.toNat).length : Int) = (↑(gd [] a (Int.toNat (0 : Int))).length : Int) → I64 (x + (1 : Int)) ∧ i_63_0 a (x + (1 : Int)) ∧ ((↑a.length : Int) - (x + (1 : Int))).toNat < ((↑a.length : Int) - x).toNat))) ∧ ((↑a.length : Int) ≤ x → (0 : Int) = mchk a))) := by
  (repeat' (first | apply And.intro | intro _)) <;> first | assumption | trivial | omega | (grind [mchk, mchkGo, drop_gd, drop_end, I64, i_63_0]) | trace_state
theorem k_63_ok : k_63.Ok Try.prog tD := con_ok tD_ok (Δ := []) trivial (Ω := []) trivial k_63 F63_ok F63_call (fun _ => []) (fun _ => trivial) 0 (fun x => (fun (a : (List (List UInt8))) => (fun k => bif Nat.beq k 0 then some (.inv [.sl 3 .cInt] (fun zo zv => (fun (i : Int) => i_63_0 a i) zv.1) (fun zo zv => (fun (i : Int) => ((a.length : Int) - i).toNat) zv.1)) else none)) x.1) fun x hp => Eq.mp (by kernel_rfl) (k_63_v x.1)
def i_37_1 (m : Int) (n : Int) (k0 : Int) (i0 : Int) (r0 : (List UInt8)) (k : Int) (i : Int) (r : (List UInt8)) : Prop := i = i0 ∧ UpI n (fC m i.toNat) k r
def i_37_0 (m : Int) (n : Int) (i : Int) (K : (List (Row UInt8))) (A : (List (Nat × List UInt8))) : Prop := (1 ≤ m ∧ m ≤ 16 ∧ 1 ≤ n ∧ n ≤ 16) ∧ RwI m n (fC m) i K A
def k_37 : Con Tc Tc.dn := ⟨37, [.ty .cInt, .ty .cInt], fun x => (fun (m : Int) (n : Int) => True) x.1 x.2.1, [.llU8, .cInt], fun x => (fun (m : Int) (n : Int) => cauL m n) x.1 x.2.1⟩
theorem k_37_v (m : Int) (n : Int) : ((1 : Int) ≤ m → (1 : Int) ≤ m) ∧ ((1 : Int) ≤ m → (1 : Int) ≤ m) ∧ ((1 : Int) ≤ m ∧ m ≤ (16 : Int) → (1 : Int) ≤ m ∧ m ≤ (16 : Int)) ∧ ((1 : Int) ≤ m ∧ m ≤ (16 : Int) → (1 : Int) ≤ m ∧ m ≤ (16 : Int)) ∧ (((1 : Int) ≤ m ∧ m ≤ (16 : Int)) ∧ (1 : Int) ≤ n → ((1 : Int) ≤ m ∧ m ≤ (16 : Int)) ∧ (1 : Int) ≤ n) ∧ (((1 : Int) ≤ m ∧ m ≤ (16 : Int)) ∧ (1 : Int) ≤ n → ((1 : Int) ≤ m ∧ m ≤ (16 : Int)) ∧ (1 : Int) ≤ n) ∧ (((m < (1 : Int) ∨ (16 : Int) < m) ∨ n < (1 : Int)) ∨ (16 : Int) < n → ([], (3 : Int)) = cauL m n) ∧ ((((1 : Int) ≤ m ∧ m ≤ (16 : Int)) ∧ (1 : Int) ≤ n) ∧ n ≤ (16 : Int) → i_37_0 m n (0 : Int) [] [] ∧ ∀ (x : Int) (x_1 : List (Row UInt8)) (x_2 : List (Nat × List UInt8)), i_37_0 m n x x_1 x_2 → (x < m → i_37_1 m n (0 : Int) x [] (0 : Int) x [] ∧ ∀ (x_3 x_4 : Int) (x_5 : List UInt8), i_37_1 m n (0 : Int) x [] x_3 x_4 x_5 → (x_3 < n → I64 (m + x_3) ∧ ((0 : Int) ≤ x_4 ∧ (0 : Int) ≤ m + x_3 ∧ I64 x_4 ∧ I64 (m + x_3)) ∧ (0 : Int) ≤ (↑(x_4.toNat ^^^ (m + x_3).toNat) : Int) ∧ True ∧ (x_5.length + (1 : Nat)) * (1 : Nat) ≤ (140737488355328 : Nat) ∧ I64 (x_3 + (1 : Int)) ∧ i_37_1 m n (0 : Int) x [] (x_3 + (1 : Int)) x_4 (x_5 ++ [divN (UInt8.ofNat (Int.toNat (1 : Int))) (UInt8.ofNat (↑(x_4.toNat ^^^ (m + x_3).toNat) : Int).toNat)]) ∧ (n - (x_3 + (1 : Int))).toNat < (n - x_3).toNat) ∧ (n ≤ x_3 → ∀ (id : Nat), ¬hasA x_2 id → (x_1.length + (1 : Nat)) * (24 : Nat) ≤ (140737488355328 : Nat) ∧ I64 (x_4 + (1 : Int)) ∧ i_37_0 m n (x_4 + (1 : Int)) (x_1 ++ [Row.at UInt8 id x_5.length]) ((id, x_5) :: x_2) ∧ (m - (x_4 + (1 : Int))).toNat < (m - x).toNat)) ∧ (m ≤ x → (∀ (x : Row UInt8), x ∈ x_1 → x.ok x_2 ∧ x.kd ≠ RK.nil) ∧ (List.map (fun x => x.get x_2) x_1, (0 : Int)) = cauL m n)) := by
  have h1 := @RwI.start m n (fC m)
  have h2 := @RwI.step m n
  have h3 := @RwI.fin m n (fC m)
  have h4 := @RwI.len m n (fC m)
  have h5 := @UpI.start UInt8 n
  have h6 := @UpI.step UInt8 n
  have h7 := @UpI.len UInt8 n
  have h8 := @fC_eq m
  have h9 := @RwI.lo m n (fC m)
  have h10 := @UpI.lo UInt8 n
  unfold cauL
  (repeat' (first | apply And.intro | intro _)) <;> first | assumption | trivial | omega | (grind [i_37_1, i_37_0, I64]) | trace_state
theorem k_37_ok : k_37.Ok Try.prog tD := con_ok tD_ok (Δ := [k_60]) ⟨k_60_ok, trivial⟩ (Ω := []) trivial k_37 F37_ok F37_call (fun _ => []) (fun _ => trivial) 0 (fun x => (fun (m : Int) (n : Int) => (fun k => bif Nat.beq k 0 then some (.inv [.sl 7 .cInt, .ow 6 .rU8, .ar .cU8] (fun zo zv => (fun (i : Int) (K : (List (Row UInt8))) (A : (List (Nat × List UInt8))) => i_37_0 m n i K A) zv.1 zv.2.1 zv.2.2.1) (fun zo zv => (fun (i : Int) (K : (List (Row UInt8))) (A : (List (Nat × List UInt8))) => (m - i).toNat) zv.1 zv.2.1 zv.2.2.1)) else bif Nat.beq k 1 then some (.inv [.sl 9 .cInt, .sl 7 .cInt, .ow 8 .cU8] (fun zo zv => (fun (k0 : Int) (i0 : Int) (r0 : (List UInt8)) (k : Int) (i : Int) (r : (List UInt8)) => i_37_1 m n k0 i0 r0 k i r) zo.1 zo.2.1 zo.2.2.1 zv.1 zv.2.1 zv.2.2.1) (fun zo zv => (fun (k0 : Int) (i0 : Int) (r0 : (List UInt8)) (k : Int) (i : Int) (r : (List UInt8)) => (n - k).toNat) zo.1 zo.2.1 zo.2.2.1 zv.1 zv.2.1 zv.2.2.1)) else none)) x.1 x.2.1) fun x hp => Eq.mp (by kernel_rfl) (k_37_v x.1 x.2.1)
open Go.RowKit
theorem unit_row {n i : Int} (h0 : 0 ≤ i) (h : i < n) : UpI n (fU i.toNat) n ((List.replicate n.toNat (UInt8.ofNat (Int.toNat 0))).set i.toNat (UInt8.ofNat (Int.toNat 1))) := by
  refine ⟨by omega, Int.le_refl _, ?_⟩
  refine gd_iff (d := 0) (by simp) fun j hj => ?_
  simp only [List.length_set, List.length_replicate] at hj
  rw [gd_set1]
  have e2 : gd 0 ((List.range n.toNat).map (fU i.toNat)) j = fU i.toNat j := by
    unfold gd; rw [List.getElem?_map, List.getElem?_range hj]; rfl
  rw [e2]
  unfold fU
  by_cases e : i.toNat = j
  · rw [if_pos ⟨e, by simp; omega⟩, if_pos e]; rfl
  · rw [if_neg (fun hh => e hh.1), if_neg e]
    unfold gd
    rw [List.getElem?_replicate, if_pos hj]; rfl
def fG (a b : List (List UInt8)) (i k t : Nat) : UInt8 := gmul (gd 0 (gd [] a i) t) (gd 0 (gd [] b t) k)
def fM (a b : List (List UInt8)) (i k : Nat) : UInt8 := sg b.length (fG a b i k)
def fS (a b : List UInt8) (f : UInt8) (i : Nat) : UInt8 := gd 0 a i ^^^ gmul (gd 0 b i) f
def i_62_0 (n : Int) (i : Int) (K : (List (Row UInt8))) (A : (List (Nat × List UInt8))) : Prop := RwI n n fU i K A
def k_62 : Con Tc Tc.dn := ⟨62, [.ty .cInt], fun x => (fun (n : Int) => 0 ≤ n ∧ n ≤ 16) x.1, [.llU8], fun x => (fun (n : Int) => fillL n n fU) x.1⟩
theorem k_62_v (n : Int) (hp : 0 ≤ n ∧ n ≤ 16) : i_62_0 n (0 : Int) [] [] ∧ ∀ (x : Int) (x_1 : List (Row UInt8)) (x_2 : List (Nat × List UInt8)), i_62_0 n x x_1 x_2 → (x < n → ((0 : Int) ≤ n ∧ n ≤ n ∧ n * (↑(1 : Nat) : Int) ≤ (140737488355328 : Int)) ∧ ((0 : Int) ≤ x ∧ x < (↑(List.replicate n.toNat (UInt8.ofNat (Int.toNat (0 : Int)))).length : Int)) ∧ x.toNat < (List.replicate n.toNat (UInt8.ofNat (Int.toNat (0 : Int)))).length ∧ ∀ (id : Nat), ¬hasA x_2 id → (x_1.length + (1 : Nat)) * (24 : Nat) ≤ (140737488355328 : Nat) ∧ I64 (x + (1 : Int)) ∧ i_62_0 n (x + (1 : Int)) (x_1 ++ [Row.at UInt8 id ((List.replicate n.toNat (UInt8.ofNat (Int.toNat (0 : Int)))).set x.toNat (UInt8.ofNat (Int.toNat (1 : Int)))).length]) ((id, (List.replicate n.toNat (UInt8.ofNat (Int.toNat (0 : Int)))).set x.toNat (UInt8.ofNat (Int.toNat (1 : Int)))) :: x_2) ∧ (n - (x + (1 : Int))).toNat < (n - x).toNat) ∧ (n ≤ x → (∀ (x : Row UInt8), x ∈ x_1 → x.ok x_2 ∧ x.kd ≠ RK.nil) ∧ List.map (fun x => x.get x_2) x_1 = fillL n n fU) := by
  have h1 := @RwI.start n n fU
  have h2 := @RwI.step n n n fU
  have h3 := @RwI.fin n n fU
  have h4 := @RwI.len n n fU
  have h5 := @unit_row n
  have h9 := @RwI.lo n n fU
  (repeat' (first | apply And.intro | intro _)) <;> first | assumption | trivial | omega | (grind [i_62_0, I64]) | trace_state
theorem k_62_ok : k_62.Ok Try.prog tD := con_ok tD_ok (Δ := []) trivial (Ω := []) trivial k_62 F62_ok F62_call (fun _ => []) (fun _ => trivial) 0 (fun x => (fun (n : Int) => (fun k => bif Nat.beq k 0 then some (.inv [.sl 4 .cInt, .ow 3 .rU8, .ar .cU8] (fun zo zv => (fun (i : Int) (K : (List (Row UInt8))) (A : (List (Nat × List UInt8))) => i_62_0 n i K A) zv.1 zv.2.1 zv.2.2.1) (fun zo zv => (fun (i : Int) (K : (List (Row UInt8))) (A : (List (Nat × List UInt8))) => (n - i).toNat) zv.1 zv.2.1 zv.2.2.1)) else none)) x.1) fun x hp => Eq.mp (by kernel_rfl) (k_62_v x.1 hp)
def i_65_0 (a : (List UInt8)) (b : (List UInt8)) (f : UInt8) (i : Int) (r : (List UInt8)) : Prop := UpI a.length (fS a b f) i r
def k_65 : Con Tc Tc.dn := ⟨65, [.ty .lU8, .ty .lU8, .ty .cU8], fun x => (fun (a : (List UInt8)) (b : (List UInt8)) (f : UInt8) => a.length ≤ b.length ∧ a.length ≤ 1000000) x.1 x.2.1 x.2.2.1, [.lU8], fun x => (fun (a : (List UInt8)) (b : (List UInt8)) (f : UInt8) => (List.range a.length).map (fS a b f)) x.1 x.2.1 x.2.2.1⟩
theorem k_65_v (a : (List UInt8)) (b : (List UInt8)) (f : UInt8) (hp : a.length ≤ b.length ∧ a.length ≤ 1000000) : i_65_0 a b f (0 : Int) [] ∧ ∀ (x : Int) (x_1 : List UInt8), i_65_0 a b f x x_1 → (x < (↑a.length : Int) → ((0 : Int) ≤ x ∧ x < (↑a.length : Int)) ∧ ((0 : Int) ≤ x ∧ x < (↑b.length : Int)) ∧ True ∧ (x_1.length + (1 : Nat)) * (1 : Nat) ≤ (140737488355328 : Nat) ∧ I64 (x + (1 : Int)) ∧ i_65_0 a b f (x + (1 : Int)) (x_1 ++ [gd (0 : UInt8) a x.toNat ^^^ gmul (gd (0 : UInt8) b x.toNat) f]) ∧ ((↑a.length : Int) - (x + (1 : Int))).toNat < ((↑a.length : Int) - x).toNat) ∧ ((↑a.length : Int) ≤ x → x_1 = List.map (fS a b f) (List.range a.length)) := by
  have h5 := @UpI.start UInt8 a.length (fS a b f)
  have h6 := @UpI.step UInt8 a.length (fS a b f)
  have h7 := @UpI.len UInt8 a.length (fS a b f)
  have h8 := @UpI.fin UInt8 a.length (fS a b f)
  simp only [Int.toNat_natCast] at h8
  have h10 := @UpI.lo UInt8 a.length (fS a b f)
  (repeat' (first | apply And.intro | intro _)) <;> first | assumption | trivial | omega | (grind [i_65_0, I64, fS]) | trace_state
theorem k_65_ok : k_65.Ok Try.prog tD := con_ok tD_ok (Δ := [k_61]) ⟨k_61_ok, trivial⟩ (Ω := []) trivial k_65 F65_ok F65_call (fun _ => []) (fun _ => trivial) 0 (fun x => (fun (a : (List UInt8)) (b : (List UInt8)) (f : UInt8) => (fun k => bif Nat.beq k 0 then some (.inv [.sl 8 .cInt, .ow 7 .cU8] (fun zo zv => (fun (i : Int) (r : (List UInt8)) => i_65_0 a b f i r) zv.1 zv.2.1) (fun zo zv => (fun (i : Int) (r : (List UInt8)) => ((a.length : Int) - i).toNat) zv.1 zv.2.1)) else none)) x.1 x.2.1 x.2.2.1) fun x hp => Eq.mp (by kernel_rfl) (k_65_v x.1 x.2.1 x.2.2.1 hp)
theorem sg_pick : ∀ {l : List Nat} {n : Nat} {f : Nat → UInt8}, l.Nodup → (∀ t, t ∈ l → t < n) → (∀ t, t < n → ¬ t ∈ l → f t = 0) → sg n f = sg l.length fun s => f (l.getD s 0)
  | [], n, f, _, _, h => by
    rw [sg_zero fun i hi => h i hi (by simp)]; rfl
  | t :: l, n, f, hd, hl, h => by
    have ht : t < n := hl t (List.mem_cons_self ..)
    have hnt : ¬ t ∈ l := (List.nodup_cons.1 hd).1
    have e : sg n f = sg n (fun i => (if i = t then f i else 0) ^^^ (if i = t then 0 else f i)) := sg_congr fun i hi => by
      by_cases q : i = t
      · rw [if_pos q, if_pos q, UInt8.xor_zero]
      · rw [if_neg q, if_neg q, UInt8.zero_xor]
    rw [e, sg_xor, sg_one t f n, if_pos ht, sg_pick (l := l) (List.nodup_cons.1 hd).2 (fun s hs => hl s (List.mem_cons_of_mem _ hs)) (fun s hs hn => by
      by_cases q : s = t
      · rw [if_pos q]
      · rw [if_neg q]; exact h s hs (by simp [q, hn]))]
    have e2 : sg (t :: l).length (fun s => f ((t :: l).getD s 0)) = f t ^^^ sg l.length fun s => f (l.getD s 0) := by
      rw [List.length_cons, sg_skip l.length 0 _ (Nat.zero_le _)]
      rfl
    rw [e2]
    congr 1
    refine sg_congr fun s hs => ?_
    have hm : l.getD s 0 ∈ l := by
      rw [List.getD_eq_getElem?_getD, List.getElem?_eq_getElem hs]; exact List.getElem_mem _
    rw [if_neg fun q : l.getD s 0 = t => hnt (q ▸ hm)]
structure Rd (n m : Nat) (X : Mx) (c : Nat) (p : List (Nat × Nat)) : Prop where
  piv : ∀ q, q ∈ p → q.1 < n ∧ c ≤ q.2 ∧ q.2 < m ∧ X q.1 q.2 ≠ 0 ∧ ∀ i, i < n → i ≠ q.1 → X i q.2 = 0
  nd : (p.map Prod.fst).Nodup
  zero : ∀ i, i < n → ¬ i ∈ p.map Prod.fst → ∀ j, c ≤ j → j < m → X i j = 0
theorem Rd.start (n m : Nat) (X : Mx) : Rd n m X m [] := ⟨fun q hq => by simp at hq, by simp, fun i _ _ j h1 h2 => by omega⟩
theorem Rd.none {n m c : Nat} {X : Mx} {p : List (Nat × Nat)} (h : Rd n m X (c + 1) p) (hz : ∀ i, i < n → ¬ i ∈ p.map Prod.fst → X i c = 0) : Rd n m X c p :=
  ⟨fun q hq => by have := h.piv q hq; exact ⟨this.1, by omega, this.2.2⟩, h.nd, fun i hi hn j h1 h2 => by
    by_cases e : j = c
    · subst e; exact hz i hi hn
    · exact h.zero i hi hn j (by omega) h2⟩
theorem Rd.some {n m c t : Nat} {X : Mx} {p : List (Nat × Nat)} (h : Rd n m X (c + 1) p) (hc : c < m) (ht : t < n) (hn : ¬ t ∈ p.map Prod.fst) (hx : X t c ≠ 0) : Rd n m (elimM (fun i => gmul (X i c) (ginv (X t c))) t X) c ((t, c) :: p) := by
  have row : ∀ j, c + 1 ≤ j → j < m → X t j = 0 := h.zero t ht hn
  have keep : ∀ i j, c + 1 ≤ j → j < m → elimM (fun i => gmul (X i c) (ginv (X t c))) t X i j = X i j := fun i j h1 h2 => by
    unfold elimM
    by_cases e : i = t
    · rw [if_pos e, e]
    · rw [if_neg e, row j h1 h2, gmul_zero, UInt8.xor_zero]
  have col : ∀ i, i ≠ t → elimM (fun i => gmul (X i c) (ginv (X t c))) t X i c = 0 := fun i e => by
    unfold elimM
    rw [if_neg e, gmul_assoc, ginv_mul _ hx, gmul_one, UInt8.xor_self]
  have colt : elimM (fun i => gmul (X i c) (ginv (X t c))) t X t c = X t c := by unfold elimM; rw [if_pos rfl]
  refine ⟨fun q hq => ?_, ?_, fun i hi hni j h1 h2 => ?_⟩
  · rcases List.mem_cons.1 hq with rfl | hq
    · exact ⟨ht, Nat.le_refl _, hc, by rw [colt]; exact hx, fun i _ e => col i e⟩
    · obtain ⟨q1, q2, q3, q4, q5⟩ := h.piv q hq
      exact ⟨q1, by omega, q3, by rw [keep _ _ q2 q3]; exact q4, fun i hi e => by rw [keep _ _ q2 q3]; exact q5 i hi e⟩
  · rw [List.map_cons, List.nodup_cons]; exact ⟨hn, h.nd⟩
  · rw [List.map_cons, List.mem_cons] at hni
    by_cases e : j = c
    · subst e; exact col i fun e2 => hni (.inl e2)
    · rw [keep _ _ (by omega) h2]
      exact h.zero i hi (fun e2 => hni (.inr e2)) j (by omega) h2
theorem Rd.rank {n m : Nat} {A X : Mx} {p : List (Nat × Nat)} (he : RE n A X) (h : Rd n m X 0 p) : RankIs n m A p.length := by
  obtain ⟨P, Q, hP, hQ⟩ := he
  have hlt : ∀ t, t ∈ p.map Prod.fst → t < n := fun t ht => by
    obtain ⟨q, hq, rfl⟩ := List.mem_map.1 ht
    exact (h.piv q hq).1
  refine ⟨⟨fun i s => Q i ((p.map Prod.fst).getD s 0), fun s j => X ((p.map Prod.fst).getD s 0) j, fun i j hi hj => ?_⟩, fun k ⟨B, C, hB⟩ => ?_⟩
  · rw [hQ i j hi]
    unfold mm
    rw [sg_pick h.nd hlt fun t ht hn => by rw [h.zero t ht hn j (Nat.zero_le _) hj, gmul_zero], List.length_map]
  · have get : ∀ s, s < p.length → p.getD s (0, 0) ∈ p := fun s hs => by
      rw [List.getD_eq_getElem?_getD, List.getElem?_eq_getElem hs]; exact List.getElem_mem _
    have inj : ∀ s t, s < p.length → t < p.length → (p.getD s (0, 0)).1 = (p.getD t (0, 0)).1 → s = t := fun s t hs ht e => by
      have hs' : s < (p.map Prod.fst).length := by simpa using hs
      have ht' : t < (p.map Prod.fst).length := by simpa using ht
      refine (List.getElem_inj (h₀ := hs') (h₁ := ht') h.nd).1 ?_
      rw [List.getD_eq_getElem?_getD, List.getD_eq_getElem?_getD, List.getElem?_eq_getElem hs, List.getElem?_eq_getElem ht] at e
      simpa using e
    refine unit_wide (X := fun s t => gmul (ginv (X (p.getD s (0, 0)).1 (p.getD s (0, 0)).2)) (mm n P B (p.getD s (0, 0)).1 t)) (Y := fun t s => C t (p.getD s (0, 0)).2) fun s t hs ht => ?_
    obtain ⟨q1, q2, q3, q4, q5⟩ := h.piv _ (get s hs)
    obtain ⟨r1, r2, r3, r4, r5⟩ := h.piv _ (get t ht)
    have e1 : mm k (fun s t => gmul (ginv (X (p.getD s (0, 0)).1 (p.getD s (0, 0)).2)) (mm n P B (p.getD s (0, 0)).1 t)) (fun t s => C t (p.getD s (0, 0)).2) s t = gmul (ginv (X (p.getD s (0, 0)).1 (p.getD s (0, 0)).2)) (X (p.getD s (0, 0)).1 (p.getD t (0, 0)).2) := by
      have e2 : X (p.getD s (0, 0)).1 (p.getD t (0, 0)).2 = mm k (mm n P B) C (p.getD s (0, 0)).1 (p.getD t (0, 0)).2 := by
        rw [hP _ _ q1, mm_assoc]
        exact mm_congr (fun _ _ => rfl) fun t' ht' => hB t' _ ht' r3
      rw [e2]
      unfold mm
      rw [← sg_mul]
      exact sg_congr fun i hi => gmul_assoc _ _ _
    rw [e1]
    unfold unitM
    by_cases e : s = t
    · subst e; rw [if_pos rfl, ginv_mul _ q4]
    · rw [if_neg e, r5 _ q1 (fun e2 => e (inj s t hs ht e2)), gmul_zero]
def addR (a b : List UInt8) (f : UInt8) : List UInt8 := (List.range a.length).map fun i => gd 0 a i ^^^ gmul (gd 0 b i) f
def offR (X Y : List (List UInt8)) (c t : Nat) : List (List UInt8) := (List.range Y.length).map fun i => if i = t ∨ gd 0 (gd [] X i) c = 0 then gd [] Y i else addR (gd [] Y i) (gd [] Y t) (divN (gd 0 (gd [] X i) c) (gd 0 (gd [] X t) c))
def lastR (X : List (List UInt8)) (used : List Bool) (c : Nat) : Nat → Int
  | 0 => -1
  | k + 1 => if gd false used k = false ∧ gd 0 (gd [] X k) c ≠ 0 then (k : Int) else lastR X used c k
def redGo : Nat → List (List UInt8) → List (List UInt8) → List Bool → List Int → List (List UInt8) × List (List UInt8) × List Int
  | 0, X, Y, _, by_ => (X, Y, by_)
  | c + 1, X, Y, used, by_ => if lastR X used c X.length < 0 then redGo c X Y used (lastR X used c X.length :: by_)
    else redGo c (offR X X c (lastR X used c X.length).toNat) (offR X Y c (lastR X used c X.length).toNat) (used.set (lastR X used c X.length).toNat true) (lastR X used c X.length :: by_)
theorem lastR_neg {X : List (List UInt8)} {used : List Bool} {c : Nat} : ∀ {k : Nat}, lastR X used c k < 0 → ∀ i, i < k → gd false used i = false → mxL X i c = 0
  | 0, _, i, hi, _ => by omega
  | k + 1, h, i, hi, hu => by
    unfold lastR at h
    split at h
    · omega
    · rename_i hn
      by_cases e : i = k
      · subst e
        exact Classical.byContradiction fun h2 => hn ⟨hu, h2⟩
      · exact lastR_neg h i (by omega) hu
theorem lastR_pos {X : List (List UInt8)} {used : List Bool} {c : Nat} : ∀ {k : Nat}, ¬ lastR X used c k < 0 → (lastR X used c k).toNat < k ∧ gd false used (lastR X used c k).toNat = false ∧ mxL X (lastR X used c k).toNat c ≠ 0
  | 0, h => by simp [lastR] at h
  | k + 1, h => by
    unfold lastR at h ⊢
    split
    · rename_i hy
      rw [Int.toNat_natCast]
      exact ⟨by omega, hy.1, hy.2⟩
    · rename_i hn
      rw [if_neg hn] at h
      obtain ⟨h1, h2, h3⟩ := lastR_pos h
      exact ⟨by omega, h2, h3⟩
theorem addR_len {a b : List UInt8} {f : UInt8} : (addR a b f).length = a.length := by simp [addR]
theorem addR_gd {a b : List UInt8} {f : UInt8} (h : a.length = b.length) (j : Nat) : gd 0 (addR a b f) j = gd 0 a j ^^^ gmul (gd 0 b j) f := by
  unfold addR
  by_cases hj : j < a.length
  · show ((List.map _ _)[j]?).getD 0 = _
    rw [List.getElem?_map, List.getElem?_range hj]; rfl
  · have e1 : gd 0 a j = 0 := by unfold gd; rw [List.getElem?_eq_none (by omega)]; rfl
    have e2 : gd 0 b j = 0 := by unfold gd; rw [List.getElem?_eq_none (by omega)]; rfl
    rw [e1, e2, zero_gmul, UInt8.xor_zero]
    show ((List.map _ _)[j]?).getD 0 = _
    rw [List.getElem?_eq_none (by simp; omega)]; rfl
theorem offR_row {X Y : List (List UInt8)} {c t i : Nat} (hi : i < Y.length) : gd [] (offR X Y c t) i = if i = t ∨ gd 0 (gd [] X i) c = 0 then gd [] Y i else addR (gd [] Y i) (gd [] Y t) (divN (gd 0 (gd [] X i) c) (gd 0 (gd [] X t) c)) := by
  unfold offR
  show ((List.map _ _)[i]?).getD [] = _
  rw [List.getElem?_map, List.getElem?_range hi]; rfl
theorem offR_rect {n m c t : Nat} {X Y : List (List UInt8)} (h : Rect n m Y) : Rect n m (offR X Y c t) := by
  refine ⟨by simp [offR, h.1], fun r hr => ?_⟩
  unfold offR at hr
  obtain ⟨i, hi, rfl⟩ := List.mem_map.1 hr
  have hi : i < n := by have := List.mem_range.1 hi; rw [h.1] at this; exact this
  split
  · exact (h.row hi).1
  · rw [addR_len]; exact (h.row hi).1
theorem offR_mx {n m c t : Nat} {X Y : List (List UInt8)} (h : Rect n m Y) (ht : t < n) (hx : mxL X t c ≠ 0) {i : Nat} (hi : i < n) (j : Nat) : mxL (offR X Y c t) i j = elimM (fun i => gmul (mxL X i c) (ginv (mxL X t c))) t (mxL Y) i j := by
  unfold elimM
  show gd 0 (gd [] (offR X Y c t) i) j = _
  rw [offR_row (by rw [h.1]; exact hi)]
  by_cases e : i = t
  · rw [if_pos (.inl e), if_pos e, e]; rfl
  · rw [if_neg e]
    by_cases e2 : gd 0 (gd [] X i) c = 0
    · rw [if_pos (.inr e2)]
      show mxL Y i j = mxL Y i j ^^^ gmul (gmul (gd 0 (gd [] X i) c) (ginv (mxL X t c))) (mxL Y t j)
      rw [e2, zero_gmul, zero_gmul, UInt8.xor_zero]
    · rw [if_neg fun hh => hh.elim e e2, addR_gd (by rw [(h.row hi).1, (h.row ht).1])]
      have e3 : divN (gd 0 (gd [] X i) c) (gd 0 (gd [] X t) c) = gmul (mxL X i c) (ginv (mxL X t c)) := by
        unfold divN; rw [if_neg (show ¬gd 0 (gd [] X t) c = 0 from hx)]; rfl
      rw [e3, gmul_comm]; rfl
structure UsI (n m c : Nat) (used : List Bool) (by_ : List Int) (p : List (Nat × Nat)) : Prop where
  len : used.length = n
  us : ∀ i, i < n → (gd false used i = false ↔ ¬ i ∈ p.map Prod.fst)
  cnt : (by_.filter fun x => decide (0 ≤ x)).length = p.length
theorem red_law {n m : Nat} {A : Mx} : ∀ (c : Nat) (X Y : List (List UInt8)) (used : List Bool) (by_ : List Int) (p : List (Nat × Nat)), c ≤ m → Rect n m X → RE n A (mxL X) → Rd n m (mxL X) c p → UsI n m c used by_ p →
    ∃ p', Rect n m (redGo c X Y used by_).1 ∧ RE n A (mxL (redGo c X Y used by_).1) ∧ Rd n m (mxL (redGo c X Y used by_).1) 0 p' ∧ ((redGo c X Y used by_).2.2.filter fun x => decide (0 ≤ x)).length = p'.length
  | 0, X, Y, used, by_, p, _, h1, h2, h3, h4 => ⟨p, h1, h2, h3, h4.cnt⟩
  | c + 1, X, Y, used, by_, p, hc, h1, h2, h3, h4 => by
    unfold redGo
    by_cases hn : lastR X used c X.length < 0
    · rw [if_pos hn]
      refine red_law c X Y used _ p (by omega) h1 h2 (h3.none fun i hi hni => lastR_neg hn i (by rw [h1.1]; exact hi) ((h4.us i hi).2 hni)) ⟨h4.len, h4.us, ?_⟩
      rw [List.filter_cons_of_neg (by simp; omega)]; exact h4.cnt
    · rw [if_neg hn]
      obtain ⟨q1, q2, q3⟩ := lastR_pos hn
      have hp : ¬ lastR X used c X.length < 0 := hn
      generalize hL : lastR X used c X.length = L at q1 q2 q3 hn ⊢
      have ht : L.toNat < n := by rw [← h1.1]; exact q1
      have e : ∀ i j, i < n → mxL (offR X X c L.toNat) i j = elimM (fun i => gmul (mxL X i c) (ginv (mxL X L.toNat c))) L.toNat (mxL X) i j := fun i j hi => offR_mx h1 ht q3 hi j
      have hnu : ¬ L.toNat ∈ p.map Prod.fst := (h4.us _ ht).1 q2
      have r := h3.some (by omega) ht hnu q3
      have r2 : Rd n m (mxL (offR X X c L.toNat)) c ((L.toNat, c) :: p) :=
        ⟨fun q hq => by
          obtain ⟨k1, k2, k3, k4, k5⟩ := r.piv q hq
          exact ⟨k1, k2, k3, by rw [e _ _ k1]; exact k4, fun i hi hne => by rw [e i _ hi]; exact k5 i hi hne⟩, r.nd, fun i hi hni j j1 j2 => by rw [e i j hi]; exact r.zero i hi hni j j1 j2⟩
      refine red_law c _ _ _ _ ((L.toNat, c) :: p) (by omega) (offR_rect h1) ((h2.elim ht).congr e) r2 ⟨by simp [h4.len], fun i hi => ?_, ?_⟩
      · rw [gd_set2 (by rw [h4.len]; exact ht), List.map_cons, List.mem_cons]
        by_cases ei : L.toNat = i
        · rw [if_pos ei]
          constructor
          · intro hh; simp at hh
          · intro hh; exact absurd (.inl ei.symm) hh
        · rw [if_neg ei, h4.us i hi]
          constructor
          · intro hh h5; rcases h5 with h5 | h5
            · exact ei h5.symm
            · exact hh h5
          · intro hh h5; exact hh (.inr h5)
      · rw [List.filter_cons_of_pos (by simp; omega), List.length_cons, List.length_cons, h4.cnt]
open Go.RowKit
abbrev LL : Type := List (List UInt8)
def Grw (A A' : ArL) : Prop := ∀ id, hasA A id → hasA A' id ∧ lkA A' id = lkA A id
theorem Grw.refl (A : ArL) : Grw A A := fun id h => ⟨h, rfl⟩
theorem Grw.snoc {A A' : ArL} {id : Nat} {xs : List UInt8} (h : Grw A A') (hid : ¬ hasA A' id) : Grw A ((id, xs) :: A') := fun j hj => by
  obtain ⟨h1, h2⟩ := h j hj
  have hne : j ≠ id := fun e => hid (e ▸ h1)
  exact ⟨hasA_cons.2 (.inr h1), by rw [lkA_cons, if_neg hne]; exact h2⟩
theorem StI.mono {K : RwL} {A A' : ArL} {L : LL} (h : StI K A L) (g : Grw A A') : StI K A' L := ⟨h.len, fun j hj => by
  obtain ⟨⟨q1, q2, q3⟩, q4⟩ := h.row j hj
  obtain ⟨g1, g2⟩ := g _ q2
  exact ⟨⟨q1, g1, by rw [g2]; exact q3⟩, by rw [g2]; exact q4⟩⟩
structure CpI (A0 : ArL) (s : LL) (i : Int) (K : RwL) (A : ArL) : Prop where
  lo : 0 ≤ i
  hi : i ≤ s.length
  few : s.length ≤ 16
  st : StI K A (s.take i.toNat)
  gr : Grw A0 A
theorem CpI.start {A : ArL} {s : LL} (h : s.length ≤ 16) : CpI A s 0 [] A := ⟨by omega, by omega, h, by simpa using StI.nil, .refl A⟩
theorem CpI.step {A0 A : ArL} {s : LL} {i : Int} {K : RwL} {id : Nat} (h : CpI A0 s i K A) (hi : i < s.length) (hid : ¬ hasA A id) : CpI A0 s (i + 1) (K ++ [Row.at UInt8 id (gd [] s i.toNat).length]) ((id, gd [] s i.toNat) :: A) := by
  have h0 := h.lo
  refine ⟨by omega, by omega, h.few, ?_, h.gr.snoc hid⟩
  have := h.st.snoc hid (r := gd [] s i.toNat)
  rw [show (i + 1).toNat = i.toNat + 1 by omega, List.take_add_one, show s[i.toNat]?.toList = [gd [] s i.toNat] by rw [gd_get (d := ([] : List UInt8)) (by omega)]; rfl]
  exact this
theorem CpI.len {A0 A : ArL} {s : LL} {i : Int} {K : RwL} (h : CpI A0 s i K A) : (K.length : Int) = i := by rw [h.st.len]; have := h.lo; have := h.hi; simp; omega
theorem CpI.fin {A0 A : ArL} {s : LL} {i : Int} {K : RwL} (h : CpI A0 s i K A) (hi : s.length ≤ i) : StI K A s := by
  have := h.st
  rwa [List.take_of_length_le (by omega)] at this
theorem cp_end {A0 A A6 : ArL} {s mate : LL} {i j : Int} {K K5 : RwL} (h1 : CpI A0 s i K A) (hi : s.length ≤ i) (h2 : CpI A mate j K5 A6) (hj : mate.length ≤ j) : ((∀ x : Row UInt8, x ∈ K → x.ok A6 ∧ x.kd ≠ RK.nil) ∧ ∀ x : Row UInt8, x ∈ K5 → x.ok A6 ∧ x.kd ≠ RK.nil) ∧ List.map (fun x => x.get A6) K = s ∧ List.map (fun x => x.get A6) K5 = mate := by
  have e1 := ((h1.fin hi).mono h2.gr).fin
  have e2 := (h2.fin hj).fin
  exact ⟨⟨e1.1, e2.1⟩, e1.2, e2.2⟩
def redL (a mate : LL) : LL × LL × List Int := redGo (gd [] a 0).length a mate (List.replicate a.length false) []
def offK (X Y : LL) (c t k : Nat) : LL := (List.range Y.length).map fun i => if i = t ∨ k ≤ i ∨ gd 0 (gd [] X i) c = 0 then gd [] Y i else addR (gd [] Y i) (gd [] Y t) (divN (gd 0 (gd [] X i) c) (gd 0 (gd [] X t) c))
theorem offK_len {X Y : LL} {c t k : Nat} : (offK X Y c t k).length = Y.length := by simp [offK]
theorem offK_gd {X Y : LL} {c t k i : Nat} (hi : i < Y.length) : gd [] (offK X Y c t k) i = if i = t ∨ k ≤ i ∨ gd 0 (gd [] X i) c = 0 then gd [] Y i else addR (gd [] Y i) (gd [] Y t) (divN (gd 0 (gd [] X i) c) (gd 0 (gd [] X t) c)) := by
  unfold offK
  show ((List.map _ _)[i]?).getD [] = _
  rw [List.getElem?_map, List.getElem?_range hi]; rfl
theorem offK_zero {X Y : LL} {c t : Nat} : offK X Y c t 0 = Y := gd_iff (d := []) offK_len fun i hi => by
  rw [offK_len] at hi
  rw [offK_gd hi, if_pos (.inr (.inl (by omega)))]
theorem offK_end {X Y : LL} {c t k : Nat} (h : Y.length ≤ k) : offK X Y c t k = offR X Y c t := gd_iff (d := []) (by simp [offK, offR]) fun i hi => by
  rw [offK_len] at hi
  rw [offK_gd hi, offR_row hi]
  by_cases e : i = t ∨ gd 0 (gd [] X i) c = 0
  · rw [if_pos e, if_pos (by rcases e with e | e; exact .inl e; exact .inr (.inr e))]
  · rw [if_neg e, if_neg (by intro hh; rcases hh with hh | hh | hh; exact e (.inl hh); omega; exact e (.inr hh))]
theorem offK_skip {X Y : LL} {c t k : Nat} (h : k = t ∨ gd 0 (gd [] X k) c = 0) : offK X Y c t (k + 1) = offK X Y c t k := gd_iff (d := []) (by rw [offK_len, offK_len]) fun i hi => by
  rw [offK_len] at hi
  rw [offK_gd hi, offK_gd hi]
  by_cases e : i = k
  · subst e
    rw [if_pos (by rcases h with e | e; exact .inl e; exact .inr (.inr e)), if_pos (.inr (.inl (Nat.le_refl _)))]
  · by_cases e2 : i = t ∨ k ≤ i ∨ gd 0 (gd [] X i) c = 0
    · rw [if_pos e2, if_pos (by rcases e2 with e2 | e2 | e2; exact .inl e2; exact .inr (.inl (by omega)); exact .inr (.inr e2))]
    · rw [if_neg e2, if_neg (by intro hh; rcases hh with hh | hh | hh; exact e2 (.inl hh); exact e2 (.inr (.inl (by omega))); exact e2 (.inr (.inr hh)))]
theorem offK_step {X Y : LL} {c t k : Nat} (hk : k < Y.length) (h1 : k ≠ t) (h2 : gd 0 (gd [] X k) c ≠ 0) : (offK X Y c t k).set k (addR (gd [] Y k) (gd [] Y t) (divN (gd 0 (gd [] X k) c) (gd 0 (gd [] X t) c))) = offK X Y c t (k + 1) := gd_iff (d := []) (by rw [List.length_set, offK_len, offK_len]) fun i hi => by
  rw [List.length_set, offK_len] at hi
  rw [gd_set1, offK_len, offK_gd hi, offK_gd hi]
  by_cases e : k = i
  · subst e
    rw [if_pos ⟨rfl, hk⟩, if_neg (by intro hh; rcases hh with hh | hh | hh; exact h1 hh; omega; exact h2 hh)]
  · rw [if_neg (fun hh => e hh.1)]
    by_cases e2 : i = t ∨ k ≤ i ∨ gd 0 (gd [] X i) c = 0
    · rw [if_pos e2, if_pos (by rcases e2 with e2 | e2 | e2; exact .inl e2; exact .inr (.inl (by omega)); exact .inr (.inr e2))]
    · rw [if_neg e2, if_neg (by intro hh; rcases hh with hh | hh | hh; exact e2 (.inl hh); exact e2 (.inr (.inl (by omega))); exact e2 (.inr (.inr hh)))]
theorem offK_own {X Y : LL} {c t k : Nat} (hk : k < Y.length) : gd [] (offK X Y c t k) k = gd [] Y k := by rw [offK_gd hk, if_pos (.inr (.inl (Nat.le_refl _)))]
theorem offK_piv {X Y : LL} {c t k : Nat} (ht : t < Y.length) : gd [] (offK X Y c t k) t = gd [] Y t := by rw [offK_gd ht, if_pos (.inl rfl)]
theorem offK_rect {n m c t k : Nat} {X Y : LL} (h : Rect n m Y) : Rect n m (offK X Y c t k) := by
  refine ⟨by rw [offK_len, h.1], gd_all (d := []) fun i hi => ?_⟩
  rw [offK_len] at hi
  rw [offK_gd hi]
  split
  · exact (h.row (by rw [← h.1]; exact hi)).1
  · rw [addR_len]; exact (h.row (by rw [← h.1]; exact hi)).1
structure UdI (n m k : Nat) (X0 Y0 : LL) (c t i : Int) (X Y : LL) : Prop where
  lo : 0 ≤ i
  hi : i ≤ n
  rx0 : Rect n m X0
  ry0 : Rect n k Y0
  ht : 0 ≤ t ∧ t < n
  hc : 0 ≤ c ∧ c < m
  few : m ≤ 16 ∧ k ≤ 16
  x : X = offK X0 X0 c.toNat t.toNat i.toNat
  y : Y = offK X0 Y0 c.toNat t.toNat i.toNat
section
variable {n m k : Nat} {X0 Y0 : LL} {c t i : Int} {X Y : LL}
theorem UdI.start (h1 : Rect n m X0) (h2 : Rect n k Y0) (h3 : 0 ≤ t) (h4 : t < n) (h5 : 0 ≤ c) (h6 : c < m) (h7 : m ≤ 16) (h8 : k ≤ 16) : UdI n m k X0 Y0 c t 0 X0 Y0 := ⟨by omega, by omega, h1, h2, ⟨h3, h4⟩, ⟨h5, h6⟩, ⟨h7, h8⟩, offK_zero.symm, offK_zero.symm⟩
theorem UdI.len (h : UdI n m k X0 Y0 c t i X Y) : X.length = n ∧ Y.length = n := ⟨by rw [h.x, offK_len, h.rx0.1], by rw [h.y, offK_len, h.ry0.1]⟩
theorem UdI.rows (h : UdI n m k X0 Y0 c t i X Y) {j : Int} (h1 : 0 ≤ j) (h2 : j < n) : (gd [] X j.toNat).length = m ∧ (gd [] Y j.toNat).length = k := by
  have e1 : Rect n m X := by rw [h.x]; exact offK_rect h.rx0
  have e2 : Rect n k Y := by rw [h.y]; exact offK_rect h.ry0
  exact ⟨(e1.row (by omega)).1, (e2.row (by omega)).1⟩
theorem UdI.skip1 (h : UdI n m k X0 Y0 c t i X Y) (hi : i < n) (e : i = t) : UdI n m k X0 Y0 c t (i + 1) X Y := by
  have h0 := h.lo
  refine ⟨by omega, by omega, h.rx0, h.ry0, h.ht, h.hc, h.few, ?_, ?_⟩ <;> rw [show (i + 1).toNat = i.toNat + 1 by omega, offK_skip (.inl (by rw [e]))]
  · exact h.x
  · exact h.y
theorem UdI.skip2 (h : UdI n m k X0 Y0 c t i X Y) (hi : i < n) (e : gd 0 (gd [] X i.toNat) c.toNat = 0) : UdI n m k X0 Y0 c t (i + 1) X Y := by
  have h0 := h.lo
  rw [h.x, offK_own (by rw [h.rx0.1]; omega)] at e
  refine ⟨by omega, by omega, h.rx0, h.ry0, h.ht, h.hc, h.few, ?_, ?_⟩ <;> rw [show (i + 1).toNat = i.toNat + 1 by omega, offK_skip (.inr e)]
  · exact h.x
  · exact h.y
theorem UdI.step (h : UdI n m k X0 Y0 c t i X Y) (hi : i < n) (h1 : ¬ i = t) (h2 : ¬ gd 0 (gd [] X i.toNat) c.toNat = 0) : UdI n m k X0 Y0 c t (i + 1) (X.set i.toNat ((List.range (gd [] X i.toNat).length).map (fS (gd [] X i.toNat) (gd [] X t.toNat) (divN (gd 0 (gd [] X i.toNat) c.toNat) (gd 0 (gd [] X t.toNat) c.toNat))))) (Y.set i.toNat ((List.range (gd [] Y i.toNat).length).map (fS (gd [] Y i.toNat) (gd [] Y t.toNat) (divN (gd 0 (gd [] X i.toNat) c.toNat) (gd 0 (gd [] X t.toNat) c.toNat))))) := by
  have h0 := h.lo
  have ht := h.ht
  have lx := h.rx0.1
  have ly := h.ry0.1
  have e1 : gd [] X i.toNat = gd [] X0 i.toNat := by rw [h.x, offK_own (by omega)]
  have e2 : gd [] X t.toNat = gd [] X0 t.toNat := by rw [h.x, offK_piv (by omega)]
  have e3 : gd [] Y i.toNat = gd [] Y0 i.toNat := by rw [h.y, offK_own (by omega)]
  have e4 : gd [] Y t.toNat = gd [] Y0 t.toNat := by rw [h.y, offK_piv (by omega)]
  rw [e1] at h2
  rw [e1, e2, e3, e4]
  refine ⟨by omega, by omega, h.rx0, h.ry0, h.ht, h.hc, h.few, ?_, ?_⟩
  · rw [h.x, show (i + 1).toNat = i.toNat + 1 by omega]
    exact offK_step (X := X0) (Y := X0) (by omega) (by omega) h2
  · rw [h.y, show (i + 1).toNat = i.toNat + 1 by omega]
    exact offK_step (X := X0) (Y := Y0) (by omega) (by omega) h2
theorem UdI.fin (h : UdI n m k X0 Y0 c t i X Y) (hi : n ≤ i) : X = offR X0 X0 c.toNat t.toNat ∧ Y = offR X0 Y0 c.toNat t.toNat := by
  have lx := h.rx0.1
  have ly := h.ry0.1
  exact ⟨by rw [h.x, offK_end (by omega)], by rw [h.y, offK_end (by omega)]⟩
end
structure ReI (a mate : LL) (c : Int) (b : List Int) (u : List Bool) (X Y : LL) : Prop where
  lo : -1 ≤ c
  hi : c < (gd [] a 0).length
  m16 : (gd [] a 0).length ≤ 16
  k16 : (gd [] mate 0).length ≤ 16
  n16 : 0 < a.length ∧ a.length ≤ 16
  rx : Rect a.length (gd [] a 0).length X
  ry : Rect a.length (gd [] mate 0).length Y
  us : u.length = a.length
  bl : (b.length : Int) + c + 1 = (gd [] a 0).length
  eq : redGo (c + 1).toNat X Y u b = redL a mate
theorem ReI.start {a mate : LL} (h1 : mchk a = 0) (h2 : mchk mate = 0) (h3 : mate.length = a.length) : ReI a mate (((gd [] a 0).length : Int) - 1) [] (List.replicate a.length false) a mate := by
  have o1 := Okm.of h1
  have o2 := Okm.of h2
  refine ⟨by omega, by omega, o1.m16, o2.m16, ⟨o1.n0, o1.n16⟩, o1.rect, by rw [← h3]; exact o2.rect, by simp, by simp, ?_⟩
  rw [show (((gd [] a 0).length : Int) - 1 + 1).toNat = (gd [] a 0).length by omega]; rfl
section
variable {a mate : LL} {c : Int} {b : List Int} {u : List Bool} {X Y : LL}
theorem ReI.rows (h : ReI a mate c b u X Y) {j : Int} (h1 : 0 ≤ j) (h2 : j < a.length) : (gd [] X j.toNat).length = (gd [] a 0).length ∧ (gd [] Y j.toNat).length = (gd [] mate 0).length := ⟨(h.rx.row (by omega)).1, (h.ry.row (by omega)).1⟩
theorem ReI.len (h : ReI a mate c b u X Y) : X.length = a.length ∧ Y.length = a.length := ⟨h.rx.1, h.ry.1⟩
theorem ReI.neg (h : ReI a mate c b u X Y) (h0 : 0 ≤ c) {t : Int} (ht : t = lastR X u c.toNat a.length) (hn : t < 0) : ReI a mate (c - 1) ([t] ++ b) u X Y := by
  have := h.hi
  have := h.bl
  refine ⟨by omega, by omega, h.m16, h.k16, h.n16, h.rx, h.ry, h.us, by simp; omega, ?_⟩
  rw [← h.eq, show (c - 1 + 1).toNat = c.toNat by omega, show (c + 1).toNat = c.toNat + 1 by omega, redGo, h.rx.1, ← ht, if_pos hn]
  rfl
theorem ReI.pos (h : ReI a mate c b u X Y) (h0 : 0 ≤ c) {t : Int} (ht : t = lastR X u c.toNat a.length) (hn : ¬ t < 0) {X' Y' : LL} (hx : X' = offR X X c.toNat t.toNat) (hy : Y' = offR X Y c.toNat t.toNat) : ReI a mate (c - 1) ([t] ++ b) (u.set t.toNat true) X' Y' := by
  have := h.hi
  have := h.bl
  subst hx; subst hy
  refine ⟨by omega, by omega, h.m16, h.k16, h.n16, offR_rect h.rx, offR_rect h.ry, by simp [h.us], by simp; omega, ?_⟩
  rw [← h.eq, show (c - 1 + 1).toNat = c.toNat by omega, show (c + 1).toNat = c.toNat + 1 by omega, redGo, h.rx.1, ← ht, if_neg hn]
  rfl
theorem ReI.fin (h : ReI a mate c b u X Y) (h0 : c < 0) : (X, Y, b) = redL a mate := by
  rw [← h.eq, show (c + 1).toNat = 0 by have := h.lo; omega]; rfl
theorem ReI.ud (h : ReI a mate c b u X Y) (h0 : 0 ≤ c) {t : Int} (h1 : 0 ≤ t) (h2 : t < a.length) : UdI a.length (gd [] a 0).length (gd [] mate 0).length X Y c t 0 X Y := UdI.start h.rx h.ry h1 h2 h0 h.hi h.m16 h.k16
end
structure LaI (n : Nat) (X : LL) (u : List Bool) (c i t : Int) : Prop where
  lo : 0 ≤ i
  hi : i ≤ n
  eq : t = lastR X u c.toNat i.toNat
section
variable {n : Nat} {X : LL} {u : List Bool} {c i t : Int}
theorem LaI.start : LaI n X u c 0 (-1) := ⟨by omega, by omega, rfl⟩
theorem LaI.yes (h : LaI n X u c i t) (hi : i < n) (h1 : gd false u i.toNat = false) (h2 : ¬ gd 0 (gd [] X i.toNat) c.toNat = 0) : LaI n X u c (i + 1) i := by
  have h0 := h.lo
  refine ⟨by omega, by omega, ?_⟩
  rw [show (i + 1).toNat = i.toNat + 1 by omega, lastR, if_pos ⟨h1, h2⟩]; omega
theorem LaI.no (h : LaI n X u c i t) (hi : i < n) (h1 : gd false u i.toNat = true ∨ gd 0 (gd [] X i.toNat) c.toNat = 0) : LaI n X u c (i + 1) t := by
  have h0 := h.lo
  refine ⟨by omega, by omega, ?_⟩
  rw [show (i + 1).toNat = i.toNat + 1 by omega, lastR, if_neg (fun hh => by rcases h1 with e | e; rw [hh.1] at e; simp at e; exact hh.2 e)]; exact h.eq
theorem LaI.rng (h : LaI n X u c i t) : -1 ≤ t ∧ t < i ∨ t = -1 := by
  have : ∀ k : Nat, -1 ≤ lastR X u c.toNat k ∧ (lastR X u c.toNat k < k ∨ lastR X u c.toNat k = -1) := by
    intro k
    induction k with
    | zero => exact ⟨Int.le_refl _, .inr rfl⟩
    | succ k ih =>
      unfold lastR
      split
      · omega
      · omega
  have h1 := this i.toNat
  have h0 := h.lo
  rw [← h.eq] at h1
  omega
theorem LaI.fin (h : LaI n X u c i t) (hi : n ≤ i) : t = lastR X u c.toNat n := by
  have e := h.eq
  rw [show i.toNat = n by have := h.hi; omega] at e
  exact e
end
def i_64_77_0 (s0 : (List (List UInt8))) (i0 : Int) (K0 : (List (Row UInt8))) (A0 : (List (Nat × List UInt8))) (s : (List (List UInt8))) (i : Int) (K : (List (Row UInt8))) (A : (List (Nat × List UInt8))) : Prop := s0 = s ∧ CpI A0 s i K A
def i_64_2 (a : (List (List UInt8))) (mate : (List (List UInt8))) (i0 : Int) (t0 : Int) (c0 : Int) (X0 : (List (List UInt8))) (Y0 : (List (List UInt8))) (i : Int) (t : Int) (c : Int) (X : (List (List UInt8))) (Y : (List (List UInt8))) : Prop := (c0 = c ∧ t0 = t) ∧ UdI a.length (gd [] a 0).length (gd [] mate 0).length X0 Y0 c t i X Y
def i_64_1 (a : (List (List UInt8))) (i0 : Int) (t0 : Int) (c0 : Int) (u0 : (List Bool)) (X0 : (List (List UInt8))) (i : Int) (t : Int) (c : Int) (u : (List Bool)) (X : (List (List UInt8))) : Prop := (c0 = c ∧ X0 = X ∧ u0 = u) ∧ LaI a.length X u c i t
def i_64_0 (a : (List (List UInt8))) (mate : (List (List UInt8))) (c : Int) (b : (List Int)) (u : (List Bool)) (X : (List (List UInt8))) (Y : (List (List UInt8))) : Prop := ReI a mate c b u X Y
def k_64 : Con Tc Tc.dn := ⟨64, [.ty .llU8, .ty .llU8], fun x => (fun (a : (List (List UInt8))) (mate : (List (List UInt8))) => mchk a = 0 ∧ mchk mate = 0 ∧ mate.length = a.length) x.1 x.2.1, [.llU8, .llU8, .lInt], fun x => (fun (a : (List (List UInt8))) (mate : (List (List UInt8))) => redL a mate) x.1 x.2.1⟩
theorem k_64_v (a : (List (List UInt8))) (mate : (List (List UInt8))) (hp : mchk a = 0 ∧ mchk mate = 0 ∧ mate.length = a.length) : i_64_77_0 a (0 : Int) [] [] a (0 : Int) [] [] ∧ ∀ (x : List (List UInt8)) (x_1 : Int) (x_2 : List (Row UInt8)) (x_3 : List (Nat × List UInt8)), i_64_77_0 a (0 : Int) [] [] x x_1 x_2 x_3 → (x_1 < (↑x.length : Int) → ((0 : Int) ≤ x_1 ∧ x_1 < (↑x.length : Int)) ∧ ((0 : Nat) + (gd [] x x_1.toNat).length) * (1 : Nat) ≤ (140737488355328 : Nat) ∧ ∀ (id : Nat), ¬hasA x_3 id → (x_2.length + (1 : Nat)) * (24 : Nat) ≤ (140737488355328 : Nat) ∧ I64 (x_1 + (1 : Int)) ∧ i_64_77_0 a (0 : Int) [] [] x (x_1 + (1 : Int)) (x_2 ++ [Row.at UInt8 id ([] ++ gd [] x x_1.toNat).length]) ((id, [] ++ gd [] x x_1.toNat) :: x_3) ∧ ((↑x.length : Int) - (x_1 + (1 : Int))).toNat < ((↑x.length : Int) - x_1).toNat) ∧ ((↑x.length : Int) ≤ x_1 → i_64_77_0 mate (0 : Int) [] x_3 mate (0 : Int) [] x_3 ∧ ∀ (x : List (List UInt8)) (x_4 : Int) (x_5 : List (Row UInt8)) (x_6 : List (Nat × List UInt8)), i_64_77_0 mate (0 : Int) [] x_3 x x_4 x_5 x_6 → (x_4 < (↑x.length : Int) → ((0 : Int) ≤ x_4 ∧ x_4 < (↑x.length : Int)) ∧ ((0 : Nat) + (gd [] x x_4.toNat).length) * (1 : Nat) ≤ (140737488355328 : Nat) ∧ ∀ (id : Nat), ¬hasA x_6 id → (x_5.length + (1 : Nat)) * (24 : Nat) ≤ (140737488355328 : Nat) ∧ I64 (x_4 + (1 : Int)) ∧ i_64_77_0 mate (0 : Int) [] x_3 x (x_4 + (1 : Int)) (x_5 ++ [Row.at UInt8 id ([] ++ gd [] x x_4.toNat).length]) ((id, [] ++ gd [] x x_4.toNat) :: x_6) ∧ ((↑x.length : Int) - (x_4 + (1 : Int))).toNat < ((↑x.length : Int) - x_4).toNat) ∧ ((↑x.length : Int) ≤ x_4 → (∀ (x : Row UInt8), x ∈ x_2 → x.ok x_6 ∧ x.kd ≠ RK.nil) ∧ (∀ (x : Row UInt8), x ∈ x_5 → x.ok x_6 ∧ x.kd ≠ RK.nil) ∧ ((0 : Int) ≤ (↑a.length : Int) ∧ (↑a.length : Int) ≤ (↑a.length : Int) ∧ (↑a.length : Int) * (↑(1 : Nat) : Int) ≤ (140737488355328 : Int)) ∧ ((0 : Int) ≤ (0 : Int) ∧ (0 : Int) < (↑a.length : Int)) ∧ I64 ((↑(gd [] a (Int.toNat (0 : Int))).length : Int) - (1 : Int)) ∧ i_64_0 a mate ((↑(gd [] a (Int.toNat (0 : Int))).length : Int) - (1 : Int)) [] (List.replicate (↑a.length : Int).toNat false) (List.map (fun x => x.get x_6) x_2) (List.map (fun x => x.get x_6) x_5) ∧ ∀ (x : Int) (x_7 : List Int) (x_8 : List Bool) (x_9 x_10 : List (List UInt8)), i_64_0 a mate x x_7 x_8 x_9 x_10 → ((0 : Int) ≤ x → i_64_1 a (0 : Int) (-1 : Int) x x_8 x_9 (0 : Int) (-1 : Int) x x_8 x_9 ∧ ∀ (x_11 x_12 x_13 : Int) (x_14 : List Bool) (x_15 : List (List UInt8)), i_64_1 a (0 : Int) (-1 : Int) x x_8 x_9 x_11 x_12 x_13 x_14 x_15 → (x_11 < (↑a.length : Int) → ((0 : Int) ≤ x_11 ∧ x_11 < (↑x_14.length : Int)) ∧ x_11.toNat < x_14.length ∧ (gd false x_14 x_11.toNat = !true → gd false x_14 x_11.toNat = !true) ∧ (gd false x_14 x_11.toNat = !true → gd false x_14 x_11.toNat = !true) ∧ (gd false x_14 x_11.toNat = !true → (0 : Int) ≤ x_11 ∧ x_11 < (↑x_15.length : Int)) ∧ (gd false x_14 x_11.toNat = !true → gd false x_14 x_11.toNat = !true) ∧ (gd false x_14 x_11.toNat = !true → x_11.toNat < x_15.length) ∧ (gd false x_14 x_11.toNat = !true → gd false x_14 x_11.toNat = !true) ∧ (gd false x_14 x_11.toNat = !true → gd false x_14 x_11.toNat = !true) ∧ (gd false x_14 x_11.toNat = !true → (0 : Int) ≤ x_13 ∧ x_13 < (↑(gd [] x_15 x_11.toNat).length : Int)) ∧ (gd false x_14 x_11.toNat = !true → gd false x_14 x_11.toNat = !true) ∧ (gd false x_14 x_11.toNat = !true → gd false x_14 x_11.toNat = !true) ∧ (gd false x_14 x_11.toNat = !true → gd false x_14 x_11.toNat = !true) ∧ (gd false x_14 x_11.toNat = !true ∧ ¬gd (0 : UInt8) (gd [] x_15 x_11.toNat) x_13.toNat = UInt8.ofNat (Int.toNat (0 : Int)) → I64 (x_11 + (1 : Int)) ∧ i_64_1 a (0 : Int) (-1 : Int) x x_8 x_9 (x_11 + (1 : Int)) x_11 x_13 x_14 x_15 ∧ ((↑a.length : Int) - (x_11 + (1 : Int))).toNat < ((↑a.length : Int) - x_11).toNat) ∧ (gd false x_14 x_11.toNat = !false ∨ gd (0 : UInt8) (gd [] x_15 x_11.toNat) x_13.toNat = UInt8.ofNat (Int.toNat (0 : Int)) → I64 (x_11 + (1 : Int)) ∧ i_64_1 a (0 : Int) (-1 : Int) x x_8 x_9 (x_11 + (1 : Int)) x_12 x_13 x_14 x_15 ∧ ((↑a.length : Int) - (x_11 + (1 : Int))).toNat < ((↑a.length : Int) - x_11).toNat)) ∧ ((↑a.length : Int) ≤ x_11 → ((1 : Nat) + x_7.length) * (8 : Nat) ≤ (140737488355328 : Nat) ∧ (x_12 < (0 : Int) → I64 (x_13 - (1 : Int)) ∧ i_64_0 a mate (x_13 - (1 : Int)) ([x_12] ++ x_7) x_14 x_15 x_10 ∧ (x_13 - (1 : Int) + (1 : Int)).toNat < (x + (1 : Int)).toNat) ∧ ((0 : Int) ≤ x_12 → ((0 : Int) ≤ x_12 ∧ x_12 < (↑x_14.length : Int)) ∧ x_12.toNat < x_14.length ∧ i_64_2 a mate (0 : Int) x_12 x_13 x_15 x_10 (0 : Int) x_12 x_13 x_15 x_10 ∧ ∀ (x_16 x_17 x_18 : Int) (x_19 x_20 : List (List UInt8)), i_64_2 a mate (0 : Int) x_12 x_13 x_15 x_10 x_16 x_17 x_18 x_19 x_20 → (x_16 < (↑a.length : Int) → (¬x_16 = x_17 → ¬x_16 = x_17) ∧ (¬x_16 = x_17 → ¬x_16 = x_17) ∧ (¬x_16 = x_17 → (0 : Int) ≤ x_16 ∧ x_16 < (↑x_19.length : Int)) ∧ (¬x_16 = x_17 → ¬x_16 = x_17) ∧ (¬x_16 = x_17 → x_16.toNat < x_19.length) ∧ (¬x_16 = x_17 → ¬x_16 = x_17) ∧ (¬x_16 = x_17 → ¬x_16 = x_17) ∧ (¬x_16 = x_17 → (0 : Int) ≤ x_18 ∧ x_18 < (↑(gd [] x_19 x_16.toNat).length : Int)) ∧ (¬x_16 = x_17 → ¬x_16 = x_17) ∧ (¬x_16 = x_17 → ¬x_16 = x_17) ∧ (¬x_16 = x_17 → ¬x_16 = x_17) ∧ (x_16 = x_17 ∨ gd (0 : UInt8) (gd [] x_19 x_16.toNat) x_18.toNat = UInt8.ofNat (Int.toNat (0 : Int)) → I64 (x_16 + (1 : Int)) ∧ i_64_2 a mate (0 : Int) x_12 x_13 x_15 x_10 (x_16 + (1 : Int)) x_17 x_18 x_19 x_20 ∧ ((↑a.length : Int) - (x_16 + (1 : Int))).toNat < ((↑a.length : Int) - x_16).toNat) ∧ (¬x_16 = x_17 ∧ ¬gd (0 : UInt8) (gd [] x_19 x_16.toNat) x_18.toNat = UInt8.ofNat (Int.toNat (0 : Int)) → ((0 : Int) ≤ x_16 ∧ x_16 < (↑x_19.length : Int)) ∧ x_16.toNat < x_19.length ∧ ((0 : Int) ≤ x_18 ∧ x_18 < (↑(gd [] x_19 x_16.toNat).length : Int)) ∧ ((0 : Int) ≤ x_17 ∧ x_17 < (↑x_19.length : Int)) ∧ x_17.toNat < x_19.length ∧ ((0 : Int) ≤ x_18 ∧ x_18 < (↑(gd [] x_19 x_17.toNat).length : Int)) ∧ True ∧ ((0 : Int) ≤ x_16 ∧ x_16 < (↑x_19.length : Int)) ∧ x_16.toNat < x_19.length ∧ ((0 : Int) ≤ x_17 ∧ x_17 < (↑x_19.length : Int)) ∧ x_17.toNat < x_19.length ∧ ((gd [] x_19 x_16.toNat).length ≤ (gd [] x_19 x_17.toNat).length ∧ (gd [] x_19 x_16.toNat).length ≤ (1000000 : Nat)) ∧ ((0 : Int) ≤ x_16 ∧ x_16 < (↑x_19.length : Int)) ∧ x_16.toNat < x_19.length ∧ ((0 : Int) ≤ x_16 ∧ x_16 < (↑x_20.length : Int)) ∧ x_16.toNat < x_20.length ∧ ((0 : Int) ≤ x_17 ∧ x_17 < (↑x_20.length : Int)) ∧ x_17.toNat < x_20.length ∧ ((gd [] x_20 x_16.toNat).length ≤ (gd [] x_20 x_17.toNat).length ∧ (gd [] x_20 x_16.toNat).length ≤ (1000000 : Nat)) ∧ ((0 : Int) ≤ x_16 ∧ x_16 < (↑x_20.length : Int)) ∧ x_16.toNat < x_20.length ∧ I64 (x_16 + (1 : Int)) ∧ i_64_2 a mate (0 : Int) x_12 x_13 x_15 x_10 (x_16 + (1 : Int)) x_17 x_18 (x_19.set x_16.toNat (List.map (fS (gd [] x_19 x_16.toNat) (gd [] x_19 x_17.toNat) (divN (gd (0 : UInt8) (gd [] x_19 x_16.toNat) x_18.toNat) (gd (0 : UInt8) (gd [] x_19 x_17.toNat) x_18.toNat))) (List.range (gd [] x_19 x_16.toNat).length))) (x_20.set x_16.toNat (List.map (fS (gd [] x_20 x_16.toNat) (gd [] x_20 x_17.toNat) (divN (gd (0 : UInt8) (gd [] x_19 x_16.toNat) x_18.toNat) (gd (0 : UInt8) (gd [] x_19 x_17.toNat) x_18.toNat))) (List.range (gd [] x_20 x_16.toNat).length))) ∧ ((↑a.length : Int) - (x_16 + (1 : Int))).toNat < ((↑a.length : Int) - x_16).toNat)) ∧ ((↑a.length : Int) ≤ x_16 → I64 (x_18 - (1 : Int)) ∧ i_64_0 a mate (x_18 - (1 : Int)) ([x_12] ++ x_7) (x_14.set x_12.toNat true) x_19 x_20 ∧ (x_18 - (1 : Int) + (1 : Int)).toNat < (x + (1 : Int)).toNat)))) ∧ (x < (0 : Int) → (x_9, x_10, x_7) = redL a mate))) := by
  obtain ⟨p1, p2, p3⟩ := hp
  have o1 := Okm.of p1
  have o2 := Okm.of p2
  have b1 := o1.n16
  have b2 := o1.n0
  have b3 := o1.m16
  have b4 := o1.m0
  have b5 := o2.m16
  have b6 := o2.m0
  have r1 : ∀ j : Int, 0 ≤ j → j < a.length → (gd [] a j.toNat).length ≤ 16 := fun j h0 h1 => by rw [o1.rect.row (by omega)]; exact b3
  have r2 : ∀ j : Int, 0 ≤ j → j < mate.length → (gd [] mate j.toNat).length ≤ 16 := fun j h0 h1 => by rw [o2.rect.row (by omega)]; exact b5
  simp only [List.nil_append, Int.toNat_natCast, show UInt8.ofNat (Int.toNat 0) = 0 from rfl, show Int.toNat 0 = 0 from rfl, i_64_77_0, i_64_2, i_64_1, i_64_0, I64]
  refine ⟨⟨(by trivial), CpI.start b1⟩, fun s i K A hI => ?_⟩
  obtain ⟨e, hI⟩ := hI
  subst e
  have i0 := hI.lo
  have il := hI.len
  refine ⟨fun hlt => ?_, fun hge => ?_⟩
  focus
    have rr := r1 _ i0 hlt
    exact ⟨⟨i0, hlt⟩, by omega, fun id hid => ⟨by omega, by omega, ⟨(by trivial), hI.step hlt hid⟩, by omega⟩⟩
  refine ⟨⟨(by trivial), CpI.start (by omega)⟩, fun s j K5 A6 hJ => ?_⟩
  obtain ⟨e, hJ⟩ := hJ
  subst e
  have j0 := hJ.lo
  have jl := hJ.len
  refine ⟨fun hlt => ?_, fun hge2 => ?_⟩
  focus
    have rr := r2 _ j0 hlt
    exact ⟨⟨j0, hlt⟩, by omega, fun id hid => ⟨by omega, by omega, ⟨(by trivial), hJ.step hlt hid⟩, by omega⟩⟩
  obtain ⟨⟨k1, k2⟩, k3, k4⟩ := cp_end hI hge hJ hge2
  rw [k3, k4]
  clear hI hJ k3 k4 i0 j0 il jl
  refine ⟨k1, k2, by omega, by omega, by omega, ReI.start p1 p2 p3, fun c b u X Y hR => ?_⟩
  refine ⟨fun hc => ?_, fun hc => hR.fin hc⟩
  have rb := hR.bl
  have ru := hR.us
  have rl := hR.len
  have rh := hR.hi
  refine ⟨⟨⟨(by trivial), (by trivial), (by trivial)⟩, LaI.start⟩, fun i2 t c2 u2 X2 hL => ?_⟩
  obtain ⟨⟨e1, e2, e3⟩, hL⟩ := hL
  subst e1; subst e2; subst e3
  have l0 := hL.lo
  refine ⟨fun hlt => ?_, fun hge3 => ?_⟩
  focus
    have hr := hR.rows l0 hlt
    refine ⟨by omega, by omega, (by first | exact fun h => h | trivial), (by first | exact fun h => h | trivial), fun _ => by omega, (by first | exact fun h => h | trivial), fun _ => by omega, (by first | exact fun h => h | trivial), (by first | exact fun h => h | trivial), fun _ => by omega, (by first | exact fun h => h | trivial), (by first | exact fun h => h | trivial), (by first | exact fun h => h | trivial), fun hh => ⟨by omega, ⟨⟨(by trivial), (by trivial), (by trivial)⟩, hL.yes hlt (by simpa using hh.1) hh.2⟩, by omega⟩, fun hh => ⟨by omega, ⟨⟨(by trivial), (by trivial), (by trivial)⟩, hL.no hlt (by simpa using hh)⟩, by omega⟩⟩
  have ht := hL.fin hge3
  have hg := hL.rng
  have hi3 := hL.hi
  refine ⟨by omega, fun hn => ⟨by omega, hR.neg hc ht hn, by omega⟩, fun hp => ?_⟩
  have htl : t < a.length := by omega
  refine ⟨by omega, by omega, ⟨⟨(by trivial), (by trivial)⟩, hR.ud hc hp htl⟩, fun i3 t3 c3 X3 Y3 hU => ?_⟩
  obtain ⟨⟨e1, e2⟩, hU⟩ := hU
  subst e1; subst e2
  have u0 := hU.lo
  have ul := hU.len
  refine ⟨fun hlt => ?_, fun hge4 => ?_⟩
  focus
    have q1 := hU.rows u0 hlt
    have q2 := hU.rows hp htl
    refine ⟨(by first | exact fun h => h | trivial), (by first | exact fun h => h | trivial), fun _ => by omega, (by first | exact fun h => h | trivial), fun _ => by omega, (by first | exact fun h => h | trivial), (by first | exact fun h => h | trivial), fun _ => by omega, (by first | exact fun h => h | trivial), (by first | exact fun h => h | trivial), (by first | exact fun h => h | trivial), fun hh => ⟨by omega, ⟨⟨(by trivial), (by trivial)⟩, hh.elim (hU.skip1 hlt) (hU.skip2 hlt)⟩, by omega⟩, fun hh => ?_⟩
    exact ⟨by omega, by omega, by omega, by omega, by omega, by omega, trivial, by omega, by omega, by omega, by omega, by omega, by omega, by omega, by omega, by omega, by omega, by omega, by omega, by omega, by omega, by omega, ⟨⟨(by trivial), (by trivial)⟩, hU.step hlt hh.1 hh.2⟩, by omega⟩
  obtain ⟨v1, v2⟩ := hU.fin hge4
  exact ⟨by omega, hR.pos hc ht (by omega) v1 v2, by omega⟩
def l_64 : PD Tc.dn k_64.ps → List (IL Tc Tc.dn) := fun x => (fun (a : (List (List UInt8))) (mate : (List (List UInt8))) => ([⟨77, .fn F77 (fun k => bif Nat.beq k 0 then some (.inv [.sl 0 .llU8, .sl 4 .cInt, .ow 3 .rU8, .ar .cU8] (fun zo zv => (fun (s0 : (List (List UInt8))) (i0 : Int) (K0 : (List (Row UInt8))) (A0 : (List (Nat × List UInt8))) (s : (List (List UInt8))) (i : Int) (K : (List (Row UInt8))) (A : (List (Nat × List UInt8))) => i_64_77_0 s0 i0 K0 A0 s i K A) zo.1 zo.2.1 zo.2.2.1 zo.2.2.2.1 zv.1 zv.2.1 zv.2.2.1 zv.2.2.2.1) (fun zo zv => (fun (s0 : (List (List UInt8))) (i0 : Int) (K0 : (List (Row UInt8))) (A0 : (List (Nat × List UInt8))) (s : (List (List UInt8))) (i : Int) (K : (List (Row UInt8))) (A : (List (Nat × List UInt8))) => ((s.length : Int) - i).toNat) zo.1 zo.2.1 zo.2.2.1 zo.2.2.2.1 zv.1 zv.2.1 zv.2.2.1 zv.2.2.2.1)) else none), none⟩])) x.1 x.2.1
theorem l_64_ok : ∀ x, ILs Try.prog tD (l_64 x) := fun _ => ⟨⟨F77_ok, F77_call⟩, trivial⟩
theorem k_64_ok : k_64.Ok Try.prog tD := con_ok tD_ok (Δ := [k_60, k_65]) ⟨k_60_ok, k_65_ok, trivial⟩ (Ω := []) trivial k_64 F64_ok F64_call (l_64) (l_64_ok) 3 (fun x => (fun (a : (List (List UInt8))) (mate : (List (List UInt8))) => (fun k => bif Nat.beq k 0 then some (.inv [.sl 12 .cInt, .ow 11 .cInt, .bl 3 .cBool, .bl 1 .lU8, .bl 2 .lU8] (fun zo zv => (fun (c : Int) (b : (List Int)) (u : (List Bool)) (X : (List (List UInt8))) (Y : (List (List UInt8))) => i_64_0 a mate c b u X Y) zv.1 zv.2.1 zv.2.2.1 zv.2.2.2.1 zv.2.2.2.2.1) (fun zo zv => (fun (c : Int) (b : (List Int)) (u : (List Bool)) (X : (List (List UInt8))) (Y : (List (List UInt8))) => (c + 1).toNat) zv.1 zv.2.1 zv.2.2.1 zv.2.2.2.1 zv.2.2.2.2.1)) else bif Nat.beq k 1 then some (.inv [.sl 14 .cInt, .sl 13 .cInt, .sl 12 .cInt, .bl 3 .cBool, .bl 1 .lU8] (fun zo zv => (fun (i0 : Int) (t0 : Int) (c0 : Int) (u0 : (List Bool)) (X0 : (List (List UInt8))) (i : Int) (t : Int) (c : Int) (u : (List Bool)) (X : (List (List UInt8))) => i_64_1 a i0 t0 c0 u0 X0 i t c u X) zo.1 zo.2.1 zo.2.2.1 zo.2.2.2.1 zo.2.2.2.2.1 zv.1 zv.2.1 zv.2.2.1 zv.2.2.2.1 zv.2.2.2.2.1) (fun zo zv => (fun (i0 : Int) (t0 : Int) (c0 : Int) (u0 : (List Bool)) (X0 : (List (List UInt8))) (i : Int) (t : Int) (c : Int) (u : (List Bool)) (X : (List (List UInt8))) => ((a.length : Int) - i).toNat) zo.1 zo.2.1 zo.2.2.1 zo.2.2.2.1 zo.2.2.2.2.1 zv.1 zv.2.1 zv.2.2.1 zv.2.2.2.1 zv.2.2.2.2.1)) else bif Nat.beq k 2 then some (.inv [.sl 15 .cInt, .sl 13 .cInt, .sl 12 .cInt, .bl 1 .lU8, .bl 2 .lU8] (fun zo zv => (fun (i0 : Int) (t0 : Int) (c0 : Int) (X0 : (List (List UInt8))) (Y0 : (List (List UInt8))) (i : Int) (t : Int) (c : Int) (X : (List (List UInt8))) (Y : (List (List UInt8))) => i_64_2 a mate i0 t0 c0 X0 Y0 i t c X Y) zo.1 zo.2.1 zo.2.2.1 zo.2.2.2.1 zo.2.2.2.2.1 zv.1 zv.2.1 zv.2.2.1 zv.2.2.2.1 zv.2.2.2.2.1) (fun zo zv => (fun (i0 : Int) (t0 : Int) (c0 : Int) (X0 : (List (List UInt8))) (Y0 : (List (List UInt8))) (i : Int) (t : Int) (c : Int) (X : (List (List UInt8))) (Y : (List (List UInt8))) => ((a.length : Int) - i).toNat) zo.1 zo.2.1 zo.2.2.1 zo.2.2.2.1 zo.2.2.2.2.1 zv.1 zv.2.1 zv.2.2.1 zv.2.2.2.1 zv.2.2.2.2.1)) else bif Nat.beq k 1025 then some (.frz [8, 9, 5000]) else none)) x.1 x.2.1) fun x hp => Eq.mp (by kernel_rfl) (k_64_v x.1 x.2.1 hp)
open Go.RowKit
open Go.RowKit
theorem fillB_eq {a : List (List UInt8)} {n : Nat} (h : Okm a n n) : fillL n (2 * (n : Int)) (fB a n) = bothL a n := by
  have e : (2 * (n : Int)) = ((n + n : Nat) : Int) := by omega
  rw [e]
  refine rect_eq fill_rectN (bothL_rect h.rect) fun i j hi hj => ?_
  rw [mx_fill (by omega) (by omega), bothL_mx h.rect hi]
  unfold fB bothM unitM
  by_cases hj2 : j < n
  · rw [if_pos hj2, if_pos hj2]; rfl
  · rw [if_neg hj2, if_neg hj2]
    by_cases e2 : j - n = i
    · rw [if_pos e2, if_pos e2.symm]
    · rw [if_neg e2, if_neg fun e3 => e2 e3.symm]
theorem inv_ok {a : List (List UInt8)} {n : Nat} (h : Okm a n n) : ∃ r, RankIs n n (mxL a) r ∧ ((r < n ∧ invL a = ([], 5)) ∨ (r = n ∧ ∃ x, invL a = (x, 0) ∧ Okm x n n ∧ rawL x a = fillL n n fU ∧ rawL a x = fillL n n fU)) := by
  obtain ⟨k1, k2, k3⟩ := clr_inv h.rect h.n0
  have e1 : clI a = clrL n (bothL a n) 0 0 := by unfold clI; rw [h.len, fillB_eq h]
  have hle := k2.le.1
  refine ⟨_, k2, ?_⟩
  have hinv : invL a = if (clI a).2 < a.length then ([], 5) else (fillL a.length a.length (fI (clI a).1 a.length), 0) := by
    unfold invL; rw [if_neg (by rw [h.chk]; simp), if_neg (by rw [h.len, h.wid]; simp)]
  rw [hinv, e1, h.len]
  by_cases hr : (clrL n (bothL a n) 0 0).2 < n
  · left; exact ⟨hr, by rw [if_pos hr]⟩
  · right
    have hrn : (clrL n (bothL a n) 0 0).2 = n := by omega
    obtain ⟨q1, q2⟩ := k1 hrn
    have hx : Okm (fillL n n (fI (clrL n (bothL a n) 0 0).1 n)) n n := Okm.fill h.n0 h.n16 h.n0 h.n16
    have hu := (unit_ok h.n0 h.n16).2
    have hm : ∀ i j, i < n → j < n → mxL (fillL n n (fI (clrL n (bothL a n) 0 0).1 n)) i j = mxL (clrL n (bothL a n) 0 0).1 i (n + j) := fun i j hi hj => mx_fill (by omega) (by omega)
    refine ⟨hrn, _, by rw [if_neg hr], hx, ?_, ?_⟩
    · refine rect_eq (hx.raw h).rect hu.rect fun i j hi hj => ?_
      rw [raw_mx hx.rect h.rect h.n0 hi hj, unit_mx hi hj, ← q1 i j hi hj]
      exact mm_congr (fun t ht => hm i t hi ht) fun t _ => rfl
    · refine rect_eq (h.raw hx).rect hu.rect fun i j hi hj => ?_
      rw [raw_mx h.rect hx.rect h.n0 hi hj, unit_mx hi hj, ← q2 i j hi hj]
      exact mm_congr (fun t _ => rfl) fun t ht => hm t j ht hj
theorem inv_is {a x : List (List UInt8)} {n : Nat} (h : Okm a n n) (hx : Okm x n n) (he : rawL x a = fillL n n fU) : invL a = (x, 0) := by
  have hX : ∀ i j, i < n → j < n → mm n (mxL x) (mxL a) i j = unitM i j := fun i j hi hj => by rw [← raw_mx hx.rect h.rect h.n0 hi hj, he, unit_mx hi hj]
  obtain ⟨r, hr, ⟨h1, _⟩ | ⟨_, y, e1, hy, _, e3⟩⟩ := inv_ok h
  · exact absurd (inv_rank hX hr) (by omega)
  · rw [e1]
    have hY : ∀ i j, i < n → j < n → mm n (mxL a) (mxL y) i j = unitM i j := fun i j hi hj => by rw [← raw_mx h.rect hy.rect h.n0 hi hj, e3, unit_mx hi hj]
    rw [rect_eq hx.rect hy.rect fun i j hi hj => inv_uniq hX hY i j hi hj]
structure ByI (m c : Nat) (by_ : List Int) (p : List (Nat × Nat)) : Prop where
  len : by_.length + c = m
  mem : ∀ k, k < by_.length → 0 ≤ gd 0 by_ k → ((gd 0 by_ k).toNat, c + k) ∈ p
theorem gd_cons {α : Type} {d x : α} {l : List α} {k : Nat} : gd d (x :: l) k = if k = 0 then x else gd d l (k - 1) := by
  cases k with
  | zero => rfl
  | succ k => rw [if_neg (by omega)]; rfl
theorem ByI.neg {m c : Nat} {by_ : List Int} {p : List (Nat × Nat)} {x : Int} (h : ByI m (c + 1) by_ p) (hx : x < 0) : ByI m c (x :: by_) p := ⟨by have := h.len; simp; omega, fun k hk h0 => by
  rw [gd_cons] at h0 ⊢
  by_cases e : k = 0
  · rw [if_pos e] at h0; omega
  · rw [if_neg e] at h0 ⊢
    have := h.mem (k - 1) (by simp at hk; omega) h0
    rw [show c + 1 + (k - 1) = c + k by omega] at this
    exact this⟩
theorem ByI.pos {m c : Nat} {by_ : List Int} {p : List (Nat × Nat)} {x : Int} (h : ByI m (c + 1) by_ p) : ByI m c (x :: by_) ((x.toNat, c) :: p) := ⟨by have := h.len; simp; omega, fun k hk h0 => by
  rw [gd_cons] at h0 ⊢
  by_cases e : k = 0
  · subst e; rw [if_pos rfl]; exact List.mem_cons_self ..
  · rw [if_neg e] at h0 ⊢
    have := h.mem (k - 1) (by simp at hk; omega) h0
    rw [show c + 1 + (k - 1) = c + k by omega] at this
    exact List.mem_cons_of_mem _ this⟩
def Bo (n : Nat) (A M X Y : Mx) : Prop := ∃ P : Mx, (∀ i j, i < n → X i j = mm n P A i j) ∧ ∀ i j, i < n → Y i j = mm n P M i j
theorem Bo.start (n : Nat) (A M : Mx) : Bo n A M A M := ⟨unitM, fun i j h => (unit_mm A h).symm, fun i j h => (unit_mm M h).symm⟩
theorem elim_congr {n d : Nat} {w : Nat → UInt8} {R R' : Mx} (h : ∀ i j, i < n → R i j = R' i j) (hd : d < n) : ∀ i j, i < n → elimM w d R i j = elimM w d R' i j := fun i j hi => by
  unfold elimM
  rw [h i j hi, h d j hd]
theorem Bo.elim {n d : Nat} {w : Nat → UInt8} {A M X Y X' Y' : Mx} (h : Bo n A M X Y) (hd : d < n) (hX : ∀ i j, i < n → X' i j = elimM w d X i j) (hY : ∀ i j, i < n → Y' i j = elimM w d Y i j) : Bo n A M X' Y' := by
  obtain ⟨P, h1, h2⟩ := h
  exact ⟨elimM w d P, fun i j hi => by rw [hX i j hi, elim_congr h1 hd i j hi, mm_elim], fun i j hi => by rw [hY i j hi, elim_congr h2 hd i j hi, mm_elim]⟩
theorem red_mate {n m k : Nat} {A M : Mx} : ∀ (c : Nat) (X Y : List (List UInt8)) (used : List Bool) (by_ : List Int) (p : List (Nat × Nat)), c ≤ m → Rect n m X → Rect n k Y → Bo n A M (mxL X) (mxL Y) → Rd n m (mxL X) c p → UsI n m c used by_ p → ByI m c by_ p →
    ∃ p', Rect n m (redGo c X Y used by_).1 ∧ Rect n k (redGo c X Y used by_).2.1 ∧ Bo n A M (mxL (redGo c X Y used by_).1) (mxL (redGo c X Y used by_).2.1) ∧ Rd n m (mxL (redGo c X Y used by_).1) 0 p' ∧ ByI m 0 (redGo c X Y used by_).2.2 p'
  | 0, X, Y, used, by_, p, _, h1, h2, h3, h4, _, h5 => ⟨p, h1, h2, h3, h4, h5⟩
  | c + 1, X, Y, used, by_, p, hc, h1, h2, h3, h4, hu, h5 => by
    unfold redGo
    by_cases hn : lastR X used c X.length < 0
    · rw [if_pos hn]
      refine red_mate c X Y used _ p (by omega) h1 h2 h3 (h4.none fun i hi hni => lastR_neg hn i (by rw [h1.1]; exact hi) ((hu.us i hi).2 hni)) ⟨hu.len, hu.us, ?_⟩ (h5.neg hn)
      rw [List.filter_cons_of_neg (by simp; omega)]; exact hu.cnt
    · rw [if_neg hn]
      obtain ⟨q1, q2, q3⟩ := lastR_pos hn
      generalize hL : lastR X used c X.length = L at q1 q2 q3 hn ⊢
      have ht : L.toNat < n := by rw [← h1.1]; exact q1
      have e : ∀ i j, i < n → mxL (offR X X c L.toNat) i j = elimM (fun i => gmul (mxL X i c) (ginv (mxL X L.toNat c))) L.toNat (mxL X) i j := fun i j hi => offR_mx h1 ht q3 hi j
      have e' : ∀ i j, i < n → mxL (offR X Y c L.toNat) i j = elimM (fun i => gmul (mxL X i c) (ginv (mxL X L.toNat c))) L.toNat (mxL Y) i j := fun i j hi => offR_mx h2 ht q3 hi j
      have hnu : ¬ L.toNat ∈ p.map Prod.fst := (hu.us _ ht).1 q2
      have r := h4.some (by omega) ht hnu q3
      have r2 : Rd n m (mxL (offR X X c L.toNat)) c ((L.toNat, c) :: p) :=
        ⟨fun q hq => by
          obtain ⟨k1, k2, k3, k4, k5⟩ := r.piv q hq
          exact ⟨k1, k2, k3, by rw [e _ _ k1]; exact k4, fun i hi hne => by rw [e i _ hi]; exact k5 i hi hne⟩, r.nd, fun i hi hni j j1 j2 => by rw [e i j hi]; exact r.zero i hi hni j j1 j2⟩
      refine red_mate c _ _ _ _ ((L.toNat, c) :: p) (by omega) (offR_rect h1) (offR_rect h2) (h3.elim ht e e') r2 ⟨by simp [hu.len], fun i hi => ?_, ?_⟩ h5.pos
      · rw [gd_set2 (by rw [hu.len]; exact ht), List.map_cons, List.mem_cons]
        by_cases ei : L.toNat = i
        · rw [if_pos ei]
          constructor
          · intro hh; simp at hh
          · intro hh; exact absurd (.inl ei.symm) hh
        · rw [if_neg ei, hu.us i hi]
          constructor
          · intro hh h5; rcases h5 with h5 | h5
            · exact ei h5.symm
            · exact hh h5
          · intro hh h5; exact hh (.inr h5)
      · rw [List.filter_cons_of_pos (by simp; omega), List.length_cons, List.length_cons, hu.cnt]
theorem red_row {n c r : Nat} {A X Y : Mx} {p : List (Nat × Nat)} (hb : Bo n A unitM X Y) (h : Rd n n X 0 p) (hall : ∀ q, q < n → ∃ t, (t, q) ∈ p) (hp : (r, c) ∈ p) (hc : c < n) (j : Nat) (hj : j < n) :
    sg n (fun t => gmul (gmul (ginv (X r c)) (Y r t)) (A t j)) = unitM c j := by
  obtain ⟨P, h1, h2⟩ := hb
  obtain ⟨q1, q2, q3, q4, q5⟩ := h.piv _ hp
  have e1 : sg n (fun t => gmul (gmul (ginv (X r c)) (Y r t)) (A t j)) = gmul (ginv (X r c)) (X r j) := by
    rw [h1 r j q1]
    unfold mm
    rw [← sg_mul]
    refine sg_congr fun t ht => ?_
    rw [gmul_assoc, h2 r t q1, mm_unit _ ht]
  rw [e1]
  unfold unitM
  by_cases e : c = j
  · subst e; rw [if_pos rfl, ginv_mul _ q4]
  · rw [if_neg e]
    obtain ⟨t, ht⟩ := hall j hj
    obtain ⟨k1, k2, k3, k4, k5⟩ := h.piv _ ht
    have hne : r ≠ t := fun e2 => by
      subst e2
      have key : ∀ l : List (Nat × Nat), (l.map Prod.fst).Nodup → (r, c) ∈ l → (r, j) ∈ l → c = j := by
        intro l
        induction l with
        | nil => intro _ hh; simp at hh
        | cons a l ih =>
          intro hnd h1 h2
          rw [List.map_cons, List.nodup_cons] at hnd
          rcases List.mem_cons.1 h1 with e1 | e1 <;> rcases List.mem_cons.1 h2 with e2 | e2
          · rw [← e1] at e2; exact (Prod.mk.inj e2).2.symm
          · exact absurd (List.mem_map.2 ⟨_, e2, by rw [← e1]⟩) hnd.1
          · exact absurd (List.mem_map.2 ⟨_, e1, by rw [← e2]⟩) hnd.1
          · exact ih hnd.2 e1 e2
      exact e (key p h.nd hp ht)
    rw [k5 r q1 hne, gmul_zero]
open Go.RowKit
theorem red_start {n m : Nat} {X : Mx} : UsI n m m (List.replicate n false) [] [] := ⟨by simp, fun i hi => by simp [gd, List.getElem?_replicate, hi], rfl⟩
theorem red_rank {a mate : LL} {n m : Nat} (h : Okm a n m) : Rect n m (redL a mate).1 ∧ RankIs n m (mxL a) ((redL a mate).2.2.filter fun x => decide (0 ≤ x)).length := by
  unfold redL
  rw [h.wid, h.len]
  obtain ⟨p, h1, h2, h3, h4⟩ := red_law (A := mxL a) m a mate (List.replicate n false) [] [] (Nat.le_refl _) h.rect (RE.refl n _) (Rd.start n m _) (red_start (X := mxL a))
  exact ⟨h1, by rw [h4]; exact h3.rank h2⟩
structure CtI (b : List Int) (c k : Int) : Prop where
  lo : 0 ≤ c
  hi : c ≤ b.length
  eq : k = (((b.take c.toNat).filter fun x => decide (0 ≤ x)).length : Int)
theorem CtI.start {b : List Int} : CtI b 0 0 := ⟨by omega, by omega, rfl⟩
def unU (a : LL) : LL := fillL a.length a.length fU
def rdA (a : LL) : LL × LL × List Int := redL a (unU a)
def byA (a : LL) (c : Nat) : Int := gd 0 (rdA a).2.2 c
def invR (a : LL) (c : Nat) : List UInt8 := (List.range (List.replicate a.length (0 : UInt8)).length).map (fS (List.replicate a.length 0) (gd [] (rdA a).2.1 (byA a c).toNat) (divN 1 (gd 0 (gd [] (rdA a).1 (byA a c).toNat) c)))
structure SqI (a : LL) : Prop where
  chk : mchk a = 0
  sq : a.length = (gd [] a 0).length
theorem SqI.ok {a : LL} (h : SqI a) : Okm a a.length a.length := by have := Okm.of h.chk; rwa [← h.sq] at this
theorem unU_ok {a : LL} (h : mchk a = 0) : mchk (unU a) = 0 ∧ (unU a).length = a.length := by
  have ho := Okm.of h
  have := (unit_ok ho.n0 ho.n16).2
  exact ⟨this.chk, this.len⟩
theorem rdA_law {a : LL} (h : SqI a) : ∃ p, Rect a.length a.length (rdA a).1 ∧ Rect a.length a.length (rdA a).2.1 ∧ Bo a.length (mxL a) unitM (mxL (rdA a).1) (mxL (rdA a).2.1) ∧ Rd a.length a.length (mxL (rdA a).1) 0 p ∧ ByI a.length 0 (rdA a).2.2 p := by
  have ho := h.ok
  have hu := (unit_ok ho.n0 ho.n16).2
  obtain ⟨p, h1, h2, ⟨P, h3, h4⟩, h5, h6⟩ := red_mate (A := mxL a) (M := mxL (unU a)) a.length a (unU a) (List.replicate a.length false) [] [] (Nat.le_refl _) ho.rect hu.rect (Bo.start _ _ _) (Rd.start _ _ _) (red_start (X := mxL a)) ⟨by simp, fun k hk => by simp at hk⟩
  have e : rdA a = redGo a.length a (unU a) (List.replicate a.length false) [] := by unfold rdA redL; rw [← h.sq]
  rw [← e] at h1 h2 h3 h4 h5 h6
  refine ⟨p, h1, h2, ⟨P, h3, fun i j hi => ?_⟩, h5, h6⟩
  rw [h4 i j hi]
  refine mm_congr (fun _ _ => rfl) fun t ht => ?_
  by_cases hj : j < a.length
  · exact unit_mx ht hj
  · unfold unitM
    rw [if_neg (by omega)]
    unfold mxL
    have : (gd [] (unU a) t).length = a.length := hu.rect.row ht
    unfold gd
    rw [List.getElem?_eq_none (by unfold gd at this; omega)]; rfl
theorem SqI.rows {a : LL} (h : SqI a) : (rdA a).1.length = a.length ∧ (rdA a).2.1.length = a.length ∧ (rdA a).2.2.length = a.length ∧ ∀ c : Int, 0 ≤ c → c < a.length → byA a c.toNat < a.length ∧ (0 ≤ byA a c.toNat → (gd [] (rdA a).1 (byA a c.toNat).toNat).length = a.length ∧ (gd [] (rdA a).2.1 (byA a c.toNat).toNat).length = a.length) := by
  obtain ⟨p, h1, h2, h3, h4, h5⟩ := rdA_law h
  have hl := h5.len
  refine ⟨h1.1, h2.1, by omega, fun c h0 hc => ?_⟩
  have key : 0 ≤ byA a c.toNat → (byA a c.toNat).toNat < a.length := fun hg => (h4.piv _ (h5.mem c.toNat (by omega) hg)).1
  have hn := h.ok.n0
  refine ⟨?_, fun hg => ?_⟩
  · by_cases hg : 0 ≤ byA a c.toNat
    · have := key hg; omega
    · omega
  · exact ⟨(h1.row (key hg)).1, (h2.row (key hg)).1⟩
theorem mx_inv {a : LL} {c j : Nat} (hj : j < a.length) (hz : ¬ mxL (rdA a).1 (byA a c).toNat c = 0) : gd 0 (invR a c) j = gmul (ginv (mxL (rdA a).1 (byA a c).toNat c)) (mxL (rdA a).2.1 (byA a c).toNat j) := by
  unfold invR
  rw [List.length_replicate]
  show ((List.map _ _)[j]?).getD 0 = _
  rw [List.getElem?_map, List.getElem?_range hj]
  show fS _ _ _ _ = _
  unfold fS
  have e : gd 0 (List.replicate a.length (0 : UInt8)) j = 0 := by unfold gd; rw [List.getElem?_replicate, if_pos hj]; rfl
  rw [e, UInt8.zero_xor, gmul_comm]
  congr 1
  unfold divN
  unfold mxL at hz ⊢
  rw [if_neg hz, one_gmul]
structure InI (a : LL) (c : Int) (out : LL) : Prop where
  sq : SqI a
  lo : 0 ≤ c
  hi : c ≤ a.length
  eq : out = (List.range c.toNat).map (invR a)
  pos : ∀ k, k < c.toNat → 0 ≤ byA a k
theorem InI.start {a : LL} (h : SqI a) : InI a 0 [] := ⟨h, by omega, by omega, rfl, fun k hk => by simp at hk⟩
theorem InI.len {a : LL} {c : Int} {out : LL} (h : InI a c out) : (out.length : Int) = c := by rw [h.eq]; have := h.lo; simp; omega
theorem InI.step {a : LL} {c : Int} {out : LL} (h : InI a c out) (hc : c < a.length) (hp : 0 ≤ byA a c.toNat) : InI a (c + 1) (out ++ [invR a c.toNat]) := by
  have h0 := h.lo
  refine ⟨h.sq, by omega, by omega, ?_, fun k hk => ?_⟩
  · rw [show (c + 1).toNat = c.toNat + 1 by omega, List.range_succ, List.map_append, ← h.eq]; rfl
  · by_cases e : k = c.toNat
    · subst e; exact hp
    · exact h.pos k (by omega)
theorem InI.fin {a : LL} {c : Int} {out : LL} (h : InI a c out) (hc : a.length ≤ c) : (out, (0 : Int)) = invL a := by
  have hi := h.hi
  have ho := h.sq.ok
  obtain ⟨p, h1, h2, h3, h4, h5⟩ := rdA_law h.sq
  have hl := h5.len
  have hn : c.toNat = a.length := by omega
  have hx : Okm out a.length a.length := by
    refine ⟨⟨by rw [h.eq]; simp; omega, fun r hr => ?_⟩, ho.n0, ho.n16, ho.n0, ho.n16⟩
    rw [h.eq] at hr
    obtain ⟨k, _, rfl⟩ := List.mem_map.1 hr
    simp [invR]
  have hm : ∀ k, k < a.length → (((byA a k).toNat, k) : Nat × Nat) ∈ p := fun k hk => by
    have := h5.mem k (by omega) (h.pos k (by omega))
    rw [Nat.zero_add] at this; exact this
  refine (inv_is ho hx ?_).symm
  refine rect_eq (hx.raw ho).rect (unit_ok ho.n0 ho.n16).2.rect fun i j hi hj => ?_
  rw [raw_mx hx.rect ho.rect ho.n0 hi hj, unit_mx hi hj, ← red_row h3 h4 (fun q hq => ⟨_, hm q hq⟩) (hm i hi) hi j hj]
  refine sg_congr fun t ht => ?_
  congr 1
  have : gd [] out i = invR a i := by
    rw [h.eq]
    show ((List.map _ _)[i]?).getD [] = _
    rw [List.getElem?_map, List.getElem?_range (by omega)]; rfl
  unfold mxL
  rw [this, mx_inv ht (h4.piv _ (hm i hi)).2.2.2.1]
  rfl
theorem InI.neg {a : LL} {c : Int} {out : LL} (h : InI a c out) (hc : c < a.length) (hn : byA a c.toNat < 0) : (([] : LL), (5 : Int)) = invL a := by
  have h0 := h.lo
  have ho := h.sq.ok
  obtain ⟨p, _, _, _, _, h5⟩ := rdA_law h.sq
  have hl := h5.len
  have hr := (red_rank (mate := unU a) ho).2
  have hlt : ((rdA a).2.2.filter fun x => decide (0 ≤ x)).length < (rdA a).2.2.length := by
    have hm : gd 0 (rdA a).2.2 c.toNat ∈ (rdA a).2.2 := gd_mem (by omega)
    rcases Nat.lt_or_ge ((rdA a).2.2.filter fun x => decide (0 ≤ x)).length (rdA a).2.2.length with hh | hh
    · exact hh
    · have e := List.length_filter_eq_length_iff.1 (Nat.le_antisymm (List.length_filter_le _ _) hh) _ hm
      have hn' : gd 0 (rdA a).2.2 c.toNat < 0 := hn
      simp at e; omega
  obtain ⟨r, hr2, ⟨_, e⟩ | ⟨e, _⟩⟩ := inv_ok ho
  · exact e.symm
  · have := hr.uniq hr2
    have e2 : ((redL a (unU a)).2.2.filter fun x => decide (0 ≤ x)).length = ((rdA a).2.2.filter fun x => decide (0 ≤ x)).length := rfl
    omega
theorem inv_chk {a : LL} (h : ¬ mchk a = 0) : (([] : LL), mchk a) = invL a := by unfold invL; rw [if_pos h]
theorem inv_sq {a : LL} (h : mchk a = 0) (h2 : ¬ a.length = (gd [] a 0).length) : (([] : LL), (1 : Int)) = invL a := by unfold invL; rw [if_neg (by rw [h]; simp), if_pos h2]
def i_40_0 (a : (List (List UInt8))) (c : Int) (out : (List (List UInt8))) : Prop := InI a c out
def k_40 : Con Tc Tc.dn := ⟨40, [.ty .llU8], fun x => (fun (a : (List (List UInt8))) => True) x.1, [.llU8, .cInt], fun x => (fun (a : (List (List UInt8))) => invL a) x.1⟩
abbrev z40_0 (a : (List (List UInt8))) := (redGo (gd [] a (0 : Nat)).length a (fillL (↑a.length : Int) (↑a.length : Int) fU) (List.replicate a.length false) [])
theorem k_40_v (a : (List (List UInt8))) : True ∧ (mchk a = (0 : Int) → mchk a = (0 : Int)) ∧ (mchk a = (0 : Int) → mchk a = (0 : Int)) ∧ (mchk a = (0 : Int) → (0 : Int) ≤ (0 : Int) ∧ (0 : Int) < (↑a.length : Int)) ∧ (mchk a = (0 : Int) → mchk a = (0 : Int)) ∧ (mchk a = (0 : Int) → mchk a = (0 : Int)) ∧ (mchk a = (0 : Int) → mchk a = (0 : Int)) ∧ (mchk a = (0 : Int) → mchk a = (0 : Int)) ∧ (mchk a = (0 : Int) → mchk a = (0 : Int)) ∧ (mchk a = (0 : Int) ∧ ¬(↑a.length : Int) = (↑(gd [] a (Int.toNat (0 : Int))).length : Int) → ([], (1 : Int)) = invL a) ∧ (¬mchk a = (0 : Int) ∨ (↑a.length : Int) = (↑(gd [] a (Int.toNat (0 : Int))).length : Int) → (¬mchk a = (0 : Int) → ([], mchk a) = invL a) ∧ (mchk a = (0 : Int) → ((0 : Int) ≤ (↑a.length : Int) ∧ (↑a.length : Int) ≤ (16 : Int)) ∧ (mchk a = (0 : Int) ∧ mchk (fillL (↑a.length : Int) (↑a.length : Int) fU) = (0 : Int) ∧ (fillL (↑a.length : Int) (↑a.length : Int) fU).length = a.length) ∧ i_40_0 a (0 : Int) [] ∧ ∀ (x : Int) (x_1 : List (List UInt8)), i_40_0 a x x_1 → (x < (↑a.length : Int) → ((0 : Int) ≤ x ∧ x < (↑(z40_0 a).snd.snd.length : Int)) ∧ (gd (0 : Int) (z40_0 a).snd.snd x.toNat < (0 : Int) → ([], (5 : Int)) = invL a) ∧ ((0 : Int) ≤ gd (0 : Int) (z40_0 a).snd.snd x.toNat → ((0 : Int) ≤ x ∧ x < (↑(z40_0 a).snd.snd.length : Int)) ∧ ((0 : Int) ≤ gd (0 : Int) (z40_0 a).snd.snd x.toNat ∧ gd (0 : Int) (z40_0 a).snd.snd x.toNat < (↑(z40_0 a).fst.length : Int)) ∧ ((0 : Int) ≤ x ∧ x < (↑(gd [] (z40_0 a).fst (gd (0 : Int) (z40_0 a).snd.snd x.toNat).toNat).length : Int)) ∧ True ∧ ((0 : Int) ≤ (↑a.length : Int) ∧ (↑a.length : Int) ≤ (↑a.length : Int) ∧ (↑a.length : Int) * (↑(1 : Nat) : Int) ≤ (140737488355328 : Int)) ∧ ((0 : Int) ≤ x ∧ x < (↑(z40_0 a).snd.snd.length : Int)) ∧ ((0 : Int) ≤ gd (0 : Int) (z40_0 a).snd.snd x.toNat ∧ gd (0 : Int) (z40_0 a).snd.snd x.toNat < (↑(z40_0 a).snd.fst.length : Int)) ∧ ((List.replicate (↑a.length : Int).toNat (UInt8.ofNat (Int.toNat (0 : Int)))).length ≤ (gd [] (z40_0 a).snd.fst (gd (0 : Int) (z40_0 a).snd.snd x.toNat).toNat).length ∧ (List.replicate (↑a.length : Int).toNat (UInt8.ofNat (Int.toNat (0 : Int)))).length ≤ (1000000 : Nat)) ∧ (x_1.length + (1 : Nat)) * (24 : Nat) ≤ (140737488355328 : Nat) ∧ I64 (x + (1 : Int)) ∧ i_40_0 a (x + (1 : Int)) (x_1 ++ [List.map (fS (List.replicate (↑a.length : Int).toNat (UInt8.ofNat (Int.toNat (0 : Int)))) (gd [] (z40_0 a).snd.fst (gd (0 : Int) (z40_0 a).snd.snd x.toNat).toNat) (divN (UInt8.ofNat (Int.toNat (1 : Int))) (gd (0 : UInt8) (gd [] (z40_0 a).fst (gd (0 : Int) (z40_0 a).snd.snd x.toNat).toNat) x.toNat))) (List.range (List.replicate (↑a.length : Int).toNat (UInt8.ofNat (Int.toNat (0 : Int)))).length)]) ∧ ((↑a.length : Int) - (x + (1 : Int))).toNat < ((↑a.length : Int) - x).toNat)) ∧ ((↑a.length : Int) ≤ x → (x_1, (0 : Int)) = invL a))) := by
  delta z40_0
  simp only [show fillL (a.length : Int) (a.length : Int) fU = unU a from rfl, show redGo (gd [] a 0).length a (unU a) (List.replicate a.length false) [] = rdA a from rfl, Int.toNat_natCast, show UInt8.ofNat (Int.toNat 0) = 0 from rfl, show UInt8.ofNat (Int.toNat 1) = 1 from rfl, show Int.toNat 0 = 0 from rfl, i_40_0, I64]
  refine ⟨trivial, fun h => h, fun h => h, fun h => by have := (Okm.of h).n0; omega, fun h => h, fun h => h, fun h => h, fun h => h, fun h => h, fun h => inv_sq h.1 (by have := h.2; omega), fun h1 => ⟨inv_chk, fun h => ?_⟩⟩
  have hs : SqI a := ⟨h, by rcases h1 with h1 | h1; exact absurd h h1; omega⟩
  have hu := unU_ok h
  have h16 := hs.ok.n16
  obtain ⟨r1, r2, r3, r4⟩ := hs.rows
  refine ⟨by omega, ⟨h, hu.1, hu.2⟩, InI.start hs, fun c out hI => ?_⟩
  have h0 := hI.lo
  have hl := hI.len
  refine ⟨fun hc => ?_, hI.fin⟩
  obtain ⟨q1, q2⟩ := r4 c h0 hc
  simp only [byA] at q1 q2
  have q3 := List.length_replicate (n := a.length) (a := (0 : UInt8))
  have q6 := List.length_replicate (n := a.length) (a := UInt8.ofNat 0)
  exact ⟨by omega, fun hn => hI.neg hc hn, fun hp => by
    obtain ⟨q4, q5⟩ := q2 hp
    exact ⟨by omega, by omega, by omega, trivial, by omega, by omega, by omega, by omega, by omega, by omega, hI.step hc hp, by omega⟩⟩
theorem k_40_ok : k_40.Ok Try.prog tD := con_ok tD_ok (Δ := [k_63, k_62, k_64, k_60, k_65]) ⟨k_63_ok, k_62_ok, k_64_ok, k_60_ok, k_65_ok, trivial⟩ (Ω := []) trivial k_40 F40_ok F40_call (fun _ => []) (fun _ => trivial) 0 (fun x => (fun (a : (List (List UInt8))) => (fun k => bif Nat.beq k 0 then some (.inv [.sl 9 .cInt, .ow 8 .lU8] (fun zo zv => (fun (c : Int) (out : (List (List UInt8))) => i_40_0 a c out) zv.1 zv.2.1) (fun zo zv => (fun (c : Int) (out : (List (List UInt8))) => ((a.length : Int) - c).toNat) zv.1 zv.2.1)) else none)) x.1) fun x hp => Eq.mp (by kernel_rfl) (k_40_v x.1)
open Go.RowKit
def i_36_1 (l : (List ByteArray)) (i : Int) : Prop := AlI l i
def i_36_0 (l : (List ByteArray)) (i : Int) : Prop := AnI l i
def k_36 : Con Tc Tc.dn := ⟨36, [.ty .lStr], fun x => (fun (l : (List ByteArray)) => l.length ≤ 1000000) x.1, [.cInt], fun x => (fun (l : (List ByteArray)) => alkE l) x.1⟩
theorem k_36_v (l : (List ByteArray)) (hp : l.length ≤ 1000000) : i_36_0 l (0 : Int) ∧ ∀ (x : Int), i_36_0 l x → (x < (↑l.length : Int) → ((0 : Int) ≤ x ∧ x < (↑l.length : Int)) ∧ ((64 : Int) < (↑(gd ByteArray.empty l x.toNat).size : Int) → (2 : Int) = alkE l) ∧ ((↑(gd ByteArray.empty l x.toNat).size : Int) ≤ (64 : Int) → I64 (x + (1 : Int)) ∧ i_36_0 l (x + (1 : Int)) ∧ ((↑l.length : Int) - (x + (1 : Int))).toNat < ((↑l.length : Int) - x).toNat)) ∧ ((↑l.length : Int) ≤ x → i_36_1 l (0 : Int) ∧ ∀ (x : Int), i_36_1 l x → (x < (↑l.length : Int) → ((0 : Int) ≤ x ∧ x < (↑l.length : Int)) ∧ ((0 : Int) ≤ (0 : Int) ∧ (0 : Int) < (↑l.length : Int)) ∧ (¬(↑(gd ByteArray.empty l x.toNat).size : Int) = (↑(gd ByteArray.empty l (Int.toNat (0 : Int))).size : Int) → (1 : Int) = alkE l) ∧ ((↑(gd ByteArray.empty l x.toNat).size : Int) = (↑(gd ByteArray.empty l (Int.toNat (0 : Int))).size : Int) → I64 (x + (1 : Int)) ∧ i_36_1 l (x + (1 : Int)) ∧ ((↑l.length : Int) - (x + (1 : Int))).toNat < ((↑l.length : Int) - x).toNat)) ∧ ((↑l.length : Int) ≤ x → (0 : Int) = alkE l)) := by
  have h1 := @AnI.start l
  have h2 := @AnI.step l
  have h3 := @AnI.bad l
  have h4 := @AnI.fin l
  have h5 := @AnI.lo l
  have h6 := @AnI.hi l
  have a2 := @AlI.step l
  have a3 := @AlI.bad l
  have a4 := @AlI.fin l
  have a5 := @AlI.lo l
  have a6 := @AlI.hi l
  (repeat' (first | apply And.intro | intro _)) <;> first | assumption | trivial | omega | (grind [i_36_1, i_36_0, I64]) | trace_state
theorem k_36_ok : k_36.Ok Try.prog tD := con_ok tD_ok (Δ := []) trivial (Ω := []) trivial k_36 F36_ok F36_call (fun _ => []) (fun _ => trivial) 0 (fun x => (fun (l : (List ByteArray)) => (fun k => bif Nat.beq k 0 then some (.inv [.sl 3 .cInt] (fun zo zv => (fun (i : Int) => i_36_0 l i) zv.1) (fun zo zv => (fun (i : Int) => ((l.length : Int) - i).toNat) zv.1)) else bif Nat.beq k 1 then some (.inv [.sl 4 .cInt] (fun zo zv => (fun (i : Int) => i_36_1 l i) zv.1) (fun zo zv => (fun (i : Int) => ((l.length : Int) - i).toNat) zv.1)) else none)) x.1) fun x hp => Eq.mp (by kernel_rfl) (k_36_v x.1 hp)
def i_38_1 (row : (List UInt8)) (pieces : (List ByteArray)) (k0 : Int) (c0 : UInt8) (j0 : Int) (k : Int) (c : UInt8) (j : Int) : Prop := j = j0 ∧ 0 ≤ k ∧ k ≤ pieces.length ∧ c = mixP row pieces j k
def i_38_0 (row : (List UInt8)) (pieces : (List ByteArray)) (j : Int) (out : (List UInt8)) : Prop := UpI ((gd ByteArray.empty pieces (Int.toNat 0)).size : Int) (mixG row pieces) j out
def k_38 : Con Tc Tc.dn := ⟨38, [.ty .lU8, .ty .lStr], fun x => (fun (row : (List UInt8)) (pieces : (List ByteArray)) => MxP [row] pieces) x.1 x.2.1, [.cStr], fun x => (fun (row : (List UInt8)) (pieces : (List ByteArray)) => mixT row pieces) x.1 x.2.1⟩
theorem k_38_v (row : (List UInt8)) (pieces : (List ByteArray)) (hp : MxP [row] pieces) : i_38_0 row pieces (0 : Int) [] ∧ ∀ (x : Int) (x_1 : List UInt8), i_38_0 row pieces x x_1 → ((0 : Int) ≤ (0 : Int) ∧ (0 : Int) < (↑pieces.length : Int)) ∧ (x < (↑(gd ByteArray.empty pieces (Int.toNat (0 : Int))).size : Int) → i_38_1 row pieces (0 : Int) (UInt8.ofNat (Int.toNat (0 : Int))) x (0 : Int) (UInt8.ofNat (Int.toNat (0 : Int))) x ∧ ∀ (x_2 : Int) (x_3 : UInt8) (x_4 : Int), i_38_1 row pieces (0 : Int) (UInt8.ofNat (Int.toNat (0 : Int))) x x_2 x_3 x_4 → (x_2 < (↑pieces.length : Int) → ((0 : Int) ≤ x_2 ∧ x_2 < (↑row.length : Int)) ∧ ((0 : Int) ≤ x_2 ∧ x_2 < (↑pieces.length : Int)) ∧ ((0 : Int) ≤ x_4 ∧ x_4 < (↑(gd ByteArray.empty pieces x_2.toNat).size : Int)) ∧ True ∧ I64 (x_2 + (1 : Int)) ∧ i_38_1 row pieces (0 : Int) (UInt8.ofNat (Int.toNat (0 : Int))) x (x_2 + (1 : Int)) (x_3 ^^^ gmul (gd (0 : UInt8) row x_2.toNat) (gb (gd ByteArray.empty pieces x_2.toNat) x_4.toNat)) x_4 ∧ ((↑pieces.length : Int) - (x_2 + (1 : Int))).toNat < ((↑pieces.length : Int) - x_2).toNat) ∧ ((↑pieces.length : Int) ≤ x_2 → (x_1.length + (1 : Nat)) * (1 : Nat) ≤ (140737488355328 : Nat) ∧ I64 (x_4 + (1 : Int)) ∧ i_38_0 row pieces (x_4 + (1 : Int)) (x_1 ++ [x_3]) ∧ ((↑(gd ByteArray.empty pieces (Int.toNat (0 : Int))).size : Int) - (x_4 + (1 : Int))).toNat < ((↑(gd ByteArray.empty pieces (Int.toNat (0 : Int))).size : Int) - x).toNat)) ∧ ((↑(gd ByteArray.empty pieces (Int.toNat (0 : Int))).size : Int) ≤ x → ByteArray.mk (List.map id x_1).toArray = mixT row pieces) := by
  have p0 := hp.p0
  have p1 := hp.p1
  have p2 := hp.one
  have p3 := hp.s0
  have p4 := fun k => MxP.str (k := k) hp
  have u1 := @UpI.start UInt8 ((gd ByteArray.empty pieces (Int.toNat 0)).size : Int) (mixG row pieces)
  have u2 := @UpI.step UInt8 ((gd ByteArray.empty pieces (Int.toNat 0)).size : Int) (mixG row pieces)
  have u3 := @UpI.len UInt8 ((gd ByteArray.empty pieces (Int.toNat 0)).size : Int) (mixG row pieces)
  have u4 := @UpI.lo UInt8 ((gd ByteArray.empty pieces (Int.toNat 0)).size : Int) (mixG row pieces)
  have a1 := @mixP_zero row pieces
  have a2 := @mixP_step row pieces
  have a3 := @mixP_fin row pieces
  have a4 := @mix_fin row pieces
  (repeat' (first | apply And.intro | intro _)) <;> first | assumption | trivial | omega | (grind [i_38_1, i_38_0, I64]) | trace_state
theorem k_38_ok : k_38.Ok Try.prog tD := con_ok tD_ok (Δ := [k_61]) ⟨k_61_ok, trivial⟩ (Ω := []) trivial k_38 F38_ok F38_call (fun _ => []) (fun _ => trivial) 0 (fun x => (fun (row : (List UInt8)) (pieces : (List ByteArray)) => (fun k => bif Nat.beq k 0 then some (.inv [.sl 6 .cInt, .ow 5 .cU8] (fun zo zv => (fun (j : Int) (out : (List UInt8)) => i_38_0 row pieces j out) zv.1 zv.2.1) (fun zo zv => (fun (j : Int) (out : (List UInt8)) => (((gd ByteArray.empty pieces (Int.toNat 0)).size : Int) - j).toNat) zv.1 zv.2.1)) else bif Nat.beq k 1 then some (.inv [.sl 8 .cInt, .sl 7 .cU8, .sl 6 .cInt] (fun zo zv => (fun (k0 : Int) (c0 : UInt8) (j0 : Int) (k : Int) (c : UInt8) (j : Int) => i_38_1 row pieces k0 c0 j0 k c j) zo.1 zo.2.1 zo.2.2.1 zv.1 zv.2.1 zv.2.2.1) (fun zo zv => (fun (k0 : Int) (c0 : UInt8) (j0 : Int) (k : Int) (c : UInt8) (j : Int) => ((pieces.length : Int) - k).toNat) zo.1 zo.2.1 zo.2.2.1 zv.1 zv.2.1 zv.2.2.1)) else none)) x.1 x.2.1) fun x hp => Eq.mp (by kernel_rfl) (k_38_v x.1 x.2.1 hp)
def i_13_0 (data : (List ByteArray)) (more : Int) (i : Int) (out : (List ByteArray)) : Prop := (¬ (data.length : Int) = 0 ∧ (data.length : Int) ≤ 8 ∧ 1 ≤ more ∧ more ≤ 6 ∧ alkE data = 0) ∧ UpI more (encG data more) i out
def k_13 : Con Tc Tc.dn := ⟨13, [.ty .lStr, .ty .cInt], fun x => (fun (data : (List ByteArray)) (more : Int) => True) x.1 x.2.1, [.lStr, .cInt], fun x => (fun (data : (List ByteArray)) (more : Int) => encL data more) x.1 x.2.1⟩
theorem k_13_v (data : (List ByteArray)) (more : Int) : ((↑data.length : Int) = (0 : Int) → ([], (8 : Int)) = encL data more) ∧ (¬(↑data.length : Int) = (0 : Int) → ((8 : Int) < (↑data.length : Int) → ([], (2 : Int)) = encL data more) ∧ ((↑data.length : Int) ≤ (8 : Int) → ((1 : Int) ≤ more → (1 : Int) ≤ more) ∧ ((1 : Int) ≤ more → (1 : Int) ≤ more) ∧ (more < (1 : Int) ∨ (6 : Int) < more → ([], (3 : Int)) = encL data more) ∧ ((1 : Int) ≤ more ∧ more ≤ (6 : Int) → data.length ≤ (1000000 : Nat) ∧ (¬alkE data = (0 : Int) → ([], alkE data) = encL data more) ∧ (alkE data = (0 : Int) → True ∧ i_13_0 data more (0 : Int) [] ∧ ∀ (x : Int) (x_1 : List ByteArray), i_13_0 data more x x_1 → (x < more → ((0 : Int) ≤ x ∧ x < (↑(cauL more (↑data.length : Int)).fst.length : Int)) ∧ MxP [gd [] (cauL more (↑data.length : Int)).fst x.toNat] data ∧ (x_1.length + (1 : Nat)) * (16 : Nat) ≤ (140737488355328 : Nat) ∧ I64 (x + (1 : Int)) ∧ i_13_0 data more (x + (1 : Int)) (x_1 ++ [mixT (gd [] (cauL more (↑data.length : Int)).fst x.toNat) data]) ∧ (more - (x + (1 : Int))).toNat < (more - x).toNat) ∧ (more ≤ x → (x_1, (0 : Int)) = encL data more))))) := by
  have u1 := @UpI.start BA more (encG data more)
  have u2 := @UpI.step BA more (encG data more)
  have u3 := @UpI.len BA more (encG data more)
  have u4 := @UpI.lo BA more (encG data more)
  have a1 := @enc_mx data more
  have a2 := @encG_len data more
  have a3 := @encG_fin data more
  have a4 := @MxP.sub (cauL more data.length).1 data
  have a5 : ∀ i : Int, encG data more i.toNat = mixT (gd [] (cauL more data.length).1 i.toNat) data := fun i => rfl
  have e1 : (data.length : Int) = 0 → encL data more = ([], 8) := fun h => by unfold encL; rw [if_pos h]
  have e2 : ¬ (data.length : Int) = 0 → 8 < (data.length : Int) → encL data more = ([], 2) := fun h h2 => by unfold encL; rw [if_neg h, if_pos h2]
  have e3 : ¬ (data.length : Int) = 0 → (data.length : Int) ≤ 8 → more < 1 ∨ 6 < more → encL data more = ([], 3) := fun h h2 h3 => by unfold encL; rw [if_neg h, if_neg (by omega), if_pos (by omega)]
  have e4 : ¬ (data.length : Int) = 0 → (data.length : Int) ≤ 8 → 1 ≤ more → more ≤ 6 → ¬ alkE data = 0 → encL data more = ([], alkE data) := fun h h2 h3 h4 h5 => by unfold encL; rw [if_neg h, if_neg (by omega), if_neg (by omega), if_pos h5]
  (repeat' (first | apply And.intro | intro _)) <;> first | assumption | trivial | omega | (grind [i_13_0, I64]) | trace_state
theorem k_13_ok : k_13.Ok Try.prog tD := con_ok tD_ok (Δ := [k_36, k_37, k_38]) ⟨k_36_ok, k_37_ok, k_38_ok, trivial⟩ (Ω := []) trivial k_13 F13_ok F13_call (fun _ => []) (fun _ => trivial) 0 (fun x => (fun (data : (List ByteArray)) (more : Int) => (fun k => bif Nat.beq k 0 then some (.inv [.sl 10 .cInt, .ow 9 .cStr] (fun zo zv => (fun (i : Int) (out : (List ByteArray)) => i_13_0 data more i out) zv.1 zv.2.1) (fun zo zv => (fun (i : Int) (out : (List ByteArray)) => (more - i).toNat) zv.1 zv.2.1)) else none)) x.1 x.2.1) fun x hp => Eq.mp (by kernel_rfl) (k_13_v x.1 x.2.1)
def k_39 : Con Tc Tc.dn := ⟨39, [.ty .cInt, .ty .cInt, .ty .cInt], fun x => (fun (many : Int) (more : Int) (i : Int) => 1 ≤ many ∧ many ≤ 8 ∧ 1 ≤ more ∧ more ≤ 6 ∧ 0 ≤ i ∧ i < many + more) x.1 x.2.1 x.2.2.1, [.lU8], fun x => (fun (many : Int) (more : Int) (i : Int) => gd [] (allF many more) i.toNat) x.1 x.2.1 x.2.2.1⟩
theorem k_39_v (many : Int) (more : Int) (i : Int) (hp : 1 ≤ many ∧ many ≤ 8 ∧ 1 ≤ more ∧ more ≤ 6 ∧ 0 ≤ i ∧ i < many + more) : (i < many → ((0 : Int) ≤ many ∧ many ≤ (16 : Int)) ∧ ((0 : Int) ≤ i ∧ i < (↑(fillL many many fU).length : Int)) ∧ gd [] (fillL many many fU) i.toNat = gd [] (allF many more) i.toNat) ∧ (many ≤ i → True ∧ I64 (i - many) ∧ ((0 : Int) ≤ i - many ∧ i - many < (↑(cauL more many).fst.length : Int)) ∧ gd [] (cauL more many).fst (i - many).toNat = gd [] (allF many more) i.toNat) := by
  have h1 := @allF_lo many more i
  have h2 := @allF_hi many more i
  have h3 := @cau_ok more many (by omega) (by omega) (by omega) (by omega)
  rw [h3]
  have h4 := @fill_n many many fU
  have h5 := @fill_n more many (fC more)
  (repeat' (first | apply And.intro | intro _)) <;> first | assumption | trivial | omega | (grind [I64]) | trace_state
theorem k_39_ok : k_39.Ok Try.prog tD := con_ok tD_ok (Δ := [k_62, k_37]) ⟨k_62_ok, k_37_ok, trivial⟩ (Ω := []) trivial k_39 F39_ok F39_call (fun _ => []) (fun _ => trivial) 0 (fun x => (fun (many : Int) (more : Int) (i : Int) => (fun _ => none)) x.1 x.2.1 x.2.2.1) fun x hp => Eq.mp (by kernel_rfl) (k_39_v x.1 x.2.1 x.2.2.1 hp)
def i_14_2 (many : Int) (more : Int) (at_ : (List Int)) (pieces : (List ByteArray)) (i : Int) (out : (List ByteArray)) : Prop := UpI many (rebG (invL (rowsF many more at_)).1 pieces) i out
def i_14_1 (at_ : (List Int)) (k0 : Int) (i0 : Int) (k : Int) (i : Int) : Prop := i = i0 ∧ NoI at_ i k
def i_14_0 (many : Int) (more : Int) (at_ : (List Int)) (pieces : (List ByteArray)) (i : Int) (out : (List (List UInt8))) : Prop := ((at_.length : Int) = pieces.length ∧ (at_.length : Int) = many ∧ 1 ≤ many ∧ many ≤ 8 ∧ 1 ≤ more ∧ more ≤ 6) ∧ AtI (many + more) at_ i ∧ RwF many more at_ i out
def k_14 : Con Tc Tc.dn := ⟨14, [.ty .cInt, .ty .cInt, .ty .lInt, .ty .lStr], fun x => (fun (many : Int) (more : Int) (at_ : (List Int)) (pieces : (List ByteArray)) => True) x.1 x.2.1 x.2.2.1 x.2.2.2.1, [.lStr, .cInt], fun x => (fun (many : Int) (more : Int) (at_ : (List Int)) (pieces : (List ByteArray)) => rebL many more at_ pieces) x.1 x.2.1 x.2.2.1 x.2.2.2.1⟩
theorem k_14_v (many : Int) (more : Int) (at_ : (List Int)) (pieces : (List ByteArray)) : ((1 : Int) ≤ many → (1 : Int) ≤ many) ∧ ((1 : Int) ≤ many → (1 : Int) ≤ many) ∧ ((1 : Int) ≤ many ∧ many ≤ (8 : Int) → (1 : Int) ≤ many ∧ many ≤ (8 : Int)) ∧ ((1 : Int) ≤ many ∧ many ≤ (8 : Int) → (1 : Int) ≤ many ∧ many ≤ (8 : Int)) ∧ (((1 : Int) ≤ many ∧ many ≤ (8 : Int)) ∧ (1 : Int) ≤ more → ((1 : Int) ≤ many ∧ many ≤ (8 : Int)) ∧ (1 : Int) ≤ more) ∧ (((1 : Int) ≤ many ∧ many ≤ (8 : Int)) ∧ (1 : Int) ≤ more → ((1 : Int) ≤ many ∧ many ≤ (8 : Int)) ∧ (1 : Int) ≤ more) ∧ (((many < (1 : Int) ∨ (8 : Int) < many) ∨ more < (1 : Int)) ∨ (6 : Int) < more → ([], (3 : Int)) = rebL many more at_ pieces) ∧ ((((1 : Int) ≤ many ∧ many ≤ (8 : Int)) ∧ (1 : Int) ≤ more) ∧ more ≤ (6 : Int) → (¬(↑at_.length : Int) = (↑pieces.length : Int) → ([], (1 : Int)) = rebL many more at_ pieces) ∧ ((↑at_.length : Int) = (↑pieces.length : Int) → ((↑at_.length : Int) < many → ([], (8 : Int)) = rebL many more at_ pieces) ∧ (many ≤ (↑at_.length : Int) → (many < (↑at_.length : Int) → ([], (2 : Int)) = rebL many more at_ pieces) ∧ ((↑at_.length : Int) ≤ many → i_14_0 many more at_ pieces (0 : Int) [] ∧ ∀ (x : Int) (x_1 : List (List UInt8)), i_14_0 many more at_ pieces x x_1 → (x < many → ((0 : Int) ≤ x ∧ x < (↑at_.length : Int)) ∧ ((0 : Int) ≤ gd (0 : Int) at_ x.toNat → (0 : Int) ≤ gd (0 : Int) at_ x.toNat) ∧ ((0 : Int) ≤ gd (0 : Int) at_ x.toNat → (0 : Int) ≤ gd (0 : Int) at_ x.toNat) ∧ ((0 : Int) ≤ gd (0 : Int) at_ x.toNat → (0 : Int) ≤ x ∧ x < (↑at_.length : Int)) ∧ ((0 : Int) ≤ gd (0 : Int) at_ x.toNat → (0 : Int) ≤ gd (0 : Int) at_ x.toNat) ∧ ((0 : Int) ≤ gd (0 : Int) at_ x.toNat → (0 : Int) ≤ gd (0 : Int) at_ x.toNat) ∧ ((0 : Int) ≤ gd (0 : Int) at_ x.toNat → (0 : Int) ≤ gd (0 : Int) at_ x.toNat) ∧ ((0 : Int) ≤ gd (0 : Int) at_ x.toNat → I64 (many + more)) ∧ ((0 : Int) ≤ gd (0 : Int) at_ x.toNat → (0 : Int) ≤ gd (0 : Int) at_ x.toNat) ∧ ((0 : Int) ≤ gd (0 : Int) at_ x.toNat → (0 : Int) ≤ gd (0 : Int) at_ x.toNat) ∧ ((0 : Int) ≤ gd (0 : Int) at_ x.toNat → (0 : Int) ≤ gd (0 : Int) at_ x.toNat) ∧ (gd (0 : Int) at_ x.toNat < (0 : Int) ∨ many + more ≤ gd (0 : Int) at_ x.toNat → ([], (3 : Int)) = rebL many more at_ pieces) ∧ ((0 : Int) ≤ gd (0 : Int) at_ x.toNat ∧ gd (0 : Int) at_ x.toNat < many + more → i_14_1 at_ (0 : Int) x (0 : Int) x ∧ ∀ (x_2 x_3 : Int), i_14_1 at_ (0 : Int) x x_2 x_3 → (x_2 < x_3 → ((0 : Int) ≤ x_2 ∧ x_2 < (↑at_.length : Int)) ∧ ((0 : Int) ≤ x_3 ∧ x_3 < (↑at_.length : Int)) ∧ (gd (0 : Int) at_ x_2.toNat = gd (0 : Int) at_ x_3.toNat → ([], (6 : Int)) = rebL many more at_ pieces) ∧ (¬gd (0 : Int) at_ x_2.toNat = gd (0 : Int) at_ x_3.toNat → I64 (x_2 + (1 : Int)) ∧ i_14_1 at_ (0 : Int) x (x_2 + (1 : Int)) x_3 ∧ (x_3 - (x_2 + (1 : Int))).toNat < (x_3 - x_2).toNat)) ∧ (x_3 ≤ x_2 → ((0 : Int) ≤ x_3 ∧ x_3 < (↑at_.length : Int)) ∧ ((1 : Int) ≤ many ∧ many ≤ (8 : Int) ∧ (1 : Int) ≤ more ∧ more ≤ (6 : Int) ∧ (0 : Int) ≤ gd (0 : Int) at_ x_3.toNat ∧ gd (0 : Int) at_ x_3.toNat < many + more) ∧ (x_1.length + (1 : Nat)) * (24 : Nat) ≤ (140737488355328 : Nat) ∧ I64 (x_3 + (1 : Int)) ∧ i_14_0 many more at_ pieces (x_3 + (1 : Int)) (x_1 ++ [gd [] (allF many more) (gd (0 : Int) at_ x_3.toNat).toNat]) ∧ (many - (x_3 + (1 : Int))).toNat < (many - x).toNat))) ∧ (many ≤ x → pieces.length ≤ (1000000 : Nat) ∧ (¬alkE pieces = (0 : Int) → ([], alkE pieces) = rebL many more at_ pieces) ∧ (alkE pieces = (0 : Int) → True ∧ (¬(invL x_1).snd = (0 : Int) → ([], (invL x_1).snd) = rebL many more at_ pieces) ∧ ((invL x_1).snd = (0 : Int) → i_14_2 many more at_ pieces (0 : Int) [] ∧ ∀ (x : Int) (x_2 : List ByteArray), i_14_2 many more at_ pieces x x_2 → (x < many → ((0 : Int) ≤ x ∧ x < (↑(invL x_1).fst.length : Int)) ∧ MxP [gd [] (invL x_1).fst x.toNat] pieces ∧ (x_2.length + (1 : Nat)) * (16 : Nat) ≤ (140737488355328 : Nat) ∧ I64 (x + (1 : Int)) ∧ i_14_2 many more at_ pieces (x + (1 : Int)) (x_2 ++ [mixT (gd [] (invL x_1).fst x.toNat) pieces]) ∧ (many - (x + (1 : Int))).toNat < (many - x).toNat) ∧ (many ≤ x → (x_2, (0 : Int)) = rebL many more at_ pieces)))))))) := by
  have a1 := @AtI.start (many + more) at_
  have a2 := @AtI.out (many + more) at_
  have a3 := @AtI.twice (many + more) at_
  have a4 := @AtI.step (many + more) at_
  have a5 := @AtI.fin (many + more) at_
  have a6 := @AtI.lo (many + more) at_
  have f1 := @RwF.start many more at_
  have f2 := @RwF.step many more
  have f3 := @RwF.len many more
  have f4 := @RwF.fin many more
  have n1 := @NoI.start at_
  have n2 := @NoI.step at_
  have n3 := @NoI.bad at_
  have n4 := @NoI.fin at_
  have n5 := @NoI.lo at_
  have u1 := @UpI.start BA many (rebG (invL (rowsF many more at_)).1 pieces)
  have u2 := @UpI.step BA many (rebG (invL (rowsF many more at_)).1 pieces)
  have u3 := @UpI.len BA many (rebG (invL (rowsF many more at_)).1 pieces)
  have u4 := @UpI.lo BA many (rebG (invL (rowsF many more at_)).1 pieces)
  have u5 := @rebG_fin (invL (rowsF many more at_)).1 pieces many
  have b2 := @reb_mx many more at_ pieces
  have b3 := @MxP.sub (invL (rowsF many more at_)).1 pieces
  have b4 := @inv_w (rowsF many more at_)
  have b5 : (rowsF many more at_).length = at_.length := by unfold rowsF; simp
  have b6 : ∀ i : Int, rebG (invL (rowsF many more at_)).1 pieces i.toNat = mixT (gd [] (invL (rowsF many more at_)).1 i.toNat) pieces := fun i => rfl
  have e1 : many < 1 ∨ 8 < many ∨ more < 1 ∨ 6 < more → rebL many more at_ pieces = ([], 3) := fun h => by unfold rebL; rw [if_pos (by omega)]
  have e2 : 1 ≤ many → many ≤ 8 → 1 ≤ more → more ≤ 6 → ¬ (at_.length : Int) = pieces.length → rebL many more at_ pieces = ([], 1) := fun h1 h2 h3 h4 h => by unfold rebL; rw [if_neg (by omega), if_pos h]
  have e3 : 1 ≤ many → many ≤ 8 → 1 ≤ more → more ≤ 6 → (at_.length : Int) = pieces.length → (at_.length : Int) < many → rebL many more at_ pieces = ([], 8) := fun h1 h2 h3 h4 h5 h => by unfold rebL; rw [if_neg (by omega), if_neg (by omega), if_pos h]
  have e4 : 1 ≤ many → many ≤ 8 → 1 ≤ more → more ≤ 6 → (at_.length : Int) = pieces.length → many < (at_.length : Int) → rebL many more at_ pieces = ([], 2) := fun h1 h2 h3 h4 h5 h => by unfold rebL; rw [if_neg (by omega), if_neg (by omega), if_neg (by omega), if_pos h]
  have e5 : 1 ≤ many → many ≤ 8 → 1 ≤ more → more ≤ 6 → (at_.length : Int) = pieces.length → (at_.length : Int) = many → ¬ atE (many + more) at_ = 0 → rebL many more at_ pieces = ([], atE (many + more) at_) := fun h1 h2 h3 h4 h5 h6 h => by unfold rebL; rw [if_neg (by omega), if_neg (by omega), if_neg (by omega), if_neg (by omega), if_pos h]
  have e6 : 1 ≤ many → many ≤ 8 → 1 ≤ more → more ≤ 6 → (at_.length : Int) = pieces.length → (at_.length : Int) = many → atE (many + more) at_ = 0 → ¬ alkE pieces = 0 → rebL many more at_ pieces = ([], alkE pieces) := fun h1 h2 h3 h4 h5 h6 h7 h => by unfold rebL; rw [if_neg (by omega), if_neg (by omega), if_neg (by omega), if_neg (by omega), if_neg (by omega), if_pos h]
  have e7 : 1 ≤ many → many ≤ 8 → 1 ≤ more → more ≤ 6 → (at_.length : Int) = pieces.length → (at_.length : Int) = many → atE (many + more) at_ = 0 → alkE pieces = 0 → ¬ (invL (rowsF many more at_)).2 = 0 → rebL many more at_ pieces = ([], (invL (rowsF many more at_)).2) := fun h1 h2 h3 h4 h5 h6 h7 h8 h => by unfold rebL; rw [if_neg (by omega), if_neg (by omega), if_neg (by omega), if_neg (by omega), if_neg (by omega), if_neg (by omega), if_pos h]
  have e8 : 1 ≤ many → many ≤ 8 → 1 ≤ more → more ≤ 6 → (at_.length : Int) = pieces.length → (at_.length : Int) = many → atE (many + more) at_ = 0 → alkE pieces = 0 → (invL (rowsF many more at_)).2 = 0 → rebL many more at_ pieces = (mixS (invL (rowsF many more at_)).1 pieces, 0) := fun h1 h2 h3 h4 h5 h6 h7 h8 h => by unfold rebL; rw [if_neg (by omega), if_neg (by omega), if_neg (by omega), if_neg (by omega), if_neg (by omega), if_neg (by omega), if_neg (by omega)]
  (repeat' (first | apply And.intro | intro _)) <;> first | assumption | trivial | omega | (grind [i_14_2, i_14_1, i_14_0, I64]) | (focus (simp only [i_14_2, i_14_1, i_14_0] at *; omega)) | trace_state
theorem k_14_ok : k_14.Ok Try.prog tD := con_ok tD_ok (Δ := [k_39, k_36, k_40, k_38]) ⟨k_39_ok, k_36_ok, k_40_ok, k_38_ok, trivial⟩ (Ω := []) trivial k_14 F14_ok F14_call (fun _ => []) (fun _ => trivial) 0 (fun x => (fun (many : Int) (more : Int) (at_ : (List Int)) (pieces : (List ByteArray)) => (fun k => bif Nat.beq k 0 then some (.inv [.sl 11 .cInt, .ow 10 .lU8] (fun zo zv => (fun (i : Int) (out : (List (List UInt8))) => i_14_0 many more at_ pieces i out) zv.1 zv.2.1) (fun zo zv => (fun (i : Int) (out : (List (List UInt8))) => (many - i).toNat) zv.1 zv.2.1)) else bif Nat.beq k 1 then some (.inv [.sl 12 .cInt, .sl 11 .cInt] (fun zo zv => (fun (k0 : Int) (i0 : Int) (k : Int) (i : Int) => i_14_1 at_ k0 i0 k i) zo.1 zo.2.1 zv.1 zv.2.1) (fun zo zv => (fun (k0 : Int) (i0 : Int) (k : Int) (i : Int) => (i - k).toNat) zo.1 zo.2.1 zv.1 zv.2.1)) else bif Nat.beq k 2 then some (.inv [.sl 16 .cInt, .ow 15 .cStr] (fun zo zv => (fun (i : Int) (out : (List ByteArray)) => i_14_2 many more at_ pieces i out) zv.1 zv.2.1) (fun zo zv => (fun (i : Int) (out : (List ByteArray)) => (many - i).toNat) zv.1 zv.2.1)) else none)) x.1 x.2.1 x.2.2.1 x.2.2.2.1) fun x hp => Eq.mp (by kernel_rfl) (k_14_v x.1 x.2.1 x.2.2.1 x.2.2.2.1)
def i_16_0 (a : (List ByteArray)) (b : (List ByteArray)) (i : Int) : Prop := EqT a b i
def k_16 : Con Tc Tc.dn := ⟨16, [.ty .lStr, .ty .lStr], fun x => (fun (a : (List ByteArray)) (b : (List ByteArray)) => a.length ≤ 1000000) x.1 x.2.1, [.cBool], fun x => (fun (a : (List ByteArray)) (b : (List ByteArray)) => decide (a = b)) x.1 x.2.1⟩
theorem k_16_v (a : (List ByteArray)) (b : (List ByteArray)) (hp : a.length ≤ 1000000) : (¬(↑a.length : Int) = (↑b.length : Int) → false = decide (a = b)) ∧ ((↑a.length : Int) = (↑b.length : Int) → i_16_0 a b (0 : Int) ∧ ∀ (x : Int), i_16_0 a b x → (x < (↑a.length : Int) → ((0 : Int) ≤ x ∧ x < (↑a.length : Int)) ∧ ((0 : Int) ≤ x ∧ x < (↑b.length : Int)) ∧ (¬gd ByteArray.empty a x.toNat = gd ByteArray.empty b x.toNat → false = decide (a = b)) ∧ (gd ByteArray.empty a x.toNat = gd ByteArray.empty b x.toNat → I64 (x + (1 : Int)) ∧ i_16_0 a b (x + (1 : Int)) ∧ ((↑a.length : Int) - (x + (1 : Int))).toNat < ((↑a.length : Int) - x).toNat)) ∧ ((↑a.length : Int) ≤ x → true = decide (a = b))) := by
  have h1 := @EqT.start a b
  have h2 := @EqT.step a b
  have h3 := @EqT.fin a b
  have h4 := @EqT.bad a b
  have h5 := @EqT.lo a b
  have h6 := @EqT.few a b
  have h7 := @EqT.len a b
  (repeat' (first | apply And.intro | intro _)) <;> first | assumption | trivial | omega | (grind [i_16_0, I64]) | trace_state
theorem k_16_ok : k_16.Ok Try.prog tD := con_ok tD_ok (Δ := []) trivial (Ω := []) trivial k_16 F16_ok F16_call (fun _ => []) (fun _ => trivial) 0 (fun x => (fun (a : (List ByteArray)) (b : (List ByteArray)) => (fun k => bif Nat.beq k 0 then some (.inv [.sl 5 .cInt] (fun zo zv => (fun (i : Int) => i_16_0 a b i) zv.1) (fun zo zv => (fun (i : Int) => ((a.length : Int) - i).toNat) zv.1)) else none)) x.1 x.2.1) fun x hp => Eq.mp (by kernel_rfl) (k_16_v x.1 x.2.1 hp)
open Go.RowKit
def k_15 : Con Tc Tc.dn := ⟨15, [], fun _ => True, [.cBool], fun _ => true⟩
abbrev z15_4 := (encL [ByteArray.mk #[(111 : UInt8), (110 : UInt8), (101 : UInt8)], ByteArray.mk #[(116 : UInt8), (101 : UInt8), (110 : UInt8)], ByteArray.mk #[(115 : UInt8), (105 : UInt8), (120 : UInt8)]] (2 : Int))
abbrev z15_5 := (encL [ByteArray.mk #[(111 : UInt8), (110 : UInt8), (101 : UInt8)], ByteArray.mk #[(116 : UInt8), (119 : UInt8), (111 : UInt8)], ByteArray.mk #[(115 : UInt8), (105 : UInt8), (120 : UInt8)]] (2 : Int))
abbrev z15_0 := ([ByteArray.mk #[(111 : UInt8), (110 : UInt8), (101 : UInt8)], ByteArray.mk #[(116 : UInt8), (119 : UInt8), (111 : UInt8)], ByteArray.mk #[(115 : UInt8), (105 : UInt8), (120 : UInt8)]] ++ z15_5.fst)
abbrev z15_2 := (chgL (1 : Int) (ByteArray.mk #[(116 : UInt8), (119 : UInt8), (111 : UInt8)]) (ByteArray.mk #[(116 : UInt8), (101 : UInt8), (110 : UInt8)]) (3 : Int) z15_5.fst)
abbrev z15_3 := (rebL (3 : Int) (2 : Int) [(4 : Int), (1 : Int), (3 : Int)] [gd ByteArray.empty z15_0 (Int.toNat (4 : Int)), gd ByteArray.empty z15_0 (Int.toNat (1 : Int)), gd ByteArray.empty z15_0 (Int.toNat (3 : Int))])
abbrev z15_6 := (z15_3.fst = [ByteArray.mk #[(111 : UInt8), (110 : UInt8), (101 : UInt8)], ByteArray.mk #[(116 : UInt8), (119 : UInt8), (111 : UInt8)], ByteArray.mk #[(115 : UInt8), (105 : UInt8), (120 : UInt8)]])
abbrev z15_7 := ((z15_3.snd = (0 : Int) ∧ decide z15_6 = true) ∧ (verL z15_0 (2 : Int)).fst = true)
abbrev z15_1 := ((z15_7 ∧ (verL z15_0 (2 : Int)).snd = (0 : Int)) ∧ z15_2.snd = (0 : Int))
abbrev z15_8 := ((z15_1 ∧ z15_4.snd = (0 : Int)) ∧ decide (z15_2.fst = z15_4.fst) = true → (z15_1 ∧ z15_4.snd = (0 : Int)) ∧ decide (z15_2.fst = z15_4.fst) = true)
abbrev z15_9 := (((z15_1 ∧ z15_4.snd = (0 : Int)) ∧ decide (z15_2.fst = z15_4.fst) = true) ∧ decide (z15_2.fst = z15_5.fst) = !true → ((z15_1 ∧ z15_4.snd = (0 : Int)) ∧ decide (z15_2.fst = z15_4.fst) = true) ∧ decide (z15_2.fst = z15_5.fst) = !true)
theorem k_15_v  : True ∧ (z15_5.snd = (0 : Int) → z15_5.snd = (0 : Int)) ∧ (z15_5.snd = (0 : Int) → z15_5.snd = (0 : Int)) ∧ (z15_5.snd = (0 : Int) → z15_5.snd = (0 : Int)) ∧ (¬z15_5.snd = (0 : Int) ∨ ¬(↑z15_5.fst.length : Int) = (2 : Int) → false = true) ∧ (z15_5.snd = (0 : Int) ∧ (↑z15_5.fst.length : Int) = (2 : Int) → ((0 : Nat) + (3 : Nat)) * (16 : Nat) ≤ (140737488355328 : Nat) ∧ ((3 : Nat) + z15_5.fst.length) * (16 : Nat) ≤ (140737488355328 : Nat) ∧ ((0 : Int) ≤ (4 : Int) ∧ (4 : Int) < (↑z15_0.length : Int)) ∧ ((0 : Int) ≤ (1 : Int) ∧ (1 : Int) < (↑z15_0.length : Int)) ∧ ((0 : Int) ≤ (3 : Int) ∧ (3 : Int) < (↑z15_0.length : Int)) ∧ True ∧ z15_0.length ≤ (9223372036854775807 : Nat) ∧ True ∧ True ∧ True ∧ (z15_3.snd = (0 : Int) → z15_3.snd = (0 : Int)) ∧ (z15_3.snd = (0 : Int) → z15_3.snd = (0 : Int)) ∧ (z15_3.snd = (0 : Int) → z15_3.fst.length ≤ (1000000 : Nat)) ∧ (z15_3.snd = (0 : Int) → z15_3.snd = (0 : Int)) ∧ (z15_3.snd = (0 : Int) ∧ decide z15_6 = true → z15_3.snd = (0 : Int) ∧ decide z15_6 = true) ∧ ((z15_3.snd = (0 : Int) ∧ decide z15_6 = true) ∧ (verL z15_0 (2 : Int)).fst = true → (z15_3.snd = (0 : Int) ∧ decide z15_6 = true) ∧ (verL z15_0 (2 : Int)).fst = true) ∧ ((z15_3.snd = (0 : Int) ∧ decide z15_6 = true) ∧ (verL z15_0 (2 : Int)).fst = true → (z15_3.snd = (0 : Int) ∧ decide z15_6 = true) ∧ (verL z15_0 (2 : Int)).fst = true) ∧ (z15_7 ∧ (verL z15_0 (2 : Int)).snd = (0 : Int) → z15_7 ∧ (verL z15_0 (2 : Int)).snd = (0 : Int)) ∧ (z15_7 ∧ (verL z15_0 (2 : Int)).snd = (0 : Int) → z15_7 ∧ (verL z15_0 (2 : Int)).snd = (0 : Int)) ∧ ((z15_7 ∧ (verL z15_0 (2 : Int)).snd = (0 : Int)) ∧ z15_2.snd = (0 : Int) → (z15_7 ∧ (verL z15_0 (2 : Int)).snd = (0 : Int)) ∧ z15_2.snd = (0 : Int)) ∧ ((z15_7 ∧ (verL z15_0 (2 : Int)).snd = (0 : Int)) ∧ z15_2.snd = (0 : Int) → (z15_7 ∧ (verL z15_0 (2 : Int)).snd = (0 : Int)) ∧ z15_2.snd = (0 : Int)) ∧ (z15_1 ∧ z15_4.snd = (0 : Int) → z15_1 ∧ z15_4.snd = (0 : Int)) ∧ (z15_1 ∧ z15_4.snd = (0 : Int) → z15_1 ∧ z15_4.snd = (0 : Int)) ∧ (z15_1 ∧ z15_4.snd = (0 : Int) → z15_2.fst.length ≤ (1000000 : Nat)) ∧ (z15_1 ∧ z15_4.snd = (0 : Int) → z15_1 ∧ z15_4.snd = (0 : Int)) ∧ z15_8 ∧ z15_8 ∧ ((z15_1 ∧ z15_4.snd = (0 : Int)) ∧ decide (z15_2.fst = z15_4.fst) = true → z15_2.fst.length ≤ (1000000 : Nat)) ∧ z15_8 ∧ z15_8 ∧ z15_9 ∧ z15_9 ∧ (z15_3.snd == (0 : Int) && decide z15_6 && (verL z15_0 (2 : Int)).fst && (verL z15_0 (2 : Int)).snd == (0 : Int) && z15_2.snd == (0 : Int) && z15_4.snd == (0 : Int) && decide (z15_2.fst = z15_4.fst) && !decide (z15_2.fst = z15_5.fst) && (rebL (3 : Int) (2 : Int) [(1 : Int), (1 : Int), (2 : Int)] [ByteArray.mk #[(111 : UInt8), (110 : UInt8), (101 : UInt8)], ByteArray.mk #[(116 : UInt8), (119 : UInt8), (111 : UInt8)], ByteArray.mk #[(115 : UInt8), (105 : UInt8), (120 : UInt8)]]).snd == (6 : Int)) = true) := by
  delta z15_9 z15_8 z15_7 z15_6 z15_5 z15_4 z15_3 z15_2 z15_1 z15_0
  (repeat' (first | apply And.intro | (intro h; exact absurd h (by decide +kernel)) | (intro h; clear h) | decide +kernel)) <;> first | decide +kernel | trace_state
theorem k_15_ok : k_15.Ok Try.prog tD := con_ok tD_ok (Δ := [k_11, k_12, k_17, k_18, k_16]) ⟨k_11_ok, k_12_ok, k_17_ok, k_18_ok, k_16_ok, trivial⟩ (Ω := []) trivial k_15 F15_ok F15_call (fun _ => []) (fun _ => trivial) 0 (fun _ => fun k => bif Nat.beq k 1017 then some (.frz [1]) else bif Nat.beq k 1034 then some (.frz [4]) else none) fun x hp => Eq.mp (by kernel_rfl) (k_15_v )
end Go.Proofs.Ytnbgbknocijjlaa
