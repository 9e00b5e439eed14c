/- Plain laws of what an operation hears. No condition. -/
import Derived.Test.YtgepadjkegfokaaDoorPAskD
set_option maxRecDepth 100000
set_option linter.unusedVariables false
set_option linter.unusedSimpArgs false
namespace Go.Proofs.YtgepadjkegfokaaDoor
/-- How a message is heard. -/
theorem hear_cases (v : Voters) (a : Ask) (m : Msg) : (¬ (hearA v a m).2.2 = 0 ∧ hearA v a m = (Ask.zero, [], (hearA v a m).2.2)) ∨
    (a.checkE v.weights v.need = 0 ∧ m.checkE = 0 ∧ (hearA v a m = (a, [], 0) ∨
      (m.op = a.op ∧ m.kind = wantsA a.phase ∧ ¬ m.node ≥ v.weights.length ∧ (andU a.heard m.node.toNat).n = 0 ∧
        ((¬ (enoughP v.weights v.need (orU a.heard m.node.toNat).n).1 = true ∧ hearA v a m = (heardA a m, [], 0)) ∨
         ((enoughP v.weights v.need (orU a.heard m.node.toNat).n).1 = true ∧
          ((a.phase = 2 ∧ hearA v a m = ({ heardA a m with phase := 3 }, [], 0)) ∨
           (¬ a.phase = 2 ∧ a.kind = 1 ∧ hearA v a m = ({ heardA a m with phase := 2, heard := ⟨0, by decide⟩ }, toAllM v.weights.length ⟨3, a.op, 0, (heardA a m).best⟩, 0)) ∨
           (¬ a.phase = 2 ∧ ¬ a.kind = 1 ∧ (nextP (heardA a m).best.at_ a.op).2 = 0 ∧ hearA v a m = ({ heardA a m with phase := 2, heard := ⟨0, by decide⟩, best := ⟨(nextP (heardA a m).best.at_ a.op).1, a.data⟩ }, toAllM v.weights.length ⟨3, a.op, 0, ⟨(nextP (heardA a m).best.at_ a.op).1, a.data⟩⟩, 0)))))))) := by
  by_cases ha : a.checkE v.weights v.need = 0
  · by_cases hm : m.checkE = 0
    · right
      refine ⟨ha, hm, ?_⟩
      rw [hearA_eq ha hm]
      by_cases h1 : m.op ≠ a.op ∨ m.kind ≠ wantsA a.phase ∨ m.node ≥ v.weights.length ∨ (andU a.heard m.node.toNat).n ≠ 0
      · left; unfold hearT; simp only [if_pos h1]; rfl
      · by_cases h2 : (enoughP v.weights v.need (orU a.heard m.node.toNat).n).1 = true
        · by_cases h3 : a.phase = 2
          · right
            refine ⟨Decidable.not_not.1 fun hh => h1 (.inl hh), Decidable.not_not.1 fun hh => h1 (.inr (.inl hh)), fun hh => h1 (.inr (.inr (.inl hh))), Decidable.not_not.1 fun hh => h1 (.inr (.inr (.inr hh))), .inr ⟨h2, .inl ⟨h3, ?_⟩⟩⟩
            unfold hearT; simp only [if_neg h1, if_neg (fun hh : ¬ _ => hh h2), if_pos h3]; rfl
          · by_cases h4 : a.kind = 1
            · right
              refine ⟨Decidable.not_not.1 fun hh => h1 (.inl hh), Decidable.not_not.1 fun hh => h1 (.inr (.inl hh)), fun hh => h1 (.inr (.inr (.inl hh))), Decidable.not_not.1 fun hh => h1 (.inr (.inr (.inr hh))), .inr ⟨h2, .inr (.inl ⟨h3, h4, ?_⟩)⟩⟩
              unfold hearT; simp only [if_neg h1, if_neg (fun hh : ¬ _ => hh h2), if_neg h3, if_pos h4]; rfl
            · by_cases h5 : (nextP (heardA a m).best.at_ a.op).2 = 0
              · right
                refine ⟨Decidable.not_not.1 fun hh => h1 (.inl hh), Decidable.not_not.1 fun hh => h1 (.inr (.inl hh)), fun hh => h1 (.inr (.inr (.inl hh))), Decidable.not_not.1 fun hh => h1 (.inr (.inr (.inr hh))), .inr ⟨h2, .inr (.inr ⟨h3, h4, h5, ?_⟩)⟩⟩
                unfold hearT; simp only [if_neg h1, if_neg (fun hh : ¬ _ => hh h2), if_neg h3, if_neg h4, if_pos h5]; rfl
              · left; unfold hearT; simp only [if_neg h1, if_neg (fun hh : ¬ _ => hh h2), if_neg h3, if_neg h4, if_neg h5]; rfl
        · right
          refine ⟨Decidable.not_not.1 fun hh => h1 (.inl hh), Decidable.not_not.1 fun hh => h1 (.inr (.inl hh)), fun hh => h1 (.inr (.inr (.inl hh))), Decidable.not_not.1 fun hh => h1 (.inr (.inr (.inr hh))), .inl ⟨h2, ?_⟩⟩
          unfold hearT; simp only [if_neg h1, if_pos h2]; rfl
    · left
      have e : hearA v a m = (Ask.zero, [], m.checkE) := by unfold hearA; rw [if_neg (fun hh => hh ha), if_pos hm]
      rw [e]; exact ⟨hm, rfl⟩
  · left
    have e : hearA v a m = (Ask.zero, [], a.checkE v.weights v.need) := by unfold hearA; rw [if_pos ha]
    rw [e]; exact ⟨ha, rfl⟩
end Go.Proofs.YtgepadjkegfokaaDoor
