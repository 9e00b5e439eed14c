/- Plain laws of what a bid hears. No condition. -/
import Derived.Test.YtejilglnpdjepaaDoorPSeatF
set_option maxRecDepth 100000
set_option linter.unusedVariables false
set_option linter.unusedSimpArgs false
namespace Go.Proofs.YtejilglnpdjepaaDoor
theorem fits_phase {b : Bid} {no : Int} {m : Vote} (h : ¬ fitsP b no m = false) : b.phase = 1 ∨ b.phase = 2 := by
  unfold fitsP at h
  by_cases h1 : b.phase = 1
  · exact .inl h1
  · rw [if_neg h1] at h
    by_cases h2 : b.phase = 2
    · exact .inr h2
    · rw [if_neg h2] at h; simp at h
theorem hear_cases (v : Voters) (no : Int) (b : Bid) (m : Vote) : (¬ (hearP v no b m).2.2 = 0 ∧ (hearP v no b m).2.1 = []) ∨ (hearP v no b m = (b, [], 0)) ∨
    (b.checkE v.weights v.need = 0 ∧ m.checkE = 0 ∧ (b.phase = 1 ∨ b.phase = 2) ∧ ¬ m.node ≥ v.weights.length ∧
      ((hearP v no b m = (heardP b m, [], 0)) ∨ (enoughP v.weights v.need (orU b.heard m.node.toNat).n = (true, 0) ∧ hearP v no b m = onP v no (heardP b m)))) := by
  by_cases h0 : 0 ≤ no ∧ no ≤ 30
  · by_cases h1 : b.checkE v.weights v.need = 0
    · by_cases h2 : m.checkE = 0
      · by_cases h3 : m.bid ≠ no ∨ fitsP b no m = false ∨ m.node ≥ v.weights.length ∨ (andU b.heard m.node.toNat).n ≠ 0
        · right; left; unfold hearP; rw [if_neg (fun hh => hh h0), if_neg (fun hh => hh h1), if_neg (fun hh => hh h2), if_pos h3]
        · right; right
          have hb := bid_ok h1
          have hn := vote_node h2
          have hl : ¬ m.node ≥ v.weights.length := fun hh => h3 (.inr (.inr (.inl hh)))
          have hs : (orU b.heard m.node.toNat).n < 2 ^ v.weights.length := or_sub hb.2.2.1 (by omega) (qc_len hb.1)
          refine ⟨h1, h2, fits_phase fun hh => h3 (.inr (.inl hh)), hl, ?_⟩
          unfold hearP
          rw [if_neg (fun hh => hh h0), if_neg (fun hh => hh h1), if_neg (fun hh => hh h2), if_neg h3]
          by_cases h4 : (enoughP v.weights v.need (heardP b m).heard.n).1 = true
          · right; rw [if_pos h4]
            refine ⟨?_, rfl⟩
            have e : (enoughP v.weights v.need (orU b.heard m.node.toNat).n).2 = 0 := by
              unfold enoughP; rw [if_neg (fun hh => hh hb.1), sumP_0 (qc_nodes hb.1) hs]
            exact Prod.ext h4 e
          · left; rw [if_neg h4]
      · left; unfold hearP; rw [if_neg (fun hh => hh h0), if_neg (fun hh => hh h1), if_pos h2]; exact ⟨h2, rfl⟩
    · left; unfold hearP; rw [if_neg (fun hh => hh h0), if_pos h1]; exact ⟨h1, rfl⟩
  · left; unfold hearP; rw [if_pos h0]; exact ⟨by simp, rfl⟩
theorem hear_err {v : Voters} {no : Int} {b : Bid} {m : Vote} (h : ¬ (hearP v no b m).2.2 = 0) : (hearP v no b m).2.1 = [] := by
  rcases hear_cases v no b m with ⟨_, e⟩ | e | ⟨_, _, _, _, e | ⟨_, e⟩⟩
  · exact e
  · rw [e]
  · rw [e]
  · rw [e] at h; unfold onP at h; split at h <;> exact absurd rfl h
theorem on_phase {v : Voters} {no : Int} {b : Bid} (h : b.phase = 1 ∨ b.phase = 2) : (onP v no b).1.phase = b.phase + 1 ∧ (onP v no b).1.own = b.own ∧ (onP v no b).1.time = b.time ∧ (onP v no b).2.2 = 0 := by
  unfold onP
  rcases h with h | h <;> simp [h]
theorem hear_same {v : Voters} {no : Int} {b : Bid} {m : Vote} (h : (hearP v no b m).2.2 = 0) (hp : (hearP v no b m).1.phase = b.phase) : (hearP v no b m).2.1 = [] ∧ (hearP v no b m).1.value = b.value := by
  rcases hear_cases v no b m with ⟨e, _⟩ | e | ⟨_, _, ph, _, e | ⟨_, e⟩⟩
  · exact absurd h e
  · rw [e]; exact ⟨rfl, rfl⟩
  · rw [e]; exact ⟨rfl, rfl⟩
  · rw [e] at hp; rw [(on_phase (b := heardP b m) ph).1] at hp
    have : (heardP b m).phase = b.phase := rfl
    omega
theorem hear_adv {v : Voters} {no : Int} {b : Bid} {m : Vote} (h : (hearP v no b m).2.2 = 0) (hp : ¬ (hearP v no b m).1.phase = b.phase) :
    b.checkE v.weights v.need = 0 ∧ (0 ≤ m.node ∧ m.node < 64) ∧ (b.phase = 1 ∨ b.phase = 2) ∧ enoughP v.weights v.need (orU b.heard m.node.toNat).n = (true, 0) ∧ hearP v no b m = onP v no (heardP b m) ∧
      (hearP v no b m).1.phase = b.phase + 1 ∧ (hearP v no b m).1.own = b.own ∧ (hearP v no b m).1.time = b.time := by
  rcases hear_cases v no b m with ⟨e, _⟩ | e | ⟨k1, k2, k3, k4, e | ⟨k5, e⟩⟩
  · exact absurd h e
  · rw [e] at hp; exact absurd rfl hp
  · rw [e] at hp; exact absurd rfl hp
  · have hq := on_phase (v := v) (no := no) (b := heardP b m) k3
    exact ⟨k1, vote_node k2, k3, k5, e, by rw [e]; exact hq.1, by rw [e]; exact hq.2.1, by rw [e]; exact hq.2.2.1⟩
theorem hear_put {v : Voters} {no : Int} {b : Bid} {m : Vote} (h : (hearP v no b m).2.2 = 0) (hp : ¬ (hearP v no b m).1.phase = b.phase) (h2 : b.phase = 2) : (hearP v no b m).1.value = b.value ∧ (hearP v no b m).2.1 = [] := by
  rw [(hear_adv h hp).2.2.2.2.1]
  unfold onP
  rw [if_pos (show (heardP b m).phase = 2 from h2)]
  exact ⟨rfl, rfl⟩
def wantP (b : Bid) (m : Vote) : ByteArray := if (b.best.raw m.copy).at_.time = 0 ∧ (b.best.raw m.copy).at_.who = 0 then b.own else (b.best.raw m.copy).data
theorem hear_go' {v : Voters} {no : Int} {b : Bid} {m : Vote} (h : (hearP v no b m).2.2 = 0) (hp : ¬ (hearP v no b m).1.phase = b.phase) (h2 : ¬ b.phase = 2) :
    (hearP v no b m).1.value = wantP b m ∧ (hearP v no b m).2.1.length = v.weights.length ∧ 0 < v.weights.length ∧ ∀ a, (hearP v no b m).2.1[0]? = some a → a.copy = ⟨⟨b.time, no⟩, wantP b m⟩ := by
  have ha := hear_adv h hp
  have h1 : b.phase = 1 := by omega
  have hl : 1 ≤ v.weights.length := (nodes_bd (qc_nodes (bid_ok ha.1).1)).2.2.1
  rw [ha.2.2.2.2.1]
  unfold onP
  rw [if_neg (show ¬ (heardP b m).phase = 2 from h2)]
  have hb : (heardP b m).best = b.best.raw m.copy := if_pos h1
  simp only [hb]
  refine ⟨rfl, by simp [toAllP], by omega, fun a h0 => ?_⟩
  simp only [toAllP, List.getElem?_map, Option.map_eq_some_iff] at h0
  obtain ⟨i, _, rfl⟩ := h0
  rfl
end Go.Proofs.YtejilglnpdjepaaDoor
