/- Plain laws of operations: what is heard twice, how an operation goes on. No condition. -/
import Derived.Test.YtgepadjkegfokaaDoorPAskE
set_option maxRecDepth 100000
set_option linter.unusedVariables false
set_option linter.unusedSimpArgs false
namespace Go.Proofs.YtgepadjkegfokaaDoor
theorem ask_mk {a : Ask} {ws : List Int} {need : Int} (h1 : qcheckP ws need = 0) (h2 : 0 ≤ a.op ∧ a.op ≤ 30) (h3 : 1 ≤ a.kind ∧ a.kind ≤ 2) (h4 : 1 ≤ a.phase ∧ a.phase ≤ 3) (h5 : a.data.size ≤ 64) (h6 : a.kind = 1 → a.data.size = 0) (h7 : a.best.checkE = 0) (h8 : a.heard.n < 2 ^ ws.length) : a.checkE ws need = 0 := by
  unfold Ask.checkE
  rw [if_neg (fun hh => hh h1), if_neg (fun hh => hh h2), if_neg (by omega), if_neg (by omega), if_neg (fun hh => hh.2 (h6 hh.1)), if_neg (fun hh => hh h7), if_neg]
  intro hh
  have := len64_gt.1 (show ws.length < len64 a.heard.n by omega)
  omega
theorem raw_ok {c d : Copy} (h1 : c.checkE = 0) (h2 : d.checkE = 0) : (c.raw d).checkE = 0 := by unfold Copy.raw; split <;> assumption
theorem copy_ok {c : Copy} : c.checkE = 0 ↔ c.at_.okS ∧ c.data.size ≤ 64 := by
  unfold Copy.checkE
  repeat' split
  all_goals simp_all
theorem next_ok {s : Stamp} {who : Int} (h : (nextP s who).2 = 0) : s.okS ∧ (0 ≤ who ∧ who ≤ 31) ∧ (nextP s who).1 = ⟨s.time + 1, who⟩ ∧ (nextP s who).1.okS := by
  unfold nextP at h ⊢
  by_cases hc : s.okS ∧ (0 ≤ who ∧ who ≤ 31) ∧ ¬ s.time = 1000000
  · rw [if_pos hc]
    refine ⟨hc.1, hc.2.1, rfl, ?_⟩
    have := hc.1
    unfold Stamp.okS at this ⊢
    dsimp only
    omega
  · rw [if_neg hc] at h; simp at h
theorem heardA_ok {a : Ask} {m : Msg} {ws : List Int} {need : Int} (ha : a.checkE ws need = 0) (hm : m.checkE = 0) (hn : ¬ m.node ≥ ws.length) : (heardA a m).best.checkE = 0 ∧ (orU a.heard m.node.toNat).n < 2 ^ ws.length := by
  have hq := ask_ok ha
  have hk := msg_node hm
  refine ⟨?_, or_sub hq.2.2.2.2.2.2.2 (by omega) (qc_len hq.1)⟩
  unfold heardA; dsimp only; split
  · exact raw_ok hq.2.2.2.2.2.2.1 hk.2
  · exact hq.2.2.2.2.2.2.1
theorem zero_heard (ws : List Int) : ((⟨0, by decide⟩ : U64)).n < 2 ^ ws.length := Nat.two_pow_pos _
theorem hear_valid {v : Voters} {a : Ask} {m : Msg} (h : (hearA v a m).2.2 = 0) : (hearA v a m).1.checkE v.weights v.need = 0 ∧ m.checkE = 0 := by
  rcases hear_cases v a m with ⟨e, _⟩ | ⟨ha, hm, e | ⟨h1, h2, h3, h4, ⟨_, e⟩ | ⟨_, ⟨hp, e⟩ | ⟨hp, hk, e⟩ | ⟨hp, hk, hx, e⟩⟩⟩⟩
  · exact absurd h e
  · rw [e]; exact ⟨ha, hm⟩
  all_goals
    have hq := ask_ok ha
    have hb := heardA_ok ha hm h3
    rw [e]
  · exact ⟨ask_mk hq.1 hq.2.1 hq.2.2.1 hq.2.2.2.1 hq.2.2.2.2.1 hq.2.2.2.2.2.1 hb.1 hb.2, hm⟩
  · exact ⟨ask_mk hq.1 hq.2.1 hq.2.2.1 (by simp) hq.2.2.2.2.1 hq.2.2.2.2.2.1 hb.1 hb.2, hm⟩
  · exact ⟨ask_mk hq.1 hq.2.1 hq.2.2.1 (by simp) hq.2.2.2.2.1 hq.2.2.2.2.2.1 hb.1 (zero_heard _), hm⟩
  · exact ⟨ask_mk hq.1 hq.2.1 hq.2.2.1 (by simp) hq.2.2.2.2.1 hq.2.2.2.2.2.1 (copy_ok.2 ⟨(next_ok hx).2.2.2, hq.2.2.2.2.1⟩) (zero_heard _), hm⟩
theorem hear_noerr {v : Voters} {a : Ask} {m : Msg} (ha : a.checkE v.weights v.need = 0) (hm : m.checkE = 0) : (hearA v a m).2.2 = 0 := by
  rw [hearA_eq ha hm]; split <;> rfl
theorem or_in {x : U64} {k : Nat} (hk : k < 64) : (andU (orU x k) k).n ≠ 0 := by
  intro hh
  have h1 := and_bit.1 hh
  have hl : x.n ||| 2 ^ k < 18446744073709551616 := by
    have := Nat.or_lt_two_pow (n := 64) (by simpa using x.lt) (by simpa using pow_lt64 hk); simpa using this
  have h2 : (orU x k).n = x.n ||| 2 ^ k := Nat.mod_eq_of_lt hl
  unfold inS at h1
  rw [h2] at h1
  have h3 : (x.n ||| 2 ^ k).testBit k = true := by rw [Nat.testBit_or, Nat.testBit_two_pow_self]; simp
  rw [Nat.testBit_eq_decide_div_mod_eq] at h3
  simp at h3
  simp [h3] at h1
theorem once {v : Voters} {a : Ask} {m : Msg} (h : (hearA v a m).2.2 = 0) : (hearA v (hearA v a m).1 m).2.2 = 0 ∧ ((hearA v a m).1.phase = a.phase → hearA v (hearA v a m).1 m = ((hearA v a m).1, [], 0)) := by
  obtain ⟨hv, hm⟩ := hear_valid h
  refine ⟨hear_noerr hv hm, fun hp => ?_⟩
  rcases hear_cases v a m with ⟨e, _⟩ | ⟨ha, _, e | ⟨h1, h2, h3, h4, ⟨_, e⟩ | ⟨_, ⟨hq, e⟩ | ⟨hq, hk, e⟩ | ⟨hq, hk, hx, e⟩⟩⟩⟩
  · exact absurd h e
  · have e1 : (hearA v a m).1 = a := by rw [e]
    rw [e1]; exact e
  · have e1 : (hearA v a m).1 = heardA a m := by rw [e]
    rw [e1] at hv ⊢
    rw [hearA_eq hv hm]
    have : hearT v (heardA a m) m = (heardA a m, [], false) := by
      unfold hearT
      rw [if_pos (.inr (.inr (.inr (or_in (by have := (msg_node hm).1; omega)))))]
    rw [this]; rfl
  · rw [e] at hp; dsimp only at hp; omega
  · rw [e] at hp; dsimp only at hp
    have := (ask_ok ha).2.2.2.1
    unfold wantsA at h2
    have := msg_kind hm
    by_cases h5 : a.phase = 1
    · omega
    · rw [if_neg h5, if_neg hq] at h2; omega
  · rw [e] at hp; dsimp only at hp
    have := (ask_ok ha).2.2.2.1
    unfold wantsA at h2
    have := msg_kind hm
    by_cases h5 : a.phase = 1
    · omega
    · rw [if_neg h5, if_neg hq] at h2; omega
theorem hear_zero {v : Voters} {a : Ask} {m : Msg} (h : ¬ (hearA v a m).2.2 = 0) : (hearA v a m).1 = Ask.zero ∧ (hearA v a m).2.1 = [] := by
  rcases hear_cases v a m with ⟨_, e⟩ | ⟨ha, hm, _⟩
  · rw [e]; exact ⟨rfl, rfl⟩
  · exact absurd (hear_noerr ha hm) h
theorem raw_lt {c d : Copy} : ¬ (c.raw d).at_.lt c.at_ ∧ ¬ (c.raw d).at_.lt d.at_ ∧ (c.raw d = c ∨ c.raw d = d) := by
  unfold Copy.raw
  by_cases h : c.at_.lt d.at_
  · rw [if_pos h]; refine ⟨?_, ?_, .inr rfl⟩ <;> (unfold Stamp.lt at *; omega)
  · rw [if_neg h]; refine ⟨?_, h, .inl rfl⟩; unfold Stamp.lt; omega
theorem goes {v : Voters} {a : Ask} {m : Msg} (h : (hearA v a m).2.2 = 0) :
    (¬ (hearA v a m).1.phase < a.phase ∧ ¬ (hearA v a m).1.phase > a.phase + 1 ∧ ¬ (hearA v a m).1.best.at_.lt a.best.at_ ∧ (hearA v a m).1.op = a.op ∧ (hearA v a m).1.kind = a.kind ∧ (hearA v a m).1.data = a.data) ∧
    a.checkE v.weights v.need = 0 ∧ m.checkE = 0 ∧
    ((hearA v a m).1.phase = a.phase → (hearA v a m).2.1 = []) ∧
    (¬ (hearA v a m).1.phase = a.phase → enoughP v.weights v.need (orU a.heard m.node.toNat).n = (true, 0) ∧
      (a.phase = 2 → (hearA v a m).2.1 = [] ∧ (hearA v a m).1.best = a.best) ∧
      (¬ a.phase = 2 → (a.kind = 2 → a.best.at_.lt (hearA v a m).1.best.at_ ∧ m.copy.at_.lt (hearA v a m).1.best.at_ ∧ (hearA v a m).1.best.data = a.data ∧ (hearA v a m).1.best.at_.who = a.op) ∧
        (a.kind = 1 → (hearA v a m).1.best = a.best ∨ (hearA v a m).1.best = m.copy) ∧ (hearA v a m).2.1 = toAllM v.weights.length ⟨3, a.op, 0, (hearA v a m).1.best⟩)) := by
  rcases hear_cases v a m with ⟨e, _⟩ | ⟨ha, hm, e | ⟨h1, h2, h3, h4, h5⟩⟩
  · exact absurd h e
  · rw [e]
    refine ⟨⟨by dsimp only; omega, by dsimp only; omega, ?_, rfl, rfl, rfl⟩, ha, hm, fun _ => rfl, fun hp => absurd rfl hp⟩
    dsimp only; unfold Stamp.lt; omega
  · have hq := ask_ok ha
    have hb := heardA_ok ha hm h3
    have hkk := msg_kind hm
    have hen : ∀ (ht : (enoughP v.weights v.need (orU a.heard m.node.toNat).n).1 = true), enoughP v.weights v.need (orU a.heard m.node.toNat).n = (true, 0) := fun ht => by
      refine Prod.ext ht ?_
      show (enoughP v.weights v.need (orU a.heard m.node.toNat).n).2 = 0
      unfold enoughP; rw [if_neg (fun hh => hh hq.1), sumP_0 (qc_nodes hq.1) hb.2]
    have hbest : ¬ (heardA a m).best.at_.lt a.best.at_ ∧ (¬ a.phase = 2 → ¬ (heardA a m).best.at_.lt m.copy.at_) ∧ ((heardA a m).best = a.best ∨ (heardA a m).best = m.copy) ∧ (a.phase = 2 → (heardA a m).best = a.best) := by
      unfold heardA; dsimp only
      by_cases hp : a.phase = 1
      · rw [if_pos hp]; exact ⟨raw_lt.1, fun _ => raw_lt.2.1, raw_lt.2.2, fun hh => by omega⟩
      · rw [if_neg hp]
        refine ⟨by unfold Stamp.lt; omega, fun hh => ?_, .inl rfl, fun _ => rfl⟩
        unfold wantsA at h2; rw [if_neg hp, if_neg hh] at h2; omega
    have hph : ¬ a.phase = 2 → a.phase = 1 := fun hp => by
      by_cases h6 : a.phase = 1
      · exact h6
      · unfold wantsA at h2; rw [if_neg h6, if_neg hp] at h2; omega
    have hsame : (heardA a m).phase = a.phase := rfl
    rcases h5 with ⟨_, e⟩ | ⟨ht, ⟨hp, e⟩ | ⟨hp, hk, e⟩ | ⟨hp, hk, hx, e⟩⟩
    · rw [e]
      exact ⟨⟨by dsimp only; omega, by dsimp only; omega, hbest.1, rfl, rfl, rfl⟩, ha, hm, fun _ => rfl, fun hh => absurd rfl hh⟩
    · rw [e]
      exact ⟨⟨by dsimp only; omega, by dsimp only; omega, hbest.1, rfl, rfl, rfl⟩, ha, hm, fun _ => rfl, fun _ => ⟨hen ht, fun _ => ⟨rfl, hbest.2.2.2 hp⟩, fun hh => absurd hp hh⟩⟩
    · rw [e]
      have := hph hp
      exact ⟨⟨by dsimp only; omega, by dsimp only; omega, hbest.1, rfl, rfl, rfl⟩, ha, hm, fun hh => by dsimp only at hh; omega, fun _ => ⟨hen ht, fun hh => absurd hh hp, fun _ => ⟨fun hh => by omega, fun _ => hbest.2.2.1, rfl⟩⟩⟩
    · rw [e]
      have := hph hp
      have hno := next_ok hx
      have g1 : a.best.at_.lt (nextP (heardA a m).best.at_ a.op).1 := by
        rw [hno.2.2.1]; have := hbest.1; unfold Stamp.lt at this ⊢; dsimp only; omega
      have g2 : m.copy.at_.lt (nextP (heardA a m).best.at_ a.op).1 := by
        rw [hno.2.2.1]; have := hbest.2.1 hp; unfold Stamp.lt at this ⊢; dsimp only; omega
      have g3 : ¬ (nextP (heardA a m).best.at_ a.op).1.lt a.best.at_ := by unfold Stamp.lt at g1 ⊢; omega
      exact ⟨⟨by dsimp only; omega, by dsimp only; omega, g3, rfl, rfl, rfl⟩, ha, hm, fun hh => by dsimp only at hh; omega, fun _ => ⟨hen ht, fun hh => absurd hh hp, fun _ => ⟨fun _ => ⟨g1, g2, rfl, by rw [hno.2.2.1]⟩, fun hh => absurd hh hk, rfl⟩⟩⟩
end Go.Proofs.YtgepadjkegfokaaDoor
