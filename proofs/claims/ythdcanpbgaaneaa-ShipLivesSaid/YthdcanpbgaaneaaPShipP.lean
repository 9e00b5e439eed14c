/- What the laws of ships say, in plain terms. No condition. -/
import Derived.Test.YthdcanpbgaaneaaPShipF
set_option maxRecDepth 100000
set_option linter.unusedVariables false
set_option linter.unusedSimpArgs false
namespace Go.Proofs.Ythdcanpbgaaneaa
/-- What a ship that never turned about is. -/
structure Ship.Sails (st : List ByteArray) (s : Ship) : Prop where
  ok : s.Ok
  len : s.first.length = st.length
  snd : s.second = replay st (s.log.take s.applied.toNat)
  fst : s.first = replay st s.log
theorem Ship.step_sails {st : List ByteArray} {s : Ship} (hs : s.Sails st) {a : Act} (h : (s.stepP a).2 = 0) (hk : a.kind ≠ 8) : (s.stepP a).1.Sails st := by
  have ok' := Ship.step_ok hs.ok h
  obtain ⟨ok, hl, h2, h1⟩ := hs
  have hap := ok.k.2.2.2.1; have hk0 := ok.k.1; have hk1 := ok.k.2.1
  rcases Ship.step_cases h with ⟨_, e⟩ | ⟨_, e⟩ | ⟨_, e⟩ | ⟨_, e⟩ | ⟨_, e⟩ | ⟨_, e⟩ | ⟨_, e⟩ | ⟨k, e⟩
  · rw [e] at h ok' ⊢
    have key : (s.writeP a.n a.data).2 = 0 → wi a.n 0 ((s.first.length : Int) - 1) = true ∧ (s.writeP a.n a.data).1 = { s with first := s.first.set a.n.toNat a.data, log := s.log ++ [⟨a.n, a.data⟩] } := by
      unfold Ship.writeP; split
      · rename_i hw; split
        · simp
        · intro _; exact ⟨hw, rfl⟩
      · simp
    obtain ⟨hw, e2⟩ := key h
    rw [wi_iff] at hw
    rw [e2] at ok' ⊢
    refine ⟨ok', by simpa using hl, ?_, ?_⟩
    · show s.second = replay st ((s.log ++ [_]).take s.applied.toNat)
      rw [List.take_append_of_le_length (by omega)]; exact h2
    · show s.first.set _ _ = replay st (s.log ++ [_])
      rw [replay_app, ← h1, replay, replay, if_pos (show 0 ≤ a.n ∧ a.n < (s.first.length : Int) by omega)]
  · rw [e] at h ok' ⊢
    have key : s.sendP.2 = 0 → s.sendP.1 = { s with sent := s.sent + 1, there := s.there ++ [s.sent + 1] } := by
      unfold Ship.sendP; (repeat' split) <;> simp
    rw [key h] at ok' ⊢
    exact ⟨ok', hl, h2, h1⟩
  · rw [e] at h ok' ⊢
    rcases Ship.pass_cases (s := s) (n := a.n) with ⟨h3, _⟩ | ⟨_, _, _, ⟨r, _, hr, e⟩ | ⟨_, e⟩⟩
    · exact absurd h h3
    · rw [e] at ok' ⊢
      refine ⟨ok', hl, ?_, h1⟩
      show s.second.set _ _ = replay st (s.log.take (s.applied + 1).toNat)
      obtain ⟨hll, hre⟩ := List.getElem?_eq_some_iff.1 hr
      have hb := ok.l2 _ (List.mem_of_getElem? hr)
      have hf2 := ok.f2
      rw [show (s.applied + 1).toNat = s.applied.toNat + 1 by omega, List.take_succ_eq_append_getElem hll, replay_app, ← h2, hre, replay, replay, if_pos ⟨hb.1, by omega⟩]
    · rw [e] at ok' ⊢
      exact ⟨ok', hl, h2, h1⟩
  · rw [e] at h ok' ⊢
    have key : (s.loseP a.n).2 = 0 → (s.loseP a.n).1 = { s with there := s.there.eraseIdx a.n.toNat } := by
      unfold Ship.loseP; split <;> simp
    rw [key h] at ok' ⊢
    exact ⟨ok', hl, h2, h1⟩
  · rw [e] at h ok' ⊢
    have key : (s.hearP a.n).2 = 0 → ∃ x, (s.hearP a.n).1 = { s with back := s.back.eraseIdx a.n.toNat, known := max s.known x, sent := max s.sent (max s.known x) } := by
      unfold Ship.hearP; split
      · split
        · intro _; exact ⟨_, rfl⟩
        · simp
      · simp
    obtain ⟨x, e2⟩ := key h
    rw [e2] at ok' ⊢
    exact ⟨ok', hl, h2, h1⟩
  · rw [e] at h ok' ⊢
    have key : (s.dropP a.n).2 = 0 → (s.dropP a.n).1 = { s with back := s.back.eraseIdx a.n.toNat } := by
      unfold Ship.dropP; split <;> simp
    rw [key h] at ok' ⊢
    exact ⟨ok', hl, h2, h1⟩
  · rw [e] at ok' ⊢
    exact ⟨ok', hl, h2, h1⟩
  · exact absurd k hk
theorem Ship.run_sails {st : List ByteArray} : ∀ (l : List Act) {s : Ship} (n : Int), s.Sails st → (∀ a, a ∈ l → a.kind ≠ 8) → (s.runGo l n).1.Sails st
  | [], s, n, hs, _ => hs
  | a :: l, s, n, hs, hk => by
    unfold Ship.runGo
    split
    · exact Ship.run_sails l _ (Ship.step_sails hs ‹_› (hk a (by simp))) fun b hb => hk b (by simp [hb])
    · exact Ship.run_sails l _ hs fun b hb => hk b (by simp [hb])
theorem Ship.sail_sails {n : Int} {l : List Act} (h : (Ship.sailP n l).2 = true) : ∃ m, (Ship.sailP n l).1.Sails (List.replicate m ⟨#[]⟩) := by
  by_cases hn : (Ship.newP n).2 = 0
  · rw [Ship.sail_0 hn] at h ⊢
    simp only [beq_iff_eq] at h
    rcases Ship.run_cases (Ship.newP n).1 (noTurn l) with ⟨_, ok, _, e, _⟩ | ⟨h1, _⟩
    · simp only [e]
      refine ⟨n.toNat, Ship.run_sails _ _ ⟨ok, ?_, ?_, ?_⟩ fun a ha => ?_⟩
      · have := hn; unfold Ship.newP at hn ⊢; split
        · simp
        · rename_i hw; rw [if_neg hw] at hn; simp at hn
      · unfold Ship.newP at hn ⊢; split
        · simp [replay]
        · rename_i hw; rw [if_neg hw] at hn; simp at hn
      · unfold Ship.newP at hn ⊢; split
        · simp [replay]
        · rename_i hw; rw [if_neg hw] at hn; simp at hn
      · unfold noTurn at ha
        rw [List.mem_filter] at ha
        simpa using ha.2
    · exact absurd h h1
  · rw [Ship.sail_n hn] at h; simp at h
/-- What is on its way is lost. -/
theorem Ship.lose_first {st : List ByteArray} {s : Ship} (h : s.Sails st) (h0 : 0 < s.there.length) : s.doP ⟨4, 0, ⟨#[]⟩⟩ = ({ s with there := s.there.eraseIdx 0 }, 0) ∧ (s.doP ⟨4, 0, ⟨#[]⟩⟩).1.Sails st ∧ ((s.doP ⟨4, 0, ⟨#[]⟩⟩).1.there.length : Int) = s.there.length - 1 ∧ (s.doP ⟨4, 0, ⟨#[]⟩⟩).2 = 0 := by
  have e : s.doP ⟨4, 0, ⟨#[]⟩⟩ = ({ s with there := s.there.eraseIdx 0 }, 0) := by
    rw [Ship.doP_0 (Ship.checkE_0.2 h.ok), Ship.step_4, if_pos rfl]
    unfold Ship.loseP
    rw [if_pos (wi_iff.2 ⟨by omega, by omega⟩)]; rfl
  have h2 := Ship.step_sails h (a := ⟨4, 0, ⟨#[]⟩⟩)
  rw [← Ship.doP_0 (Ship.checkE_0.2 h.ok), e] at h2
  refine ⟨e, by rw [e]; exact h2 rfl (by decide), ?_, by rw [e]⟩
  rw [e]
  simp only [List.length_eraseIdx, if_pos h0]
  omega
theorem Ship.drop_first {st : List ByteArray} {s : Ship} (h : s.Sails st) (h0 : 0 < s.back.length) : s.doP ⟨6, 0, ⟨#[]⟩⟩ = ({ s with back := s.back.eraseIdx 0 }, 0) ∧ (s.doP ⟨6, 0, ⟨#[]⟩⟩).1.Sails st ∧ ((s.doP ⟨6, 0, ⟨#[]⟩⟩).1.back.length : Int) = s.back.length - 1 ∧ (s.doP ⟨6, 0, ⟨#[]⟩⟩).2 = 0 := by
  have e : s.doP ⟨6, 0, ⟨#[]⟩⟩ = ({ s with back := s.back.eraseIdx 0 }, 0) := by
    rw [Ship.doP_0 (Ship.checkE_0.2 h.ok), Ship.step_6, if_pos rfl]
    unfold Ship.dropP
    rw [if_pos (wi_iff.2 ⟨by omega, by omega⟩)]; rfl
  have h2 := Ship.step_sails h (a := ⟨6, 0, ⟨#[]⟩⟩)
  rw [← Ship.doP_0 (Ship.checkE_0.2 h.ok), e] at h2
  refine ⟨e, by rw [e]; exact h2 rfl (by decide), ?_, by rw [e]⟩
  rw [e]
  simp only [List.length_eraseIdx, if_pos h0]
  omega
theorem Ship.again_does {st : List ByteArray} {s : Ship} (h : s.Sails st) : s.doP ⟨7, 0, ⟨#[]⟩⟩ = ({ s with sent := s.known }, 0) ∧ ({ s with sent := s.known } : Ship).Sails st := by
  have e : s.doP ⟨7, 0, ⟨#[]⟩⟩ = ({ s with sent := s.known }, 0) := by
    rw [Ship.doP_0 (Ship.checkE_0.2 h.ok), Ship.step_7, if_pos ⟨rfl, rfl⟩]
  have h2 := Ship.step_sails h (a := ⟨7, 0, ⟨#[]⟩⟩)
  rw [← Ship.doP_0 (Ship.checkE_0.2 h.ok), e] at h2
  exact ⟨e, h2 rfl (by decide)⟩
/-- What a round of sending comes to. -/
structure Ship.Calm (st : List ByteArray) (s : Ship) : Prop where
  sails : s.Sails st
  th : s.there = []
  bk : s.back = []
  se : s.sent = s.known
abbrev Ship.three : List Act := [⟨2, 0, ⟨#[]⟩⟩, ⟨3, 0, ⟨#[]⟩⟩, ⟨5, 0, ⟨#[]⟩⟩]
theorem Ship.round_does {st : List ByteArray} {s : Ship} (h : s.Calm st) : (s.runP Ship.three).2.2 = 0 ∧ (s.runP Ship.three).1.Calm st ∧ (s.runP Ship.three).1.log = s.log ∧
    ((s.known = s.log.length ∧ (s.runP Ship.three).1 = s) ∨ (s.known < s.log.length ∧ (s.runP Ship.three).2.1 = 3 ∧ s.known + 1 ≤ (s.runP Ship.three).1.known)) := by
  obtain ⟨hs, ht, hb, hse⟩ := h
  have hk := hs.ok.k
  have e0 : s.runP Ship.three = ((s.runGo Ship.three 0).1, (s.runGo Ship.three 0).2, 0) := Ship.runP_0 (Ship.checkE_0.2 hs.ok) (by decide)
  have hsr : (s.runGo Ship.three 0).1.Sails st := Ship.run_sails _ _ hs (by decide)
  rw [e0]
  by_cases hkl : s.known = s.log.length
  · have s1 : s.stepP ⟨2, 0, ⟨#[]⟩⟩ = (Ship.zero, 5) := by rw [Ship.step_2, if_pos ⟨rfl, rfl⟩]; unfold Ship.sendP; rw [if_pos (by omega)]
    have s2 : s.stepP ⟨3, 0, ⟨#[]⟩⟩ = (Ship.zero, 3) := by rw [Ship.step_3, if_pos rfl]; unfold Ship.passP; rw [if_neg]; rw [wi_iff, ht]; simp
    have s3 : s.stepP ⟨5, 0, ⟨#[]⟩⟩ = (Ship.zero, 3) := by rw [Ship.step_5, if_pos rfl]; unfold Ship.hearP; rw [if_neg]; rw [wi_iff, hb]; simp
    have e : s.runGo Ship.three 0 = (s, 0) := by simp [Ship.three, Ship.runGo, s1, s2, s3]
    rw [e]
    exact ⟨rfl, ⟨hs, ht, hb, hse⟩, rfl, .inl ⟨hkl, rfl⟩⟩
  · have hlt : s.known < s.log.length := by omega
    have s1 : s.stepP ⟨2, 0, ⟨#[]⟩⟩ = ({ s with sent := s.known + 1, there := [s.known + 1] }, 0) := by
      rw [Ship.step_2, if_pos ⟨rfl, rfl⟩]; unfold Ship.sendP; rw [if_neg (by omega), if_neg (by rw [ht]; simp), ht, hse]; rfl
    by_cases hap : s.known = s.applied
    · obtain ⟨r, hr⟩ : ∃ r, s.log[s.applied.toNat]? = some r := by
        have : s.applied.toNat < s.log.length := by omega
        exact ⟨_, List.getElem?_eq_getElem this⟩
      have s2 : Ship.stepP { s with sent := s.known + 1, there := [s.known + 1] } ⟨3, 0, ⟨#[]⟩⟩ = ({ s with sent := s.known + 1, there := [], second := s.second.set r.block.toNat r.data, applied := s.applied + 1, back := [s.applied + 1] }, 0) := by
        rw [Ship.step_3, if_pos rfl]; unfold Ship.passP; rw [if_pos (by rw [wi_iff]; simp)]
        simp [hb, hr, hap]
      have s3 : Ship.stepP { s with sent := s.known + 1, there := [], second := s.second.set r.block.toNat r.data, applied := s.applied + 1, back := [s.applied + 1] } ⟨5, 0, ⟨#[]⟩⟩ = ({ s with sent := s.applied + 1, there := [], second := s.second.set r.block.toNat r.data, applied := s.applied + 1, back := [], known := s.applied + 1 }, 0) := by
        rw [Ship.step_5, if_pos rfl]; unfold Ship.hearP; rw [if_pos (by rw [wi_iff]; simp)]
        simp; omega
      have e : s.runGo Ship.three 0 = ({ s with sent := s.applied + 1, there := [], second := s.second.set r.block.toNat r.data, applied := s.applied + 1, back := [], known := s.applied + 1 }, 3) := by
        simp only [Ship.three, Ship.runGo, s1, s2, s3, if_true]; rfl
      rw [e] at hsr ⊢
      exact ⟨rfl, ⟨hsr, rfl, rfl, rfl⟩, rfl, .inr ⟨hlt, rfl, by simp; omega⟩⟩
    · have s2 : Ship.stepP { s with sent := s.known + 1, there := [s.known + 1] } ⟨3, 0, ⟨#[]⟩⟩ = ({ s with sent := s.known + 1, there := [], back := [s.applied] }, 0) := by
        rw [Ship.step_3, if_pos rfl]; unfold Ship.passP; rw [if_pos (by rw [wi_iff]; simp)]
        have hne : ¬ s.known + 1 = s.applied + 1 := by omega
        cases hr : s.log[s.applied.toNat]? with
        | none => simp [hb, hr]
        | some r => simp [hb, hr, hap]
      have s3 : Ship.stepP { s with sent := s.known + 1, there := [], back := [s.applied] } ⟨5, 0, ⟨#[]⟩⟩ = ({ s with sent := s.applied, there := [], back := [], known := s.applied }, 0) := by
        rw [Ship.step_5, if_pos rfl]; unfold Ship.hearP; rw [if_pos (by rw [wi_iff]; simp)]
        simp; omega
      have e : s.runGo Ship.three 0 = ({ s with sent := s.applied, there := [], back := [], known := s.applied }, 3) := by
        simp only [Ship.three, Ship.runGo, s1, s2, s3, if_true]; rfl
      rw [e] at hsr ⊢
      exact ⟨rfl, ⟨hsr, rfl, rfl, rfl⟩, rfl, .inr ⟨hlt, rfl, by simp; omega⟩⟩
theorem Ship.round_says {st : List ByteArray} {s : Ship} (h : s.Calm st) : ((s.runP Ship.three).1.sent = (s.runP Ship.three).1.log.length ∨ (s.runP Ship.three).2.1 = 3) ∧ (s.known + 1 ≤ (s.runP Ship.three).1.known ∨ (s.known = s.log.length ∧ (s.runP Ship.three).1.known = s.log.length)) ∧ (s.runP Ship.three).1.log.length = s.log.length ∧ (s.runP Ship.three).2.2 = 0 := by
  obtain ⟨h1, h2, h3, ⟨h4, h5⟩ | ⟨h4, h5, h6⟩⟩ := Ship.round_does h
  · refine ⟨.inl ?_, .inr ⟨h4, ?_⟩, by rw [h3], h1⟩
    · rw [h5, h.se]; exact h4
    · rw [h5]; exact h4
  · exact ⟨.inr h5, .inl h6, by rw [h3], h1⟩
theorem Ship.Sails.end_ {m : Nat} {s : Ship} (h : s.Sails (List.replicate m ⟨#[]⟩)) (hk : s.applied = s.log.length) : s.first = s.second := by
  rw [h.fst, h.snd, List.take_of_length_le (by omega)]
end Go.Proofs.Ythdcanpbgaaneaa
