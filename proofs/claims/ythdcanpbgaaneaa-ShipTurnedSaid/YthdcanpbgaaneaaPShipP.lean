/- What the laws of ships say, in plain terms. No condition. -/
import Derived.Test.YthdcanpbgaaneaaPShipF
set_option maxRecDepth 100000
set_option linter.unusedVariables false
set_option linter.unusedSimpArgs false
namespace Go.Proofs.Ythdcanpbgaaneaa
theorem Ship.step_turn {s : Ship} {a : Act} (h : (s.stepP a).2 = 0) (hk : a.kind = 8) : s.stepP a = (⟨s.second, s.second, [], 0, 0, 0, [], []⟩, 0) := by
  rcases Ship.step_cases h with ⟨k, e⟩ | ⟨k, e⟩ | ⟨k, e⟩ | ⟨k, e⟩ | ⟨k, e⟩ | ⟨k, e⟩ | ⟨k, e⟩ | ⟨k, e⟩ <;> first | omega | exact e
theorem Ship.do_turn {s : Ship} {a : Act} (h : (s.doP a).2 = 0) (hk : a.kind = 8) : (s.doP a).1 = ⟨s.second, s.second, [], 0, 0, 0, [], []⟩ := by
  rcases Ship.do_small s a with ⟨_, ok, _⟩ | ⟨h1, _⟩
  · rw [Ship.doP_0 (Ship.checkE_0.2 ok)] at h ⊢; rw [Ship.step_turn h hk]
  · exact absurd h h1
/-- What a ship that never turned about is. -/
structure Ship.Sails (st : List ByteArray) (s : Ship) : Prop where
  ok : s.Ok
  len : s.first.length = st.length
  snd : s.second = replay st (s.log.take s.applied.toNat)
  fst : s.first = replay st s.log
theorem Ship.step_sails {st : List ByteArray} {s : Ship} (hs : s.Sails st) {a : Act} (h : (s.stepP a).2 = 0) (hk : a.kind ≠ 8) : (s.stepP a).1.Sails st := by
  have ok' := Ship.step_ok hs.ok h
  obtain ⟨ok, hl, h2, h1⟩ := hs
  have hap := ok.k.2.2.2.1; have hk0 := ok.k.1; have hk1 := ok.k.2.1
  rcases Ship.step_cases h with ⟨_, e⟩ | ⟨_, e⟩ | ⟨_, e⟩ | ⟨_, e⟩ | ⟨_, e⟩ | ⟨_, e⟩ | ⟨_, e⟩ | ⟨k, e⟩
  · rw [e] at h ok' ⊢
    have key : (s.writeP a.n a.data).2 = 0 → wi a.n 0 ((s.first.length : Int) - 1) = true ∧ (s.writeP a.n a.data).1 = { s with first := s.first.set a.n.toNat a.data, log := s.log ++ [⟨a.n, a.data⟩] } := by
      unfold Ship.writeP; split
      · rename_i hw; split
        · simp
        · intro _; exact ⟨hw, rfl⟩
      · simp
    obtain ⟨hw, e2⟩ := key h
    rw [wi_iff] at hw
    rw [e2] at ok' ⊢
    refine ⟨ok', by simpa using hl, ?_, ?_⟩
    · show s.second = replay st ((s.log ++ [_]).take s.applied.toNat)
      rw [List.take_append_of_le_length (by omega)]; exact h2
    · show s.first.set _ _ = replay st (s.log ++ [_])
      rw [replay_app, ← h1, replay, replay, if_pos (show 0 ≤ a.n ∧ a.n < (s.first.length : Int) by omega)]
  · rw [e] at h ok' ⊢
    have key : s.sendP.2 = 0 → s.sendP.1 = { s with sent := s.sent + 1, there := s.there ++ [s.sent + 1] } := by
      unfold Ship.sendP; (repeat' split) <;> simp
    rw [key h] at ok' ⊢
    exact ⟨ok', hl, h2, h1⟩
  · rw [e] at h ok' ⊢
    rcases Ship.pass_cases (s := s) (n := a.n) with ⟨h3, _⟩ | ⟨_, _, _, ⟨r, _, hr, e⟩ | ⟨_, e⟩⟩
    · exact absurd h h3
    · rw [e] at ok' ⊢
      refine ⟨ok', hl, ?_, h1⟩
      show s.second.set _ _ = replay st (s.log.take (s.applied + 1).toNat)
      obtain ⟨hll, hre⟩ := List.getElem?_eq_some_iff.1 hr
      have hb := ok.l2 _ (List.mem_of_getElem? hr)
      have hf2 := ok.f2
      rw [show (s.applied + 1).toNat = s.applied.toNat + 1 by omega, List.take_succ_eq_append_getElem hll, replay_app, ← h2, hre, replay, replay, if_pos ⟨hb.1, by omega⟩]
    · rw [e] at ok' ⊢
      exact ⟨ok', hl, h2, h1⟩
  · rw [e] at h ok' ⊢
    have key : (s.loseP a.n).2 = 0 → (s.loseP a.n).1 = { s with there := s.there.eraseIdx a.n.toNat } := by
      unfold Ship.loseP; split <;> simp
    rw [key h] at ok' ⊢
    exact ⟨ok', hl, h2, h1⟩
  · rw [e] at h ok' ⊢
    have key : (s.hearP a.n).2 = 0 → ∃ x, (s.hearP a.n).1 = { s with back := s.back.eraseIdx a.n.toNat, known := max s.known x, sent := max s.sent (max s.known x) } := by
      unfold Ship.hearP; split
      · split
        · intro _; exact ⟨_, rfl⟩
        · simp
      · simp
    obtain ⟨x, e2⟩ := key h
    rw [e2] at ok' ⊢
    exact ⟨ok', hl, h2, h1⟩
  · rw [e] at h ok' ⊢
    have key : (s.dropP a.n).2 = 0 → (s.dropP a.n).1 = { s with back := s.back.eraseIdx a.n.toNat } := by
      unfold Ship.dropP; split <;> simp
    rw [key h] at ok' ⊢
    exact ⟨ok', hl, h2, h1⟩
  · rw [e] at ok' ⊢
    exact ⟨ok', hl, h2, h1⟩
  · exact absurd k hk
theorem Ship.run_sails {st : List ByteArray} : ∀ (l : List Act) {s : Ship} (n : Int), s.Sails st → (∀ a, a ∈ l → a.kind ≠ 8) → (s.runGo l n).1.Sails st
  | [], s, n, hs, _ => hs
  | a :: l, s, n, hs, hk => by
    unfold Ship.runGo
    split
    · exact Ship.run_sails l _ (Ship.step_sails hs ‹_› (hk a (by simp))) fun b hb => hk b (by simp [hb])
    · exact Ship.run_sails l _ hs fun b hb => hk b (by simp [hb])
theorem Ship.sail_sails {n : Int} {l : List Act} (h : (Ship.sailP n l).2 = true) : ∃ m, (Ship.sailP n l).1.Sails (List.replicate m ⟨#[]⟩) := by
  by_cases hn : (Ship.newP n).2 = 0
  · rw [Ship.sail_0 hn] at h ⊢
    simp only [beq_iff_eq] at h
    rcases Ship.run_cases (Ship.newP n).1 (noTurn l) with ⟨_, ok, _, e, _⟩ | ⟨h1, _⟩
    · simp only [e]
      refine ⟨n.toNat, Ship.run_sails _ _ ⟨ok, ?_, ?_, ?_⟩ fun a ha => ?_⟩
      · have := hn; unfold Ship.newP at hn ⊢; split
        · simp
        · rename_i hw; rw [if_neg hw] at hn; simp at hn
      · unfold Ship.newP at hn ⊢; split
        · simp [replay]
        · rename_i hw; rw [if_neg hw] at hn; simp at hn
      · unfold Ship.newP at hn ⊢; split
        · simp [replay]
        · rename_i hw; rw [if_neg hw] at hn; simp at hn
      · unfold noTurn at ha
        rw [List.mem_filter] at ha
        simpa using ha.2
    · exact absurd h h1
  · rw [Ship.sail_n hn] at h; simp at h
/-- In the terms of the laws. -/
theorem Ship.Sails.told {m : Nat} {s : Ship} (h : s.Sails (List.replicate m ⟨#[]⟩)) : s.second = replay (List.replicate s.first.length ⟨#[]⟩) (s.log.take s.applied.toNat) ∧ s.first = replay (List.replicate s.first.length ⟨#[]⟩) s.log := by
  have hl := h.len
  rw [List.length_replicate] at hl
  rw [hl]
  exact ⟨h.snd, h.fst⟩
theorem Ship.turn_0 {s : Ship} (ok : s.Ok) : (s.doP ⟨8, 0, ⟨#[]⟩⟩).2 = 0 := by
  rw [Ship.doP_0 (Ship.checkE_0.2 ok), Ship.step_8, if_pos ⟨rfl, rfl⟩]
theorem Ship.turned_at {m : Nat} {s : Ship} (h : s.Sails (List.replicate m ⟨#[]⟩)) : (s.doP ⟨8, 0, ⟨#[]⟩⟩).1.first = replay (List.replicate (Int.toNat (s.first.length : Int)) ⟨#[]⟩) (List.take (Int.toNat s.applied) s.log) := by
  rw [Ship.do_turn (Ship.turn_0 h.ok) rfl]; exact h.told.1
/-- What a round of sending comes to. -/
structure Ship.Calm (st : List ByteArray) (s : Ship) : Prop where
  sails : s.Sails st
  th : s.there = []
  bk : s.back = []
  se : s.sent = s.known
theorem Ship.Sails.end_ {m : Nat} {s : Ship} (h : s.Sails (List.replicate m ⟨#[]⟩)) (hk : s.applied = s.log.length) : s.first = s.second := by
  rw [h.fst, h.snd, List.take_of_length_le (by omega)]
end Go.Proofs.Ythdcanpbgaaneaa
