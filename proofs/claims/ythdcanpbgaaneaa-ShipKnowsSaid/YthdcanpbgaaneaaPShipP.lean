/- What the laws of ships say, in plain terms. No condition. -/
import Derived.Test.YthdcanpbgaaneaaPShipF
set_option maxRecDepth 100000
set_option linter.unusedVariables false
set_option linter.unusedSimpArgs false
namespace Go.Proofs.Ythdcanpbgaaneaa
theorem Ship.step_turn {s : Ship} {a : Act} (h : (s.stepP a).2 = 0) (hk : a.kind = 8) : s.stepP a = (⟨s.second, s.second, [], 0, 0, 0, [], []⟩, 0) := by
  rcases Ship.step_cases h with ⟨k, e⟩ | ⟨k, e⟩ | ⟨k, e⟩ | ⟨k, e⟩ | ⟨k, e⟩ | ⟨k, e⟩ | ⟨k, e⟩ | ⟨k, e⟩ <;> first | omega | exact e
theorem Ship.do_turn {s : Ship} {a : Act} (h : (s.doP a).2 = 0) (hk : a.kind = 8) : (s.doP a).1 = ⟨s.second, s.second, [], 0, 0, 0, [], []⟩ := by
  rcases Ship.do_small s a with ⟨_, ok, _⟩ | ⟨h1, _⟩
  · rw [Ship.doP_0 (Ship.checkE_0.2 ok)] at h ⊢; rw [Ship.step_turn h hk]
  · exact absurd h h1
/-- What a step does to what is known and applied. -/
theorem Ship.step_knows {s : Ship} (ok : s.Ok) {a : Act} (h : (s.stepP a).2 = 0) (hk : a.kind ≠ 8) : s.known ≤ (s.stepP a).1.known ∧ s.applied ≤ (s.stepP a).1.applied ∧ (s.stepP a).1.applied ≤ s.applied + 1 := by
  rcases Ship.step_cases h with ⟨_, e⟩ | ⟨_, e⟩ | ⟨_, e⟩ | ⟨_, e⟩ | ⟨_, e⟩ | ⟨_, e⟩ | ⟨_, e⟩ | ⟨k, e⟩
  · rw [e] at h ⊢; revert h; unfold Ship.writeP; (repeat' split) <;> simp <;> omega
  · rw [e] at h ⊢; revert h; unfold Ship.sendP; (repeat' split) <;> simp <;> omega
  · rw [e] at h ⊢
    rcases Ship.pass_cases (s := s) (n := a.n) with ⟨h3, _⟩ | ⟨_, _, _, ⟨r, _, _, e⟩ | ⟨_, e⟩⟩
    · exact absurd h h3
    · rw [e]; simp; omega
    · rw [e]; simp; omega
  · rw [e] at h ⊢; revert h; unfold Ship.loseP; (repeat' split) <;> simp <;> omega
  · rw [e] at h ⊢; revert h; unfold Ship.hearP; (repeat' split) <;> simp <;> omega
  · rw [e] at h ⊢; revert h; unfold Ship.dropP; (repeat' split) <;> simp <;> omega
  · rw [e]; simp; omega
  · exact absurd k hk
theorem Ship.do_knows {s : Ship} {a : Act} (h : (s.doP a).2 = 0) (hk : a.kind ≠ 8) : s.Ok ∧ s.known ≤ (s.doP a).1.known ∧ s.applied ≤ (s.doP a).1.applied ∧ (s.doP a).1.applied ≤ s.applied + 1 ∧ (s.doP a).1.known ≤ (s.doP a).1.applied ∧ (s.doP a).1.checkE = 0 := by
  rcases Ship.do_small s a with ⟨_, ok, ok2⟩ | ⟨h1, _⟩
  · have e := Ship.doP_0 (a := a) (Ship.checkE_0.2 ok)
    rw [e] at h ok2 ⊢
    obtain ⟨a1, a2, a3⟩ := Ship.step_knows ok h hk
    exact ⟨ok, a1, a2, a3, ok2.k.2.1, Ship.checkE_0.2 ok2⟩
  · exact absurd h h1
theorem Ship.do_bad {s : Ship} {a : Act} (h : ¬ (s.doP a).2 = 0) : (s.doP a).1 = Ship.zero := by
  rcases Ship.do_small s a with ⟨h1, _⟩ | ⟨_, h1⟩
  · exact absurd h1 h
  · exact h1
/-- What a ship that never turned about is. -/
structure Ship.Sails (st : List ByteArray) (s : Ship) : Prop where
  ok : s.Ok
  len : s.first.length = st.length
  snd : s.second = replay st (s.log.take s.applied.toNat)
  fst : s.first = replay st s.log
/-- What a round of sending comes to. -/
structure Ship.Calm (st : List ByteArray) (s : Ship) : Prop where
  sails : s.Sails st
  th : s.there = []
  bk : s.back = []
  se : s.sent = s.known
theorem Ship.Sails.end_ {m : Nat} {s : Ship} (h : s.Sails (List.replicate m ⟨#[]⟩)) (hk : s.applied = s.log.length) : s.first = s.second := by
  rw [h.fst, h.snd, List.take_of_length_le (by omega)]
end Go.Proofs.Ythdcanpbgaaneaa
