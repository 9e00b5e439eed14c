/- What the laws of ships say, in plain terms. No condition. -/
import Derived.Test.YthdcanpbgaaneaaPShipF
set_option maxRecDepth 100000
set_option linter.unusedVariables false
set_option linter.unusedSimpArgs false
namespace Go.Proofs.Ythdcanpbgaaneaa
/-- What a ship that never turned about is. -/
structure Ship.Sails (st : List ByteArray) (s : Ship) : Prop where
  ok : s.Ok
  len : s.first.length = st.length
  snd : s.second = replay st (s.log.take s.applied.toNat)
  fst : s.first = replay st s.log
/-- What a round of sending comes to. -/
structure Ship.Calm (st : List ByteArray) (s : Ship) : Prop where
  sails : s.Sails st
  th : s.there = []
  bk : s.back = []
  se : s.sent = s.known
theorem Ship.Sails.end_ {m : Nat} {s : Ship} (h : s.Sails (List.replicate m ⟨#[]⟩)) (hk : s.applied = s.log.length) : s.first = s.second := by
  rw [h.fst, h.snd, List.take_of_length_le (by omega)]
/-- Run in two parts. -/
theorem Ship.run_parts {s : Ship} {l : List Act} (h : (s.runP l).2.2 = 0) (k : Nat) : (s.runP (l.take k)).2.2 = 0 ∧ ((s.runP (l.take k)).1.runP (l.drop k)).2.2 = 0 ∧ ((s.runP (l.take k)).1.runP (l.drop k)).1 = (s.runP l).1 ∧ (s.runP (l.take k)).2.1 + ((s.runP (l.take k)).1.runP (l.drop k)).2.1 = (s.runP l).2.1 ∧ (s.runP l).1.checkE = 0 ∧
    0 ≤ (s.runP (l.take k)).2.1 ∧ (s.runP (l.take k)).2.1 ≤ 200 ∧ 0 ≤ ((s.runP (l.take k)).1.runP (l.drop k)).2.1 ∧ ((s.runP (l.take k)).1.runP (l.drop k)).2.1 ≤ 200 := by
  rcases Ship.run_cases s l with ⟨_, ok, hl, e, ok2⟩ | ⟨h1, _⟩
  · have hc := Ship.checkE_0.2 ok
    have e1 := Ship.runP_0 (l := l.take k) hc (by rw [List.length_take]; omega)
    have ok1 := Ship.run_ok (l.take k) 0 ok
    have e2 := Ship.runP_0 (s := (s.runGo (l.take k) 0).1) (l := l.drop k) (Ship.checkE_0.2 ok1) (by rw [List.length_drop]; omega)
    have ea := Ship.run_app (l.take k) (l.drop k) s 0
    rw [List.take_append_drop] at ea
    have eb := Ship.run_add (l.drop k) (s.runGo (l.take k) 0).1 (s.runGo (l.take k) 0).2
    have b1 := Ship.run_le (l.take k) s
    have b2 := Ship.run_le (l.drop k) (s.runGo (l.take k) 0).1
    rw [List.length_take] at b1
    rw [List.length_drop] at b2
    refine ⟨by rw [e1], by rw [e1, e2], ?_, ?_, Ship.checkE_0.2 ok2, ?_, ?_, ?_, ?_⟩
    · rw [e1, e, e2, ea, eb]
    · rw [e1, e, e2, ea, eb]
    · rw [e1]; exact b1.1
    · rw [e1]; simp only; omega
    · rw [e1, e2]; exact b2.1
    · rw [e1, e2]; simp only; omega
  · exact absurd h h1
end Go.Proofs.Ythdcanpbgaaneaa
