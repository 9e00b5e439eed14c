/- What the laws of ships say, in plain terms. No condition. -/
import Derived.Test.YthdcanpbgaaneaaPShipF
set_option maxRecDepth 100000
set_option linter.unusedVariables false
set_option linter.unusedSimpArgs false
namespace Go.Proofs.Ythdcanpbgaaneaa
theorem Ship.do_bad {s : Ship} {a : Act} (h : ¬ (s.doP a).2 = 0) : (s.doP a).1 = Ship.zero := by
  rcases Ship.do_small s a with ⟨h1, _⟩ | ⟨_, h1⟩
  · exact absurd h1 h
  · exact h1
/-- A record that passes. -/
theorem Ship.do_pass {s : Ship} {n : Int} (h : (s.doP ⟨3, n, ⟨#[]⟩⟩).2 = 0) : s.Ok ∧ 0 ≤ n ∧ n < s.there.length ∧
    ((∃ r, s.there[n.toNat]? = some (s.applied + 1) ∧ s.log[s.applied.toNat]? = some r ∧ (s.doP ⟨3, n, ⟨#[]⟩⟩).1.applied = s.applied + 1 ∧ (s.doP ⟨3, n, ⟨#[]⟩⟩).1.second = s.second.set r.block.toNat r.data) ∨
      (s.there[n.toNat]? ≠ some (s.applied + 1) ∧ (s.doP ⟨3, n, ⟨#[]⟩⟩).1.applied = s.applied ∧ (s.doP ⟨3, n, ⟨#[]⟩⟩).1.second = s.second)) := by
  rcases Ship.do_small s ⟨3, n, ⟨#[]⟩⟩ with ⟨_, ok, ok2⟩ | ⟨h1, _⟩
  · rw [Ship.doP_0 (Ship.checkE_0.2 ok), Ship.step_3, if_pos rfl] at h ⊢
    refine ⟨ok, ?_⟩
    rcases Ship.pass_cases (s := s) (n := n) with ⟨h3, _⟩ | ⟨p1, p2, _, ⟨r, q1, q2, e⟩ | ⟨q, e⟩⟩
    · exact absurd h h3
    · exact ⟨p1, p2, .inl ⟨r, q1, q2, by rw [e], by rw [e]⟩⟩
    · refine ⟨p1, p2, .inr ⟨fun hh => ?_, by rw [e], by rw [e]⟩⟩
      rcases q with q | q
      · exact q hh
      · have h1 := ok.t _ (List.mem_of_getElem? hh)
        have h2 := ok.k.1; have h3 := ok.k.2.1
        rw [List.getElem?_eq_none_iff] at q
        omega
  · exact absurd h h1
theorem replay_one {s : Ship} (ok : s.Ok) {r : Record} (h : s.log[s.applied.toNat]? = some r) : replay s.second (((s.log.drop s.applied.toNat)).take 1) = s.second.set r.block.toNat r.data := by
  obtain ⟨hl, rfl⟩ := List.getElem?_eq_some_iff.1 h
  have hb := ok.l2 _ (List.getElem_mem hl)
  have h2 := ok.f2
  rw [List.drop_eq_getElem_cons hl, List.take_succ_cons, List.take_zero, replay, if_pos ⟨hb.1, by omega⟩]
  rfl
/-- What a ship that never turned about is. -/
structure Ship.Sails (st : List ByteArray) (s : Ship) : Prop where
  ok : s.Ok
  len : s.first.length = st.length
  snd : s.second = replay st (s.log.take s.applied.toNat)
  fst : s.first = replay st s.log
/-- What a round of sending comes to. -/
structure Ship.Calm (st : List ByteArray) (s : Ship) : Prop where
  sails : s.Sails st
  th : s.there = []
  bk : s.back = []
  se : s.sent = s.known
theorem Ship.Sails.end_ {m : Nat} {s : Ship} (h : s.Sails (List.replicate m ⟨#[]⟩)) (hk : s.applied = s.log.length) : s.first = s.second := by
  rw [h.fst, h.snd, List.take_of_length_le (by omega)]
end Go.Proofs.Ythdcanpbgaaneaa
