/- What the laws of epochs rest on, in plain Lean. No condition. -/
import Derived.Test.YtlkiabiphggmgaaEpochB
namespace Go.Proofs.Ytlkiabiphggmgaa
set_option linter.unusedSimpArgs false
set_option linter.unusedVariables false
open Go.ChangeShapes Go.WideShapes Go.ChangeAt Go.RowKit
open Go.ChangeMaps (open_string shut_string)
theorem u64_of_wf {n : Int} (h : (Lit.int .u64 n).wf = true) : ∃ x : U64, n = (x.n : Int) := by
  simp only [Lit.wf, Bool.and_eq_true, decide_eq_true_eq] at h
  have h1 : IntKind.u64.min = 0 := rfl
  have h2 : IntKind.u64.max = 18446744073709551615 := rfl
  refine ⟨⟨n.toNat, by omega⟩, ?_⟩
  show n = (n.toNat : Int)
  omega
theorem bvia {m a b c : World} (_ : Below m.heap.size m a) (h : Below m.heap.size m b) (k : Below b.heap.size b c) : Below m.heap.size m c := bt h k
theorem bitN (x k : Nat) : x / 2 ^ k % 2 = (x.testBit k).toNat := by
  rw [Nat.testBit_eq_decide_div_mod_eq]
  rcases Nat.mod_two_eq_zero_or_one (x / 2 ^ k) with e | e <;> simp [e]
/-! ### Majorities -/
theorem share_cnt {p q a b : Nat} : ∀ (k : Nat), (∀ i, i < k → (a &&& b &&& p &&& q).testBit i = false) → 2 * cnt k (p &&& a) + 2 * cnt k (q &&& b) ≤ cnt k p + cnt k q + cnt k (q ^^^ p)
  | 0, _ => by simp [cnt]
  | k + 1, h => by
    have ih := share_cnt k fun i hi => h i (by omega)
    have hk := h k (by omega)
    simp only [cnt, bitN, Nat.testBit_and, Nat.testBit_xor] at *
    revert hk
    cases a.testBit k <;> cases b.testBit k <;> cases p.testBit k <;> cases q.testBit k <;> simp <;> omega
theorem share_law {x y : Epoch} {a b : Nat} (hx : pop (y.members.n ^^^ x.members.n) ≤ 1) (ha : x.majorB a = true) (hb : y.majorB b = true) : a &&& b &&& x.members.n &&& y.members.n ≠ 0 := by
  intro h0
  unfold Epoch.majorB at ha hb
  simp only [decide_eq_true_eq, pop_eq] at *
  have := share_cnt (p := x.members.n) (q := y.members.n) (a := a) (b := b) 64 fun i _ => by rw [h0]; simp
  omega
theorem half_cnt {p a b : Nat} : ∀ (k : Nat), (∀ i, i < k → b.testBit i = !a.testBit i) → cnt k (p &&& a) + cnt k (p &&& b) = cnt k p
  | 0, _ => by simp [cnt]
  | k + 1, h => by
    have ih := half_cnt (p := p) k fun i hi => h i (by omega)
    have hk := h k (by omega)
    simp only [cnt, bitN, Nat.testBit_and, Nat.testBit_xor] at *
    rw [hk]
    cases a.testBit k <;> cases p.testBit k <;> simp <;> omega
theorem mono_cnt {p a b : Nat} : ∀ (k : Nat), cnt k (p &&& a) ≤ cnt k (p &&& (a ||| b))
  | 0 => by simp [cnt]
  | k + 1 => by
    have ih := mono_cnt (p := p) (a := a) (b := b) k
    simp only [cnt, bitN, Nat.testBit_and, Nat.testBit_or] at *
    cases a.testBit k <;> cases b.testBit k <;> cases p.testBit k <;> simp <;> omega
/-! ### Turns -/
namespace Epoch
theorem check_snoc {l : List Epoch} {x : Epoch} : checkP (l ++ [x]) = 0 ↔ checkP l = 0 ∧ l.length < 64 ∧ rightE l x = 0 := by
  rw [check_iff, check_iff]
  constructor
  · rintro ⟨h1, h2⟩
    simp only [List.length_append, List.length_cons, List.length_nil] at h1
    refine ⟨⟨by omega, fun i e he => ?_⟩, by omega, ?_⟩
    · have hi := (List.getElem?_eq_some_iff.1 he).1
      have := h2 i e (by rw [List.getElem?_append_left hi]; exact he)
      rwa [List.take_append_of_le_length (by omega)] at this
    · have := h2 l.length x (by simp)
      rwa [List.take_left] at this
  · rintro ⟨⟨h1, h2⟩, h3, h4⟩
    refine ⟨by simp; omega, fun i e he => ?_⟩
    by_cases hi : i < l.length
    · rw [List.getElem?_append_left hi] at he
      rw [List.take_append_of_le_length (by omega)]
      exact h2 i e he
    · have hlt := (List.getElem?_eq_some_iff.1 he).1
      simp only [List.length_append, List.length_cons, List.length_nil] at hlt
      have : i = l.length := by omega
      subst this
      simp at he
      subst he
      rwa [List.take_left]
theorem last_pos {l : List Epoch} (h : checkP l = 0) (hne : l.length ≠ 0) : lastM l ≠ 0 := by
  obtain ⟨m, hm⟩ : ∃ m, l.length = m + 1 := ⟨l.length - 1, by omega⟩
  have hlt : m < l.length := by omega
  rw [lastM_get hm (List.getElem?_eq_getElem hlt)]
  exact (right_zero.1 ((check_iff.1 h).2 m _ (List.getElem?_eq_getElem hlt))).2.2.1
/-- A turn that is made: one epoch more, and what turning once more comes to. -/
theorem turn_law {l : List Epoch} {node : Int} (h : (turnP l node).2 = 0) : ∃ x, turnP l node = (l ++ [x], 0) ∧ l.length ≠ 0 ∧ l.length < 64 ∧ checkP (l ++ [x]) = 0 ∧
    (turnP (l ++ [x]) node = ([], 2) ∧ l.length + 1 = 64 ∨ ∃ y, turnP (l ++ [x]) node = (l ++ [x] ++ [y], 0) ∧ y.members.n = lastM l) := by
  unfold turnP at h
  split at h
  case isFalse hc => exact absurd h hc
  case isTrue h0 =>
  split at h
  · simp at h
  rename_i hne
  split at h
  · simp at h
  rename_i hno
  split at h
  · simp at h
  rename_i h64
  split at h
  case isFalse hc => exact absurd h hc
  case isTrue hr =>
  obtain ⟨m, rfl⟩ : ∃ m : Nat, node = (m : Int) := ⟨node.toNat, by omega⟩
  have hm : m < 12 := by omega
  have hlen := check_len h0
  have hck : checkP (l ++ [next l m]) = 0 := check_snoc.2 ⟨h0, by omega, hr⟩
  have h1 : turnP l m = (l ++ [next l m], 0) := by unfold turnP; rw [if_pos h0, if_neg hne, if_neg hno, if_neg h64, if_pos hr]
  refine ⟨next l m, h1, hne, by omega, hck, ?_⟩
  have hn2 : (next l m).members.n = lastM l ^^^ 2 ^ m := by
    show (U64.of (lastM l ^^^ 2 ^ (m : Int).toNat)).n = _
    rw [Int.toNat_natCast, U64.of_n (by have := next_lt h0 hm; omega)]
  have hlast : lastM (l ++ [next l m]) ^^^ 2 ^ m = lastM l := by rw [lastM_snoc, hn2, Nat.xor_assoc, Nat.xor_self, Nat.xor_zero]
  by_cases h63 : l.length + 1 = 64
  · left
    refine ⟨?_, h63⟩
    unfold turnP
    rw [if_pos hck, if_neg (by simp), if_neg hno, if_pos (by simp; omega)]
  · right
    refine ⟨next (l ++ [next l m]) m, ?_, ?_⟩
    · unfold turnP
      rw [if_pos hck, if_neg (by simp), if_neg hno, if_neg (by simp; omega), if_pos]
      rw [right_next hck hm, if_neg (by rw [hlast]; exact last_pos h0 hne)]
    · show (U64.of (lastM (l ++ [next l m]) ^^^ 2 ^ (m : Int).toNat)).n = _
      rw [Int.toNat_natCast, hlast, U64.of_n (lastM_lt l)]
theorem turn_bad {l : List Epoch} {node : Int} (h : (turnP l node).2 ≠ 0) : (turnP l node).1 = [] := by
  unfold turnP at h ⊢
  repeat' split
  all_goals simp_all
/-! ### What is common -/
theorem every_and (n : Nat) : ∀ (l : List Epoch) (b : Bool), everyB n l b = (b && everyB n l true)
  | [], b => by simp [everyB]
  | e :: l, b => by
    rw [everyB, everyB, every_and n l, every_and n l (true && _)]
    cases b <;> simp
theorem every_append (n : Nat) (l m : List Epoch) (b : Bool) : everyB n (l ++ m) b = everyB n m (everyB n l b) := by
  induction l generalizing b with
  | nil => rfl
  | cons e l ih => exact ih _
theorem every_mem {n : Nat} {l : List Epoch} {x : Epoch} (h : everyB n l true = true) (hx : x ∈ l) : x.members.n.testBit n = true := by
  induction l with
  | nil => cases hx
  | cons e l ih =>
    rw [everyB, every_and] at h
    simp only [Bool.true_and, Bool.and_eq_true, bit_eq] at h
    rcases List.mem_cons.1 hx with rfl | hx
    · exact h.1
    · exact ih h.2 hx
theorem common_sub {l : List Epoch} {x : Epoch} (hx : x ∈ l) (n : Nat) (h : (commonGo 0 l 0).testBit n = true) : x.members.n.testBit n = true := by
  have hne : l ≠ [] := by rintro rfl; cases hx
  rw [← bit_eq, ← common_every n hne] at h
  exact every_mem h hx
theorem common_less {l : List Epoch} {k : Nat} (hk : 0 < k) (hl : l ≠ []) (n : Nat) (h : (commonGo 0 l 0).testBit n = true) : (commonGo 0 (l.take k) 0).testBit n = true := by
  have hne : l.take k ≠ [] := by
    cases l with
    | nil => exact absurd rfl hl
    | cons e l => obtain ⟨k, rfl⟩ : ∃ j, k = j + 1 := ⟨k - 1, by omega⟩; simp
  rw [← bit_eq, ← common_every n hl] at h
  rw [← bit_eq, ← common_every n hne]
  rw [← List.take_append_drop k l, every_append, every_and] at h
  simp only [Bool.and_eq_true] at h
  exact h.1
theorem check_take {l : List Epoch} (k : Nat) (h : checkP l = 0) : checkP (l.take k) = 0 := by
  obtain ⟨h1, h2⟩ := check_iff.1 h
  refine check_iff.2 ⟨by simp; omega, fun i e he => ?_⟩
  rw [List.getElem?_take] at he
  split at he
  · rename_i hi
    have := h2 i e he
    rwa [List.take_take, show min i k = i by omega]
  · cases he
end Epoch
end Go.Proofs.Ytlkiabiphggmgaa
