/- Plain laws of copies: which one is kept. No condition. -/
import Derived.Test.YtnfffbgnjobkfaaCopiesM
namespace Go.Proofs.Ytnfffbgnjobkfaa
set_option linter.unusedSimpArgs false
set_option linter.unusedVariables false
namespace Stamp
theorem lessF {a b : Stamp} : lessB a b = false ↔ ¬ (a.time < b.time ∨ (a.time = b.time ∧ a.who < b.who)) := by simp [lessB]
theorem less_irr (a : Stamp) : lessB a a = false := lessF.2 (by omega)
theorem less_tr {a b c : Stamp} (h1 : lessB b a = false) (h2 : lessB b c = true) : lessB a c = true := by
  rw [lessF] at h1; rw [lessB_iff] at *; omega
theorem eq_iff {a b : Stamp} : a = b ↔ a.time = b.time ∧ a.who = b.who := by
  constructor
  · rintro rfl; exact ⟨rfl, rfl⟩
  · rintro ⟨h1, h2⟩; ext <;> assumption
end Stamp
namespace Copy
open Stamp
theorem raw_self (c : Copy) : c.raw c = c := by unfold raw; split <;> rfl
theorem raw_mem (c o : Copy) : c.raw o = c ∨ c.raw o = o := by unfold raw; split <;> simp
theorem raw_ok {c o : Copy} (hc : c.ok) (ho : o.ok) : (c.raw o).ok := by
  rcases raw_mem c o with h | h <;> rw [h] <;> assumption
theorem raw_E {c o : Copy} (hc : c.copyE = 0) (ho : o.copyE = 0) : (c.raw o).copyE = 0 := by
  rcases raw_mem c o with h | h <;> rw [h] <;> assumption
theorem zero_ok : (⟨⟨0, 0⟩, ByteArray.empty⟩ : Copy).ok := ⟨by decide, by decide, by decide⟩
theorem storeP_cases (c o : Copy) : (∃ e, (e != 0) = true ∧ c.storeP o = (⟨⟨0, 0⟩, ByteArray.empty⟩, e)) ∨ (c.copyE = 0 ∧ o.copyE = 0 ∧ c.storeP o = (c.raw o, 0)) := by
  unfold storeP
  by_cases h1 : c.copyE = 0
  · by_cases h2 : o.copyE = 0
    · exact .inr ⟨h1, h2, by rw [if_pos h1, if_pos h2]⟩
    · exact .inl ⟨_, by simpa using h2, by rw [if_pos h1, if_neg h2]⟩
  · exact .inl ⟨_, by simpa using h1, by rw [if_neg h1]⟩
theorem store_good {c o : Copy} (h1 : c.copyE = 0) (h2 : o.copyE = 0) : c.storeP o = (c.raw o, 0) := by
  unfold storeP; rw [if_pos h1, if_pos h2]
theorem storeP_ok {c o : Copy} (hc : c.ok) (ho : o.ok) : (c.storeP o).1.ok := by
  rcases storeP_cases c o with ⟨e, _, h⟩ | ⟨_, _, h⟩ <;> rw [h]
  · exact zero_ok
  · exact raw_ok hc ho
theorem raw_not (c o : Copy) : lessB (c.raw o).at_ c.at_ = false ∧ lessB (c.raw o).at_ o.at_ = false := by
  unfold raw; split
  · rename_i h; refine ⟨?_, less_irr _⟩; rw [lessF]; rw [lessB_iff] at h; omega
  · rename_i h; exact ⟨less_irr _, by simpa using h⟩
/-! ### The first one of the greatest -/
/-- out is the first one of 'all' that none is above. -/
def Top (all : List Copy) (out : Copy) : Prop := ∃ a b, all = a ++ out :: b ∧ (∀ x, x ∈ a → lessB x.at_ out.at_ = true) ∧ ∀ y, y ∈ all → lessB out.at_ y.at_ = false
theorem Top.one (c : Copy) : Top [c] c := ⟨[], [], rfl, by simp, by simp [less_irr]⟩
theorem Top.snoc {all : List Copy} {out : Copy} (h : Top all out) (c : Copy) : Top (all ++ [c]) (out.raw c) := by
  obtain ⟨a, b, h1, h2, h3⟩ := h
  unfold raw
  split
  · rename_i hc
    refine ⟨all, [], rfl, fun x hx => less_tr (h3 x hx) hc, fun y hy => ?_⟩
    rcases List.mem_append.1 hy with h | h
    · have := less_tr (h3 y h) hc
      rw [lessF]; rw [lessB_iff] at this; omega
    · rw [List.mem_singleton.1 h]; exact less_irr _
  · rename_i hc
    refine ⟨a, b ++ [c], by rw [h1]; simp, h2, fun y hy => ?_⟩
    rcases List.mem_append.1 hy with h | h
    · exact h3 y h
    · rw [List.mem_singleton.1 h]; simpa using hc
theorem mgo_fold (l : List Copy) : ∀ (k : Nat) (out : Copy), 0 < k → mgo k l out = l.foldl raw out := by
  induction l with
  | nil => intros; rfl
  | cons c l ih => intro k out hk; rw [mgo, if_neg (by omega), ih _ _ (by omega)]; rfl
theorem merge_cons (c : Copy) (l : List Copy) : mergeL (c :: l) = l.foldl raw c := by
  unfold mergeL; rw [mgo, if_pos rfl, raw_self, mgo_fold _ _ _ (by omega)]
theorem fold_top (l : List Copy) : ∀ (p : List Copy) (out : Copy), Top p out → Top (p ++ l) (l.foldl raw out) := by
  induction l with
  | nil => intro p out h; simpa using h
  | cons c l ih => intro p out h; have := ih _ _ (h.snoc c); simpa using this
theorem merge_top {l : List Copy} (h : l ≠ []) : Top l (mergeL l) := by
  cases l with
  | nil => exact absurd rfl h
  | cons c l => rw [merge_cons]; exact fold_top l [c] c (Top.one c)
theorem above_true {s : Stamp} : ∀ (l : List Copy), aboveB s l true = true
  | [] => rfl
  | c :: l => by rw [aboveB, Bool.true_or]; exact above_true l
theorem above_iff {s : Stamp} : ∀ (l : List Copy), aboveB s l false = true ↔ ∃ c, c ∈ l ∧ lessB s c.at_ = true
  | [] => by simp [aboveB]
  | c :: l => by
    rw [aboveB, Bool.false_or]
    cases h : lessB s c.at_
    · rw [above_iff l]; simp [h]
    · rw [above_true]; simp [h]
theorem first_app {all : List Copy} {out : Copy} {b : List Copy} (h3 : aboveB out.at_ all false = false) : ∀ (a : List Copy), (∀ x, x ∈ a → aboveB x.at_ all false = true) → first all (a ++ out :: b) = out
  | [], _ => by rw [List.nil_append, first, if_neg (by simp [h3])]
  | x :: a, h => by
    rw [List.cons_append, first, if_pos (h x (by simp))]
    exact first_app h3 a fun y hy => h y (by simp [hy])
theorem first_of_top {all : List Copy} {out : Copy} (h : Top all out) : first all all = out := by
  obtain ⟨a, b, h1, h2, h3⟩ := h
  have k1 : aboveB out.at_ all false = false := by
    cases hh : aboveB out.at_ all false
    · rfl
    · obtain ⟨c, hc, hl⟩ := (above_iff all).1 hh
      rw [h3 c hc] at hl; cases hl
  have k2 := first_app (b := b) k1 a fun x hx => (above_iff all).2 ⟨out, by rw [h1]; simp, h2 x hx⟩
  rwa [← h1] at k2
theorem merge_first (l : List Copy) : mergeL l = first l l := by
  cases l with
  | nil => rfl
  | cons c l => exact (first_of_top (merge_top (by simp))).symm
theorem mergeP_eq (l : List Copy) : mergeP l = rmergeP l := by unfold mergeP rmergeP; rw [merge_first]
/-! ### Stale ones -/
theorem stale_go (top : Stamp) : ∀ (l : List Copy) (k s : Nat), (∀ c, c ∈ l → lessB top c.at_ = false) → s < 2 ^ k → staleGo top k l s = rstaleGo top k l s
  | [], _, _, _, _ => rfl
  | c :: l, k, s, h, hs => by
    have h1 := h c (by simp)
    have h2 : ∀ d, d ∈ l → lessB top d.at_ = false := fun d hd => h d (by simp [hd])
    rw [staleGo, rstaleGo]
    have hlt : s + 2 ^ k < 2 ^ (k + 1) := by rw [Nat.pow_succ]; omega
    have hlt2 : s < 2 ^ (k + 1) := by rw [Nat.pow_succ]; omega
    by_cases hc : c.at_.time = top.time ∧ c.at_.who = top.who
    · rw [if_pos hc, if_neg (by rw [Bool.not_eq_true, lessF]; omega)]
      exact stale_go top l _ _ h2 hlt2
    · rw [if_neg hc, if_pos (by rw [lessB_iff]; rw [lessF] at h1; omega)]
      have : s ||| 2 ^ k = s + 2 ^ k := by
        have := Nat.two_pow_add_eq_or_of_lt hs 1
        rw [Nat.mul_one] at this
        rw [Nat.add_comm, this, Nat.or_comm]
      rw [this]
      exact stale_go top l _ _ h2 hlt
theorem top_le {l : List Copy} {c : Copy} (hc : c ∈ l) : lessB (mergeL l).at_ c.at_ = false := by
  obtain ⟨a, b, _, _, h3⟩ := merge_top (l := l) (by rintro rfl; simp at hc)
  exact h3 c hc
theorem top_mem {l : List Copy} (h : l ≠ []) : mergeL l ∈ l := by
  obtain ⟨a, b, h1, _, _⟩ := merge_top h
  exact (congrArg (mergeL l ∈ ·) h1).mpr (by simp)
theorem mergeP_cases (l : List Copy) : (∃ e, (e != 0) = true ∧ mergeP l = (⟨⟨0, 0⟩, ByteArray.empty⟩, e)) ∨ (l.length ≤ 12 ∧ rightE l = 0 ∧ mergeP l = (mergeL l, 0)) := by
  unfold mergeP
  by_cases h : 12 < l.length
  · exact .inl ⟨2, rfl, by rw [if_pos h]⟩
  · by_cases h2 : rightE l = 0
    · exact .inr ⟨by omega, h2, by rw [if_neg h, if_pos h2]⟩
    · exact .inl ⟨_, by simpa using h2, by rw [if_neg h, if_neg h2]⟩
theorem staleP_eq (l : List Copy) : staleP l = rstaleP l := by
  unfold staleP rstaleP
  rw [← mergeP_eq]
  rcases mergeP_cases l with ⟨e, he, h⟩ | ⟨_, _, h⟩
  · rw [h]
    have : ¬ e = 0 := by simpa using he
    rw [if_neg this, if_neg this]
  · rw [h, if_pos rfl, if_pos rfl, stale_go _ _ _ _ (fun c hc => top_le hc) (by decide)]
theorem rightE_mem : ∀ {l : List Copy}, rightE l = 0 → ∀ c, c ∈ l → c.copyE = 0
  | [], _, c, hc => by simp at hc
  | d :: l, h, c, hc => by
    rw [rightE] at h
    by_cases hd : d.copyE = 0
    · rw [if_pos hd] at h
      rcases List.mem_cons.1 hc with rfl | hc
      · exact hd
      · exact rightE_mem h c hc
    · rw [if_neg hd] at h; exact absurd h hd
theorem rightE_of : ∀ {l : List Copy}, (∀ c, c ∈ l → c.copyE = 0) → rightE l = 0
  | [], _ => rfl
  | d :: l, h => by rw [rightE, if_pos (h d (by simp))]; exact rightE_of fun c hc => h c (by simp [hc])
/-! ### Order is no matter -/
theorem raw_comm {c a b : Copy} (h1 : a.at_ = b.at_ → a.data = b.data) (h2 : c.at_ = a.at_ → c.data = a.data) (h3 : c.at_ = b.at_ → c.data = b.data) : (c.raw a).raw b = (c.raw b).raw a ∧ ((c.raw a).raw b).raw a = (c.raw a).raw b := by
  have e1 : a.at_ = b.at_ → a = b := fun h => by cases a; cases b; simp_all
  have e2 : c.at_ = a.at_ → c = a := fun h => by cases a; cases c; simp_all
  have e3 : c.at_ = b.at_ → c = b := fun h => by cases c; cases b; simp_all
  rw [eq_iff] at e1 e2 e3
  clear h1 h2 h3
  unfold raw
  cases hca : lessB c.at_ a.at_ <;> cases hcb : lessB c.at_ b.at_ <;> cases hab : lessB a.at_ b.at_ <;> cases hba : lessB b.at_ a.at_ <;> cases hac : lessB a.at_ c.at_ <;> cases hbc : lessB b.at_ c.at_ <;>
    simp only [lessF, lessB_iff] at hca hcb hab hba hac hbc <;> (try (exfalso; omega)) <;> simp [less_irr, lessB_iff, lessF, *] <;> grind
end Copy
end Go.Proofs.Ytnfffbgnjobkfaa
