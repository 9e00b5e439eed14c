/- Each operation does in memory what it says of abstract values: append, comparison, and all together. No condition. -/
import Derived.Test.YtgepadjkegfokaaDoorPAvSnd3
import Derived.Laws.Bits
set_option linter.unusedSimpArgs false
set_option linter.unusedVariables false
namespace Go.Proofs.YtgepadjkegfokaaDoor
set_option linter.unusedSimpArgs false
set_option linter.unusedVariables false
open Go.RowKit
section
variable {P : Program} {E : Env} {J : Nat → Prop} {base : Nat} {g : Nat → Option Bk} {ρv : Operand → Value} {ρ : Arg → AV} {fresh : Nat}
/-- The cells of elements, as one list. -/
def Els (E : Env) (sz : Nat) (news : List Value) (ys : List (List AV)) : Prop :=
  news.length = ys.length * sz ∧ ∀ (i : Nat) cs, ys[i]? = some cs → cs.length = sz ∧ ∀ (j : Nat) x, cs[j]? = some x → ∃ u, news[i * sz + j]? = some u ∧ u.oneCell' = true ∧ Rep E u x
theorem Els.step {E E' : Env} (hE : E.Le E') {sz : Nat} {news : List Value} {ys : List (List AV)} (h : Els E sz news ys) : Els E' sz news ys :=
  ⟨h.1, fun i cs hi => ⟨(h.2 i cs hi).1, fun j x hj => by obtain ⟨u, k1, k2, k3⟩ := (h.2 i cs hi).2 j x hj; exact ⟨u, k1, k2, k3.step hE⟩⟩⟩
theorem Els.append {E : Env} {sz : Nat} {n1 n2 : List Value} {y1 y2 : List (List AV)} (h1 : Els E sz n1 y1) (h2 : Els E sz n2 y2) : Els E sz (n1 ++ n2) (y1 ++ y2) := by
  refine ⟨by simp [h1.1, h2.1, Nat.add_mul], fun i cs hi => ?_⟩
  by_cases hl : i < y1.length
  · rw [List.getElem?_append_left hl] at hi
    refine ⟨(h1.2 i cs hi).1, fun j x hj => ?_⟩
    obtain ⟨u, k1, k2, k3⟩ := (h1.2 i cs hi).2 j x hj
    exact ⟨u, by rw [List.getElem?_append_left (List.getElem?_eq_some_iff.1 k1).1]; exact k1, k2, k3⟩
  · rw [List.getElem?_append_right (by omega)] at hi
    refine ⟨(h2.2 _ cs hi).1, fun j x hj => ?_⟩
    obtain ⟨u, k1, k2, k3⟩ := (h2.2 _ cs hi).2 j x hj
    refine ⟨u, ?_, k2, k3⟩
    have hm : i * sz = y1.length * sz + (i - y1.length) * sz := by rw [← Nat.add_mul]; congr 1; omega
    rw [List.getElem?_append_right (by rw [h1.1, hm]; omega), h1.1, hm, show y1.length * sz + (i - y1.length) * sz + j - y1.length * sz = (i - y1.length) * sz + j by omega]
    exact k1
theorem Els.all {E : Env} {sz : Nat} (hpos : 0 < sz) {news : List Value} {ys : List (List AV)} (h : Els E sz news ys) : ∀ u, u ∈ news → u.oneCell' = true := by
  intro u hu
  obtain ⟨k, hk, rfl⟩ := List.getElem_of_mem hu
  have hi : k / sz < ys.length := by rw [h.1] at hk; exact Nat.div_lt_of_lt_mul (by rw [Nat.mul_comm]; exact hk)
  have hel := h.2 (k / sz) _ (List.getElem?_eq_getElem hi)
  have hj : k % sz < (ys[k / sz]).length := by rw [hel.1]; exact Nat.mod_lt _ hpos
  obtain ⟨u, k1, k2, _⟩ := hel.2 (k % sz) _ (List.getElem?_eq_getElem hj)
  have hdm : k / sz * sz + k % sz = k := by rw [Nat.mul_comm]; exact Nat.div_add_mod k sz
  rw [hdm, List.getElem?_eq_getElem hk] at k1
  simp only [Option.some.injEq] at k1
  rw [k1]; exact k2
theorem content_run (hm : MemAt E J base g) {sz : Nat} (hpos : 0 < sz) {v : Value} {a : AV} (hv : Rep E v a) {ys : List (List AV)} (h : (content sz a).run g = some ys) :
    ∃ A c news, v = .slice A ys.length c ∧ Els E sz news ys ∧ (ys.length = 0 ∨ ∃ ad, A = some ad ∧ ∀ (j : Nat) u, news[j]? = some u → E.w.cell? (ad.add j) = some u) := by
  have lst : ∀ v els, Rep E v (.lst sz els) → ∃ A c news, v = .slice A els.length c ∧ Els E sz news els ∧ (els.length = 0 ∨ ∃ ad, A = some ad ∧ ∀ (j : Nat) u, news[j]? = some u → E.w.cell? (ad.add j) = some u) := by
    intro v els hr
    cases hr with
    | lst0 hc => exact ⟨_, _, [], rfl, ⟨by simp, fun i cs hi => by simp at hi⟩, .inl rfl⟩
    | @lst1 b off n c _ _ u hn hl hc hb hz hu hr1 hr =>
      subst hn
      refine ⟨_, c, (List.range (els.length * sz)).map fun k => u (k / sz) (k % sz), rfl, ⟨by simp, fun i cs hi => ⟨hz i cs hi, fun j x hj => ?_⟩⟩, .inr ⟨_, rfl, fun k y hk => ?_⟩⟩
      · have hjl : j < sz := by have := (List.getElem?_eq_some_iff.1 hj).1; rw [hz i cs hi] at this; exact this
        have hil : i < els.length := (List.getElem?_eq_some_iff.1 hi).1
        have hfit : i * sz + sz ≤ els.length * sz := by
          have : (i + 1) * sz ≤ els.length * sz := Nat.mul_le_mul_right _ (by omega)
          rw [Nat.add_mul] at this; omega
        have h1 : (i * sz + j) / sz = i := by rw [Nat.mul_comm, Nat.mul_add_div hpos, Nat.div_eq_of_lt hjl]; rfl
        have h2 : (i * sz + j) % sz = j := by rw [Nat.mul_comm, Nat.mul_add_mod]; exact Nat.mod_eq_of_lt hjl
        refine ⟨u i j, ?_, (hr1 i cs j x hi hj).1, hr i cs j x hi hj⟩
        rw [List.getElem?_map, List.getElem?_range (by omega)]
        simp [h1, h2]
      · have hkl : k < els.length * sz := by have := (List.getElem?_eq_some_iff.1 hk).1; simpa using this
        rw [List.getElem?_map, List.getElem?_range hkl] at hk
        simp only [Option.map_some, Option.some.injEq] at hk
        subst hk
        have hi : k / sz < els.length := Nat.div_lt_of_lt_mul (by rw [Nat.mul_comm]; exact hkl)
        have hel := List.getElem?_eq_getElem hi
        have hj : k % sz < (els[k / sz]).length := by rw [hz _ _ hel]; exact Nat.mod_lt _ hpos
        have := hu _ _ _ _ hel (List.getElem?_eq_getElem hj)
        have hdm : k / sz * sz + k % sz = k := by rw [Nat.mul_comm]; exact Nat.div_add_mod k sz
        rw [Nat.add_assoc, hdm] at this
        rw [Addr.add_lit]; exact this
  unfold content at h
  split at h
  · rename_i s els
    split at h
    · rename_i hs; subst hs
      simp only [RM.run, Option.some.injEq] at h; subst h
      exact lst _ _ hv
    · simp [RM.run] at h
  · rename_i s els
    split at h
    · rename_i hs; subst hs
      simp only [RM.run, Option.some.injEq] at h; subst h
      cases hv with
      | tls hv => exact lst _ _ hv
    · simp [RM.run] at h
  · simp only [RM.run, Option.some.injEq] at h; subst h
    cases hv with
    | emp => exact ⟨_, _, [], rfl, ⟨by simp, fun i cs hi => by simp at hi⟩, .inl rfl⟩
  · rename_i id s off n
    simp only [RM.run] at h
    cases hB : g id with
    | none => simp [hB] at h
    | some B =>
      simp only [hB] at h
      split at h
      · rename_i hc
        obtain ⟨h1, h2, h3⟩ := hc
        subst h1
        simp only [RM.run, Option.some.injEq] at h; subst h
        have hlen : ((B.els.drop off).take n).length = n := by simp; omega
        rw [hlen]
        cases hv with
        | staleO hi hd => exact absurd hd (alive hm hB)
        | @own0 _ _ A hi hd hb => exact ⟨_, _, [], rfl, ⟨by simp, fun i cs hi => by simp at hi⟩, .inl rfl⟩
        | @own _ _ _ _ c b q mm t' hi hd hb hq hs hmm hl hcc =>
          have hblk := hm.at_ id B hB
          rw [hb] at hblk
          obtain ⟨hbase, arr, t, ha, hfit, hcells⟩ := hblk.cells (by first | assumption | omega)
          rw [h2] at hfit hcells
          refine ⟨_, c, (arr.toList.drop (off * s)).take (n * s), rfl, ⟨?_, fun i cs hi => ?_⟩, ?_⟩
          · have : (off + n) * s ≤ arr.size := Nat.le_trans (Nat.mul_le_mul_right _ h3) hfit
            rw [Nat.add_mul] at this
            simp [hlen]; omega
          · rw [List.getElem?_take] at hi
            split at hi
            · rename_i hin
              rw [List.getElem?_drop] at hi
              refine ⟨(hcells _ cs hi).1, fun j x hj => ?_⟩
              obtain ⟨u, k1, k2, k3⟩ := (hcells _ cs hi).2 j x hj
              have hjl : j < s := by have := (List.getElem?_eq_some_iff.1 hj).1; rw [(hcells _ cs hi).1] at this; exact this
              have hfit2 : i * s + s ≤ n * s := by
                have : (i + 1) * s ≤ n * s := Nat.mul_le_mul_right _ (by omega)
                rw [Nat.add_mul] at this; omega
              refine ⟨u, ?_, k2, k3⟩
              rw [List.getElem?_take, if_pos (by omega), List.getElem?_drop]
              rw [Nat.add_mul, Nat.add_assoc] at k1
              simpa using k1
            · simp at hi
          · rcases Nat.eq_zero_or_pos n with h0 | h0
            · exact .inl h0
            · refine .inr ⟨_, rfl, fun j u hj => ?_⟩
              have hq' : q = off * s := by
                rcases hq with hq | hq
                · exact hq
                · omega
              subst hq'
              rw [Addr.add_lit, cell_of_row _ _ _ _ _ _ ha]
              rw [List.getElem?_take] at hj
              split at hj
              · rw [List.getElem?_drop] at hj
                simpa using hj
              · simp at hj
      · simp [RM.run] at h
  · simp [RM.run] at h
end
end Go.Proofs.YtgepadjkegfokaaDoor
