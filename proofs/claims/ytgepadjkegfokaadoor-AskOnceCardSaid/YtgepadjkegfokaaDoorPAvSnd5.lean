/- Append to what a call owns, upon abstract values. No condition. -/
import Derived.Test.YtgepadjkegfokaaDoorPAvSnd4
import Derived.Laws.AppendOwn
set_option linter.unusedSimpArgs false
set_option linter.unusedVariables false
namespace Go.Proofs.YtgepadjkegfokaaDoor
set_option linter.unusedSimpArgs false
set_option linter.unusedVariables false
open Go.RowKit
section
variable {P : Program} {E : Env} {J : Nat → Prop} {base : Nat} {g : Nat → Option Bk} {ρv : Operand → Value} {ρ : Arg → AV} {fresh : Nat}
/-- A draw turns nothing. -/
theorem MemAt.drew (hm : MemAt E J base g) : ∃ E' : Env, E'.w = E.w.drew ∧ E.Le E' ∧ MemAt E' J base g ∧ (∀ id, E'.kn id → E.kn id) ∧ (∀ id, E'.kn id ↔ E.kn id) ∧ E'.loc = E.loc ∧ E'.dead = E.dead := by
  let E' : Env := { E with w := E.w.drew }
  have hE : E.Le E' := ⟨fun _ h => h, fun b hb => ⟨hb, rfl⟩, fun _ _ h => h, fun _ _ _ => .inr rfl, fun _ _ _ _ _ => .inr rfl, fun _ _ _ => .inr rfl, fun _ h => h⟩
  exact ⟨E', rfl, hE, ⟨hm.live, fun id B hg => (hm.at_ id B hg).keep hE fun _ _ => rfl, hm.apart, hm.out, hm.low, hm.size, hm.len, hm.rgb⟩, fun _ h => h, fun _ => Iff.rfl, rfl, rfl⟩
/-- A block goes on under a new name, perhaps written anew. -/
theorem MemAt.move (hm : MemAt E J base g) (hf : ¬ E.kn fresh) (id : Nat) (B B' : Bk) (hg : g id = some B) (w' : World) (hw : ∀ k, (∀ b, E.loc id = some b → k ≠ b) → w'.heap[k]? = E.w.heap[k]?) (hsz : w'.heap.size = E.w.heap.size)
    (hsh : ∀ b, E.loc id = some b → w'.shape? b = E.w.shape? b) (hB : ∀ E' : Env, E.Le E' → E'.w = w' → BlkAt E' base B' (E.loc id)) :
    ∃ E' : Env, E'.w = w' ∧ E.Le E' ∧ MemAt E' J base (gput g [(id, none), (fresh, some B')]) ∧ E'.kn fresh ∧ ¬ E'.dead fresh ∧ E'.loc fresh = E.loc id ∧ (∀ k, E'.kn k → E.kn k ∨ k = fresh) ∧ E'.ln fresh = B'.els.length := by
  have hid : E.kn id ∧ ¬ E.dead id := (hm.live id).2 ⟨B, hg⟩
  have hne : ∀ k, E.kn k → k ≠ fresh := fun k hi he => hf (he ▸ hi)
  have hif := hne id hid.1
  let E' : Env := { w := w', kn := fun k => E.kn k ∨ k = fresh, loc := fun k => if k = fresh then E.loc id else E.loc k, dead := fun k => (E.dead k ∨ k = id) ∧ k ≠ fresh, I := E.I, ln := fun k => if k = fresh then B'.els.length else E.ln k, rg := E.rg }
  have hE : E.Le E' := by
    refine ⟨fun _ h => .inl h, fun k hk => ⟨hk, ?_⟩, fun k hi hd => ⟨.inl hd, hne k hi⟩, fun k hi hd => .inr (if_neg (hne k hi)), fun k b hi hd hb => ?_, fun k hi hd => .inr (if_neg (hne k hi)), fun _ h => h⟩
    · exact hw k fun b hb he => hm.out id b B hg hb (he ▸ hk)
    · by_cases hki : k = id
      · subst hki; exact .inl ⟨.inr rfl, hif⟩
      · right
        obtain ⟨Bk, hBk⟩ := (hm.live k).1 ⟨hi, hd⟩
        have := hw b fun b' hb' he => hki (hm.apart k id b Bk B hBk hg hb (he ▸ hb'))
        show w'.shape? b = _
        simp only [World.shape?, this]
  have hput : ∀ k, gput g [(id, none), (fresh, some B')] k = if k = fresh then some B' else if k = id then none else g k := by
    intro k
    simp only [gput]
  refine ⟨E', rfl, hE, ⟨fun k => ?_, fun k Bk hk => ?_, fun k k' b B1 B2 h1 h2 h3 h4 => ?_, fun k b B1 hk hb hI => ?_, fun k hk => ?_, ?_, fun k B1 hk hzz => ?_, hm.rgb⟩, .inr rfl, fun hd => hd.2 rfl, if_pos rfl, fun k hk => hk, if_pos rfl⟩
  · rw [hput]
    by_cases h1 : k = fresh
    · subst h1; simp [E']
    · by_cases h2 : k = id
      · subst h2; simp [E', h1]
      · simp only [h1, h2, if_false, ← hm.live k]
        simp [E', h1, h2]
  · rw [hput] at hk
    by_cases h1 : k = fresh
    · subst h1
      simp only [if_true, Option.some.injEq] at hk
      subst hk
      show BlkAt E' base B' (if k = k then _ else _)
      rw [if_pos rfl]
      exact hB E' hE rfl
    · rw [if_neg h1] at hk
      by_cases h2 : k = id
      · rw [if_pos h2] at hk; simp at hk
      · rw [if_neg h2] at hk
        show BlkAt E' base Bk (if k = fresh then _ else _)
        rw [if_neg h1]
        exact (hm.at_ k Bk hk).keep hE fun b hb => hw b fun b' hb' he => h2 (hm.apart k id b Bk B hk hg hb (he ▸ hb'))
  · rw [hput] at h1 h2
    have e3 : (if k = fresh then E.loc id else E.loc k) = some b := h3
    have e4 : (if k' = fresh then E.loc id else E.loc k') = some b := h4
    by_cases a1 : k = fresh <;> by_cases a2 : k' = fresh
    · rw [a1, a2]
    · rw [if_pos a1] at e3; rw [if_neg a2] at e4 h2
      by_cases a3 : k' = id
      · rw [if_pos a3] at h2; simp at h2
      · rw [if_neg a3] at h2
        exact absurd (hm.apart k' id b B2 B h2 hg e4 e3) a3
    · rw [if_neg a1] at e3 h1; rw [if_pos a2] at e4
      by_cases a3 : k = id
      · rw [if_pos a3] at h1; simp at h1
      · rw [if_neg a3] at h1
        exact absurd (hm.apart k id b B1 B h1 hg e3 e4) a3
    · rw [if_neg a1] at e3 h1; rw [if_neg a2] at e4 h2
      by_cases a3 : k = id
      · rw [if_pos a3] at h1; simp at h1
      · by_cases a4 : k' = id
        · rw [if_pos a4] at h2; simp at h2
        · rw [if_neg a3] at h1; rw [if_neg a4] at h2
          exact hm.apart k k' b B1 B2 h1 h2 e3 e4
  · rw [hput] at hk
    have e3 : (if k = fresh then E.loc id else E.loc k) = some b := hb
    by_cases a1 : k = fresh
    · rw [if_pos a1] at e3
      exact hm.out id b B hg e3 hI
    · rw [if_neg a1] at e3 hk
      by_cases a3 : k = id
      · rw [if_pos a3] at hk; simp at hk
      · rw [if_neg a3] at hk
        exact hm.out k b B1 hk e3 hI
  · have := hm.low k hk
    exact ⟨by show k < w'.heap.size; rw [hsz]; exact this.1, this.2⟩
  · show base ≤ w'.heap.size
    rw [hsz]; exact hm.size
  · rw [hput] at hk
    show _ = if k = fresh then _ else _
    by_cases a1 : k = fresh
    · rw [if_pos a1] at hk ⊢
      simp only [Option.some.injEq] at hk; rw [hk]
    · rw [if_neg a1] at hk ⊢
      by_cases a3 : k = id
      · rw [if_pos a3] at hk; simp at hk
      · rw [if_neg a3] at hk
        exact hm.len k B1 hk hzz
/-- A name for an empty slice without room. -/
theorem MemAt.phantom (hm : MemAt E J base g) (hf : ¬ E.kn fresh) (sz : Nat) :
    ∃ E' : Env, E'.w = E.w ∧ E.Le E' ∧ MemAt E' J base (gput g [(fresh, some ⟨sz, []⟩)]) ∧ E'.kn fresh ∧ ¬ E'.dead fresh ∧ E'.loc fresh = none ∧ (∀ k, E'.kn k → E.kn k ∨ k = fresh) ∧ E'.ln fresh = 0 := by
  have hne : ∀ k, E.kn k → k ≠ fresh := fun k hi he => hf (he ▸ hi)
  let E' : Env := { w := E.w, kn := fun k => E.kn k ∨ k = fresh, loc := fun k => if k = fresh then none else E.loc k, dead := fun k => E.dead k ∧ k ≠ fresh, I := E.I, ln := fun k => if k = fresh then 0 else E.ln k, rg := E.rg }
  have hE : E.Le E' := ⟨fun _ h => .inl h, fun b hb => ⟨hb, rfl⟩, fun k hi hd => ⟨hd, hne k hi⟩, fun k hi hd => .inr (if_neg (hne k hi)), fun _ _ _ _ _ => .inr rfl, fun k hi hd => .inr (if_neg (hne k hi)), fun _ h => h⟩
  refine ⟨E', rfl, hE, ⟨fun k => ?_, fun k Bk hk => ?_, fun k k' b B1 B2 h1 h2 h3 h4 => ?_, fun k b B1 hk hb hI => ?_, hm.low, hm.size, fun k B1 hk hzz => ?_, hm.rgb⟩, .inr rfl, fun hd => hd.2 rfl, if_pos rfl, fun k hk => hk, if_pos rfl⟩
  · simp only [gput]
    by_cases h1 : k = fresh
    · subst h1; simp [E']
    · simp only [h1, if_false, ← hm.live k]
      simp [E', h1]
  · simp only [gput] at hk
    by_cases h1 : k = fresh
    · subst h1
      simp only [if_true, Option.some.injEq] at hk
      subst hk
      show BlkAt E' base _ (if k = k then _ else _)
      rw [if_pos rfl]
      rfl
    · rw [if_neg h1] at hk
      show BlkAt E' base Bk (if k = fresh then _ else _)
      rw [if_neg h1]
      exact (hm.at_ k Bk hk).keep hE fun _ _ => rfl
  · simp only [gput] at h1 h2
    have e3 : (if k = fresh then none else E.loc k) = some b := h3
    have e4 : (if k' = fresh then none else E.loc k') = some b := h4
    by_cases a1 : k = fresh
    · rw [if_pos a1] at e3; simp at e3
    · by_cases a2 : k' = fresh
      · rw [if_pos a2] at e4; simp at e4
      · rw [if_neg a1] at e3 h1; rw [if_neg a2] at e4 h2
        exact hm.apart k k' b B1 B2 h1 h2 e3 e4
  · simp only [gput] at hk
    have e3 : (if k = fresh then none else E.loc k) = some b := hb
    by_cases a1 : k = fresh
    · rw [if_pos a1] at e3; simp at e3
    · rw [if_neg a1] at e3 hk
      exact hm.out k b B1 hk e3 hI
  · simp only [gput] at hk
    show _ = if k = fresh then _ else _
    by_cases a1 : k = fresh
    · rw [if_pos a1] at hk ⊢
      simp only [Option.some.injEq] at hk; rw [← hk]; rfl
    · rw [if_neg a1] at hk ⊢
      exact hm.len k B1 hk hzz
theorem bind_run {α β : Type} {g : Nat → Option Bk} {f : α → RM β} {y : β} : ∀ {m : RM α}, (m.bind f).run g = some y → ∃ x, m.run g = some x ∧ (f x).run g = some y
  | .ret a, h => ⟨a, rfl, h⟩
  | .fail, h => by simp [RM.bind, RM.run] at h
  | .rd id k, h => by
    simp only [RM.bind, RM.run] at h ⊢
    cases hg : g id with
    | none => simp [hg] at h
    | some B => simp only [hg] at h ⊢; exact bind_run h
  | .lv id k, h => by
    simp only [RM.bind, RM.run] at h ⊢
    cases hg : g id with
    | none => simp [hg] at h
    | some B => simp only [hg] at h ⊢; exact bind_run h
/-- Growing: a new block that holds the old elements and the new ones. -/
theorem grow_run {t ty e : TypeId} {i : TypeInfo} {z : Value} (ht : P.underlying t = some (.slice e)) (hi : P.info? e = some i) (hz : i.zero = some z) {sz : Nat} (hs : i.size = sz) (hcs : z.cells.size = sz) (hby : 0 < i.bytes)
    (hm : MemAt E J base g) {A : Option Addr} {n c : Nat} {olds : List Value} {es : List (List AV)} (ho : Els E sz olds es) (hn : n = es.length) (hA : n = 0 ∨ ∃ ad, A = some ad ∧ ∀ (j : Nat) u, olds[j]? = some u → E.w.cell? (ad.add j) = some u) (hA0 : A = none → c = 0)
    {ad : Addr} {m c2 : Nat} {news : List Value} {ys : List (List AV)} (hy : Els E sz news ys) (hmy : m = ys.length) (hnews : ∀ (j : Nat) u, news[j]? = some u → E.w.cell? (ad.add j) = some u) (hpos : 0 < m) (hg : c < n + m) (hb : (n + m) * i.bytes ≤ 140737488355328) :
    ∃ cap arr, (Builtin.append_ #[t, t] ty #[.slice A n c, .slice (some ad) m c2]).run P E.w = .ok (.slice (some ⟨E.w.heap.size, 0, none⟩) (n + m) cap) (E.w.drew.alloc (.cells arr e)) ∧ n + m ≤ cap ∧ cap ≤ 9223372036854775807 ∧ arr.size = cap * sz ∧
      ∀ (j : Nat) u, (olds ++ news)[j]? = some u → arr[j]? = some u := by
  have hle : n + m ≤ (n + m) * i.bytes := Nat.le_mul_of_pos_right _ hby
  have hol : olds.length = n * i.size := by rw [ho.1, hn, hs]
  have hnl : news.length = m * i.size := by rw [hy.1, hmy, hs]
  have hgc := grownCap_ge E.w (n + m) c e
  have hgm := grownCap_le_maxLen E.w (n + m) c e (by simp only [maxLen]; omega)
  have hgm' : grownCap E.w (n + m) c e ≤ 9223372036854775807 := by simp only [maxLen] at hgm; omega
  have hsize : (olds.toArray ++ news.toArray ++ Builtin.zeroCells z.cells (grownCap E.w (n + m) c e - (n + m))).size = grownCap E.w (n + m) c e * sz := by
    simp only [Array.size_append, List.size_toArray, size_zeroCells, hcs, hol, hnl, hs, ← Nat.add_mul]
    congr 1; omega
  refine ⟨grownCap E.w (n + m) c e, _, ?_, hgc, hgm', hsize, fun j u hj => ?_⟩
  · cases A with
    | some a =>
      refine run_append_grow (P := P) E.w t ty e i z ht hi hz a n c olds hol ?_ ad m c2 news hnl hnews hg (by omega) (growslice_fits hg hb)
      rcases hA with h0 | ⟨ad', h1, h2⟩
      · intro j v hj
        have : olds.length = 0 := by rw [hol, h0]; simp
        have h0' := List.eq_nil_of_length_eq_zero this
        subst h0'; simp at hj
      · simp only [Option.some.injEq] at h1; subst h1; exact h2
    | none =>
      have hc0 := hA0 rfl
      have hn0 : n = 0 := by
        rcases hA with h0 | ⟨_, h1, _⟩
        · exact h0
        · simp at h1
      have hole : olds = [] := List.eq_nil_of_length_eq_zero (by rw [hol, hn0]; simp)
      have hbb := hb
      rw [hn0, Nat.zero_add] at hbb
      have hr := run_append_nil (P := P) E.w t ty e i z ht hi hz ad m c2 news hnl hnews hpos (by omega) (by omega)
      rw [hn0, hc0, hole]
      simpa using hr
  · have hjl : j < (olds ++ news).length := (List.getElem?_eq_some_iff.1 hj).1
    rw [Array.getElem?_append_left (by simpa using hjl)]
    simpa using hj
/-- In place of 'alloc' behind a draw. -/
theorem grownOK (hm : MemAt E J base g) (hf : ¬ E.kn fresh) {e : TypeId} {sz n cap : Nat} {arr : Array Value} {olds : List Value} {els : List (List AV)} (hn : n = els.length) (hels : Els E sz olds els) (hcap : n ≤ cap) (hcm : cap ≤ 9223372036854775807) (hsz : arr.size = cap * sz) (hget : ∀ (j : Nat) u, olds[j]? = some u → arr[j]? = some u)
    {r : Result Next} (hr : r = .ok (.value (.slice (some ⟨E.w.heap.size, 0, none⟩) n cap)) (E.w.drew.alloc (.cells arr e))) (hz : sz ≠ 0 := by first | assumption | omega) : OpOK E J base g r (.own fresh sz 0 n) [(fresh, some ⟨sz, els⟩)] := by
  obtain ⟨E1, hw1, hE1, hM1, _, hkn1, hl1, hd1⟩ := hm.drew
  obtain ⟨E', hw, hE, hM, k1, k2, k3, k4, k5⟩ := hM1.alloc fresh (fun h => hf ((hkn1 _).1 h)) arr e ⟨sz, els⟩ (fun E' hE => by
    refine ⟨by rw [hsz, ← hn]; exact Nat.mul_le_mul_right _ hcap, fun i cs hi => ⟨(hels.2 i cs hi).1, fun j x hj => ?_⟩⟩
    obtain ⟨u, m1, m2, m3⟩ := (hels.2 i cs hi).2 j x hj
    exact ⟨u, hget _ _ m1, m2, m3.step (hE1.trans hE)⟩) hz
  rw [hw1] at hw
  refine ⟨_, .slice (some ⟨E.w.heap.size, 0, none⟩) n cap, E', by rw [hw]; exact hr, .inl rfl, hE1.trans hE, ?_, hM, ?_, fun id hi => ?_⟩
  · refine .own k1 k2 (b := E.w.heap.size) (by rw [k3, hw1]; rfl) (.inl (by simp)) (t := e) (m := arr.size) ?_ (by rw [hsz]; simp) hcap hcm (by rw [k5]; dsimp only; omega)
    rw [hw]
    unfold World.shape?
    rw [show E.w.heap.size = E.w.drew.heap.size from rfl, heap_alloc_new]
  · rw [hw]
    exact ((Below.refl _ _).drew).alloc (by simpa using hm.size) _
  · rcases k4 id hi with h | h
    · exact .inl ((hkn1 _).1 h)
    · exact .inr (by simp [h])
theorem splice_get {α : Type} {cs ys : List α} {o : Nat} (h : o + ys.length ≤ cs.length) (j : Nat) : (cs.take o ++ ys ++ cs.drop (o + ys.length))[j]? = if j < o then cs[j]? else if j < o + ys.length then ys[j - o]? else cs[j]? := by
  rw [List.append_assoc, List.getElem?_append, List.length_take, Nat.min_eq_left (by omega)]
  by_cases h1 : j < o
  · simp [h1]
  · rw [if_neg h1, if_neg h1, List.getElem?_append]
    by_cases h2 : j < o + ys.length
    · rw [if_pos (by omega), if_pos h2]
    · rw [if_neg (by omega), if_neg h2, List.getElem?_drop]
      congr 1; omega
/-- Some elements of an own block are written anew. -/
theorem blkWrite (hm : MemAt E J base g) {id b : Nat} {B : Bk} (hB : g id = some B) (hl : E.loc id = some b) {news : List Value} {ys : List (List AV)} (hels : Els E B.sz news ys) (hpos : 0 < B.sz) {off : Nat} (hfit : off + ys.length ≤ B.els.length) :
    ∃ E', (storeCells ⟨b, off * B.sz, none⟩ news).run P E.w = .ok () E'.w ∧ E.Le E' ∧ MemAt E' J base (gput g [(id, some ⟨B.sz, B.els.take off ++ ys ++ B.els.drop (off + ys.length)⟩)]) ∧ Below base E.w E'.w ∧ (∀ k, E'.kn k → E.kn k) := by
  have hblk := hm.at_ id B hB
  rw [hl] at hblk
  obtain ⟨hbase, arr, t, ha, hlen, hcells⟩ := hblk.cells (by first | assumption | omega)
  have hnl : news.length = ys.length * B.sz := hels.1
  have hfit2 : off * B.sz + news.length ≤ arr.size := by
    rw [hnl, ← Nat.add_mul]
    exact Nat.le_trans (Nat.mul_le_mul_right _ hfit) hlen
  have hst := run_storeCells_at P b (off * B.sz) t news 0 arr E.w ha (by simpa using hfit2) (hels.all hpos)
  simp only [Nat.add_zero] at hst
  obtain ⟨E', hw, hE, hM, hkn⟩ := hm.set id b B ⟨B.sz, B.els.take off ++ ys ++ B.els.drop (off + ys.length)⟩ hB hl arr
    (arr.toList.take (off * B.sz) ++ news ++ arr.toList.drop (off * B.sz + news.length)).toArray t ha (by simp; omega) (by simp; omega) (fun E' hE => by
      refine ⟨by simp; rw [show min off B.els.length + (ys.length + (B.els.length - (off + ys.length))) = B.els.length by omega]; exact hlen, fun i cs hi => ?_⟩
      dsimp only at hi ⊢
      rw [splice_get hfit] at hi
      have hget : ∀ k, (arr.toList.take (off * B.sz) ++ news ++ arr.toList.drop (off * B.sz + news.length)).toArray[k]? = if k < off * B.sz then arr[k]? else if k < off * B.sz + news.length then news[k - off * B.sz]? else arr[k]? := by
        intro k
        rw [List.getElem?_toArray, splice_get (by simpa using hfit2)]
        simp
      have old : B.els[i]? = some cs → (i < off ∨ off + ys.length ≤ i) → cs.length = B.sz ∧ ∀ (j : Nat) x, cs[j]? = some x → ∃ u, (arr.toList.take (off * B.sz) ++ news ++ arr.toList.drop (off * B.sz + news.length)).toArray[i * B.sz + j]? = some u ∧ u.oneCell' = true ∧ Rep E' u x := by
        intro hi hor
        refine ⟨(hcells i cs hi).1, fun j x hj => ?_⟩
        obtain ⟨u, k1, k2, k3⟩ := (hcells i cs hi).2 j x hj
        have hjl : j < B.sz := by rw [← (hcells i cs hi).1]; exact (List.getElem?_eq_some_iff.1 hj).1
        refine ⟨u, ?_, k2, k3.step hE⟩
        rw [hget]
        rcases hor with h1 | h1
        · have : (i + 1) * B.sz ≤ off * B.sz := Nat.mul_le_mul_right _ (by omega)
          rw [Nat.add_mul] at this
          rw [if_pos (by omega)]; exact k1
        · have : (off + ys.length) * B.sz ≤ i * B.sz := Nat.mul_le_mul_right _ h1
          rw [Nat.add_mul] at this
          rw [if_neg (by omega), if_neg (by omega)]; exact k1
      by_cases h1 : i < off
      · rw [if_pos h1] at hi; exact old hi (.inl h1)
      · rw [if_neg h1] at hi
        by_cases h2 : i < off + ys.length
        · rw [if_pos h2] at hi
          refine ⟨(hels.2 _ cs hi).1, fun j x hj => ?_⟩
          obtain ⟨u, m1, m2, m3⟩ := (hels.2 _ cs hi).2 j x hj
          have hjl : j < B.sz := by rw [← (hels.2 _ cs hi).1]; exact (List.getElem?_eq_some_iff.1 hj).1
          refine ⟨u, ?_, m2, m3.step hE⟩
          rw [hget]
          have e1 : off * B.sz ≤ i * B.sz := Nat.mul_le_mul_right _ (by omega)
          have e2 : (i - off) * B.sz = i * B.sz - off * B.sz := Nat.sub_mul _ _ _
          rw [if_neg (by omega), if_pos (by have := (List.getElem?_eq_some_iff.1 m1).1; omega), show i * B.sz + j - off * B.sz = (i - off) * B.sz + j by omega]
          exact m1
        · rw [if_neg h2] at hi
          exact old hi (.inr (by omega)))
  refine ⟨E', by rw [hw]; exact hst, hE, hM, ?_, hkn⟩
  rw [hw]
  exact ⟨rfl, rfl, rfl, by simp [World.setRow], fun k hk => setRow_other _ _ _ _ (by omega)⟩
theorem gput_same {g : Nat → Option Bk} {id : Nat} {B : Bk} (h : g id = some B) : gput g [(id, some B)] = g := by
  funext k
  simp only [gput]
  by_cases hk : k = id
  · subst hk; rw [if_pos rfl, h]
  · rw [if_neg hk]
theorem gput_none {g : Nat → Option Bk} {fresh : Nat} (h : g fresh = none) : gput g [(fresh, none)] = g := by
  funext k
  simp only [gput]
  by_cases hk : k = fresh
  · subst hk; rw [if_pos rfl, h]
  · rw [if_neg hk]
theorem gput_two {g : Nat → Option Bk} {id fresh : Nat} {B B' : Bk} (hB : g id = some B) (h : g fresh = none) : gput g [(id, some B'), (fresh, none)] = gput g [(id, some B')] := by
  have : gput g [(id, some B'), (fresh, none)] = gput (gput g [(id, some B')]) [(fresh, none)] := rfl
  rw [this]
  refine gput_none ?_
  simp only [gput]
  by_cases hk : fresh = id
  · subst hk; rw [hB] at h; simp at h
  · rw [if_neg hk]; exact h
theorem fresh_none (hm : MemAt E J base g) (hf : ¬ E.kn fresh) : g fresh = none := by
  cases h : g fresh with
  | none => rfl
  | some B => exact absurd ((hm.live fresh).2 ⟨B, h⟩).1 hf
/-- Append in place: into elements that the block has. -/
theorem appInOK (hm : MemAt E J base g) (hf : ¬ E.kn fresh) {t e ty : TypeId} {i : TypeInfo} {sz : Nat} (ht : P.underlying t = some (.slice e)) (hi : P.info? e = some i) (hs : i.size = sz) (hpos : 0 < sz) {vs : Value} {id off n : Nat} (hvs : Rep E vs (.own id sz off n)) {A2 : Option Addr} {c2 : Nat} {news : List Value} {ys : List (List AV)}
    (hels : Els E sz news ys) (hsrc : ys.length = 0 ∨ ∃ ad, A2 = some ad ∧ ∀ (j : Nat) u, news[j]? = some u → E.w.cell? (ad.add j) = some u) {B : Bk} (hB : g id = some B) (hBs : B.sz = sz) (hfit : off + n + ys.length ≤ B.els.length)
    (stay : ∀ A n c, vs = .slice A n c → n ≤ c → ys.length = 0 → (Builtin.append_ #[t, t] ty #[vs, .slice A2 ys.length c2]).run P E.w = .ok vs E.w) :
    OpOK E J base g ((do pure (Next.value (← Builtin.append_ #[t, t] ty #[vs, .slice A2 ys.length c2])) : Sem Next).run P E.w) (.own id sz off (n + ys.length)) [(id, some ⟨B.sz, B.els.take (off + n) ++ ys ++ B.els.drop (off + n + ys.length)⟩), (fresh, none)] := by
  rw [OpOK, gput_two hB (fresh_none hm hf)]
  have hlen := hm.len id B hB (by omega)
  rcases Nat.eq_zero_or_pos ys.length with h0 | h0
  · have hy0 : ys = [] := List.eq_nil_of_length_eq_zero h0
    have hBB : (⟨B.sz, B.els.take (off + n) ++ ys ++ B.els.drop (off + n + ys.length)⟩ : Bk) = B := by
      rw [hy0]; simp
    rw [hBB, gput_same hB]
    obtain ⟨A, c, rfl, hnc⟩ : ∃ A c, vs = .slice A n c ∧ n ≤ c := by
      cases hvs with
      | own hi' hd hbl hq hs' hmm hl hcc => exact ⟨_, _, rfl, hl⟩
      | own0 hi' hd hbl => exact ⟨_, _, rfl, Nat.le_refl _⟩
      | staleO hi' hd => exact absurd hd (alive hm hB)
    refine ⟨_, .slice A n c, E, by simp [stay A n c rfl hnc h0], .inl rfl, Env.Le.refl E, by rw [h0]; exact hvs, hm, Below.refl _ _, fun _ h => .inl h⟩
  · obtain ⟨ad, rfl, hnews⟩ := hsrc.resolve_left (by omega)
    have hvs0 := hvs
    cases hvs with
    | staleO hi' hd => exact absurd hd (alive hm hB)
    | own0 hi' hd hb hln => omega
    | @own _ _ _ _ c b q mm t' hi' hd hbl hq hs' hmm hl hcc hln =>
      have hroom : n + ys.length ≤ c := by omega
      have hq' : q = off * sz := by
        rcases hq with hq | hq
        · exact hq
        · omega
      subst hq'
      subst hBs
      obtain ⟨E', hst, hE, hM, hbel, hkn⟩ := blkWrite (P := P) hm hB hbl hels hpos hfit
      have hf2 := run_firstCells_some (P := P) E.w i.size ys.length ad ys.length c2 news (by rw [hels.1, hs]) hnews
      rw [hs] at hf2
      have hlive := (hM.live id).2 ⟨⟨B.sz, B.els.take (off + n) ++ ys ++ B.els.drop (off + n + ys.length)⟩, by simp [gput]⟩
      have hr' := hvs0.step hE
      refine ⟨_, .slice (some ⟨b, off * B.sz, none⟩) (n + ys.length) c, E', ?_, .inl rfl, hE, ?_, hM, hbel, fun id' hi' => .inl (hkn _ hi')⟩
      · rw [Nat.add_mul] at hst
        simp [Builtin.append_, run_underlying ht, sizeOf, typeInfo, hi, Builtin.lenOf, hroom, hf2, Addr.add_lit, hs, hst]
      · cases hr' with
        | staleO hi' hd => exact absurd hd hlive.2
        | own0 => omega
        | own a1 a2 a3 a4 a5 a6 a7 a8 a9 => exact .own a1 a2 a3 a4 a5 a6 hroom a8 a9
/-- clear. -/
theorem clrOK (hm : MemAt E J base g) {t e ty : TypeId} {zs : List AV} (ht : P.underlying t = some (.slice e)) (hz : zerosOf P e = some zs) (hpos : 0 < zs.length) {vx : Value} {x : Arg} (hvx : Rep E vx (ρ x)) {val : AV} {ups : List (Nat × Option Bk)}
    (h : ((AO.clr zs x).sem fresh ρ).run g = some (.done val ups)) : OpOK E J base g ((do pure (Next.value (← Builtin.clear_ #[t] ty #[vx])) : Sem Next).run P E.w) val ups := by
  obtain ⟨i, z, hi, hzz, hs, hcs, hone, hrep⟩ := zerosOf_run hz
  simp only [AO.sem] at h
  split at h
  · rename_i hx
    rw [hx] at hvx
    simp only [RM.run, Option.some.injEq, Out.done.injEq] at h
    obtain ⟨rfl, rfl⟩ := h
    cases hvx with
    | @emp A =>
      refine pureOK hm (v := .tuple #[]) ?_ (.v rfl)
      cases A <;> simp [Builtin.clear_, run_underlying ht]
  · rename_i id s off n hx
    rw [hx] at hvx
    simp only [RM.run] at h
    cases hB : g id with
    | none => simp [hB] at h
    | some B =>
      simp only [hB] at h
      split at h
      · rename_i hc
        obtain ⟨rfl, hBs, hfit⟩ := hc
        simp only [RM.run, Option.some.injEq, Out.done.injEq] at h
        obtain ⟨rfl, rfl⟩ := h
        have nothing : n = 0 → OpOK E J base g (.ok (.value (.tuple #[])) E.w) (.v undef) [(id, some ⟨B.sz, B.els.take off ++ List.replicate n zs ++ B.els.drop (off + n)⟩)] := by
          intro h0
          have hBB : (⟨B.sz, B.els.take off ++ List.replicate n zs ++ B.els.drop (off + n)⟩ : Bk) = B := by subst h0; simp
          rw [hBB, OpOK, gput_same hB]
          exact ⟨_, .tuple #[], E, rfl, .inl rfl, Env.Le.refl E, .v rfl, hm, Below.refl _ _, fun _ h => .inl h⟩
        cases hvx with
        | staleO hi' hd => exact absurd hd (alive hm hB)
        | @own0 _ _ A hi' hd hb hln =>
          have := nothing rfl
          cases A <;> simpa [Builtin.clear_, run_underlying ht] using this
        | @own _ _ _ _ c b q mm t' hi' hd hbl hq hs' hmm hl hcc hln =>
          rcases Nat.eq_zero_or_pos n with h0 | h0
          · have := nothing h0
            subst h0
            simpa [Builtin.clear_, run_underlying ht] using this
          · have hq' : q = off * zs.length := by
              rcases hq with hq | hq
              · exact hq
              · omega
            subst hq'
            have hels : Els E B.sz (Builtin.zeroCells z.cells n).toList (List.replicate n zs) := by
              rw [hBs]
              refine ⟨by simp [size_zeroCells, hcs], fun i' cs hi' => ?_⟩
              have hil : i' < n := by have := (List.getElem?_eq_some_iff.1 hi').1; simpa using this
              simp [hil] at hi'
              subst hi'
              refine ⟨rfl, fun j x hj => ?_⟩
              have hjl : j < zs.length := (List.getElem?_eq_some_iff.1 hj).1
              have hjz : j < z.cells.size := by omega
              have hfit3 : i' * zs.length + zs.length ≤ n * zs.length := by
                have : (i' + 1) * zs.length ≤ n * zs.length := Nat.mul_le_mul_right _ (by omega)
                rw [Nat.add_mul] at this; omega
              have hmod : (i' * zs.length + j) % z.cells.size = j := by rw [hcs, Nat.mul_comm, Nat.mul_add_mod]; exact Nat.mod_eq_of_lt hjl
              refine ⟨z.cells[j], ?_, ?_, hrep E j _ x (Array.getElem?_eq_getElem hjz) hj⟩
              · rw [Array.getElem?_toList, Array.getElem?_eq_getElem (by simp only [size_zeroCells, hcs]; omega)]
                simp [Builtin.zeroCells, hmod, hjz]
              · refine (hrep E j _ x (Array.getElem?_eq_getElem hjz) hj).one ?_
                simp only [List.all_eq_true] at hone
                have := (List.getElem?_eq_some_iff.1 hj).2
                rw [← this]; exact hone _ (List.getElem_mem _)
            obtain ⟨E', hst, hE, hM, hbel, hkn⟩ := blkWrite (P := P) hm hB hbl hels (by omega) (off := off) (by simpa using hfit)
            simp only [List.length_replicate] at hM
            refine ⟨_, .tuple #[], E', ?_, .inl rfl, hE, .v rfl, hM, hbel, fun id' hi' => .inl (hkn _ hi')⟩
            rw [hBs] at hst
            obtain ⟨n', rfl⟩ : ∃ n', n = n' + 1 := ⟨n - 1, by omega⟩
            simp [Builtin.clear_, run_underlying ht, zeroValue, typeInfo, hi, hzz, hst]
      · simp [RM.run] at h
  · simp [RM.run] at h
/-- copy. -/
theorem cpyOK (hm : MemAt E J base g) {t u e ty : TypeId} {sz : Nat} (ht : P.underlying t = some (.slice e)) (hz : szOf P e = some sz) (hpos : 0 < sz) {vx vy : Value} {x y : Arg} (hvx : Rep E vx (ρ x)) (hvy : Rep E vy (ρ y)) {val : AV} {ups : List (Nat × Option Bk)}
    (h : ((AO.cpy sz x y).sem fresh ρ).run g = some (.done val ups)) (ats : Array TypeId) (hat : ats[0]? = some t) : OpOK E J base g ((do pure (Next.value (← Builtin.copy_ ats ty #[vx, vy])) : Sem Next).run P E.w) val ups := by
  have hszr := szOf_run hz E.w
  simp only [AO.sem] at h
  have hbr := bind_run h
  clear h
  obtain ⟨ys, hys, h⟩ := hbr
  obtain ⟨A2, c2, news, rfl, hels, hsrc⟩ := content_run hm hpos hvy hys
  split at h
  · rename_i id s off n hx
    rw [hx] at hvx
    simp only [RM.run] at h
    cases hB : g id with
    | none => simp [hB] at h
    | some B =>
      simp only [hB] at h
      split at h
      · rename_i hc
        obtain ⟨rfl, hBs, hfit⟩ := hc
        simp only [RM.run, Option.some.injEq, Out.done.injEq] at h
        obtain ⟨rfl, rfl⟩ := h
        have hmin : Nat.min ys.length n = min ys.length n := rfl
        have nothing : min ys.length n = 0 → OpOK E J base g (.ok (.value (goInt 0)) E.w) (.v (goInt (min ys.length n : Nat))) [(id, some ⟨B.sz, B.els.take off ++ ys.take n ++ B.els.drop (off + min ys.length n)⟩)] := by
          intro h0
          have hy : ys.take n = [] := by
            apply List.eq_nil_of_length_eq_zero; rw [List.length_take]; omega
          have hBB : (⟨B.sz, B.els.take off ++ ys.take n ++ B.els.drop (off + min ys.length n)⟩ : Bk) = B := by rw [hy, h0]; simp
          rw [hBB, OpOK, gput_same hB, h0]
          exact ⟨_, goInt 0, E, rfl, .inl rfl, Env.Le.refl E, .v rfl, hm, Below.refl _ _, fun _ h => .inl h⟩
        have hf0 : ∀ A c, (Builtin.firstCells s 0 (.slice A ys.length c)).run P E.w = .ok #[] E.w := by
          intro A c
          cases A with
          | none => simp [Builtin.firstCells]
          | some a => simp [Builtin.firstCells, loadCells, loadCellsFrom]
        have none' : ∀ A c, vx = .slice A n c → min ys.length n = 0 → (do pure (Next.value (← Builtin.copy_ ats ty #[vx, .slice A2 ys.length c2])) : Sem Next).run P E.w = .ok (.value (goInt 0)) E.w := by
          intro A c hv h0
          have h0' : Nat.min ys.length n = 0 := h0
          subst hv
          cases A with
          | none => simp [Builtin.copy_, hat, run_underlying ht, hszr, Builtin.lenOf, h0', hf0]
          | some a => simp [Builtin.copy_, hat, run_underlying ht, hszr, Builtin.lenOf, h0', hf0, storeCells]
        cases hvx with
        | staleO hi' hd => exact absurd hd (alive hm hB)
        | @own0 _ _ A hi' hd hb hln =>
          rw [none' A 0 rfl (by omega)]; exact nothing (by omega)
        | @own _ _ _ _ c b q mm t' hi' hd hbl hq hs' hmm hl hcc hln =>
          rcases Nat.eq_zero_or_pos (min ys.length n) with h0 | h0
          · rw [none' _ c rfl h0]; exact nothing h0
          · have hq' : q = off * s := by
              rcases hq with hq | hq
              · exact hq
              · omega
            subst hq'
            obtain ⟨ad, rfl, hnews⟩ := hsrc.resolve_left (by omega)
            subst hBs
            have htl : (ys.take n).length = min ys.length n := by rw [List.length_take]; omega
            have hels2 : Els E B.sz (news.take (min ys.length n * B.sz)) (ys.take n) := by
              have hle : min ys.length n * B.sz ≤ ys.length * B.sz := Nat.mul_le_mul_right _ (by omega)
              refine ⟨by rw [htl, List.length_take, hels.1]; omega, fun i cs hi => ?_⟩
              rw [List.getElem?_take] at hi
              split at hi
              · rename_i hin
                have hil := (List.getElem?_eq_some_iff.1 hi).1
                refine ⟨(hels.2 i cs hi).1, fun j x hj => ?_⟩
                obtain ⟨u, m1, m2, m3⟩ := (hels.2 i cs hi).2 j x hj
                have hjl : j < B.sz := by rw [← (hels.2 i cs hi).1]; exact (List.getElem?_eq_some_iff.1 hj).1
                have hfit2 : i * B.sz + B.sz ≤ min ys.length n * B.sz := by
                  have : (i + 1) * B.sz ≤ min ys.length n * B.sz := Nat.mul_le_mul_right _ (by omega)
                  rw [Nat.add_mul] at this; omega
                exact ⟨u, by rw [List.getElem?_take, if_pos (by omega)]; exact m1, m2, m3⟩
              · simp at hi
            obtain ⟨E', hst, hE, hM, hbel, hkn⟩ := blkWrite (P := P) hm hB hbl hels2 hpos (off := off) (by rw [htl]; omega)
            rw [htl] at hM
            have hf2 := run_firstCells_some (P := P) E.w B.sz (min ys.length n) ad ys.length c2 (news.take (min ys.length n * B.sz)) (by rw [hels2.1, htl]) (fun j u hj => by
              rw [List.getElem?_take] at hj
              split at hj
              · exact hnews j u hj
              · simp at hj)
            refine ⟨_, goInt (min ys.length n : Nat), E', ?_, .inl rfl, hE, .v rfl, hM, hbel, fun id' hi' => .inl (hkn _ hi')⟩
            have hf3 : (Builtin.firstCells B.sz (Nat.min ys.length n) (.slice (some ad) ys.length c2)).run P E.w = _ := hf2
            simp [Builtin.copy_, hat, run_underlying ht, hszr, Builtin.lenOf, hf3, hst]
      · simp [RM.run] at h
  · simp [RM.run] at h
theorem appOK (hm : MemAt E J base g) (hf : ¬ E.kn fresh) {t e ty : TypeId} {i : TypeInfo} {zs : List AV} (ht : P.underlying t = some (.slice e)) (hz : zerosOf P e = some zs) (hi : P.info? e = some i) (hpos : 0 < zs.length) (hby : 0 < i.bytes) {vs vx : Value} {s x : Arg} (hvs : Rep E vs (ρ s)) (hvx : Rep E vx (ρ x))
    {val : AV} {ups : List (Nat × Option Bk)} (h : ((AO.app zs.length i.bytes s x).sem fresh ρ).run g = some (.done val ups)) :
    OpOK E J base g ((do pure (Next.value (← Builtin.append_ #[t, t] ty #[vs, vx])) : Sem Next).run P E.w) val ups := by
  obtain ⟨i', z, hi', hzz, hs, hcs, hone, hrep⟩ := zerosOf_run hz
  obtain rfl : i = i' := by rw [hi] at hi'; simpa using hi'
  simp only [AO.sem] at h
  obtain ⟨ys, hys, h⟩ := bind_run h
  obtain ⟨A2, c2, news, rfl, hels, hsrc⟩ := content_run hm hpos hvx hys
  -- nothing to append: the slice stays
  have stay : ∀ A n c, vs = .slice A n c → n ≤ c → ys.length = 0 → (Builtin.append_ #[t, t] ty #[vs, .slice A2 ys.length c2]).run P E.w = .ok vs E.w := by
    intro A n c hv hnc h0
    subst hv
    have hfc : (Builtin.firstCells i.size 0 (.slice A2 0 c2)).run P E.w = .ok #[] E.w := by
      cases A2 with
      | none => simp [Builtin.firstCells]
      | some a => simp [Builtin.firstCells, loadCells, loadCellsFrom]
    rw [h0]
    cases A with
    | none => simp [Builtin.append_, run_underlying ht, sizeOf, typeInfo, hi, Builtin.lenOf, hnc, hfc]
    | some a => simp [Builtin.append_, run_underlying ht, sizeOf, typeInfo, hi, Builtin.lenOf, hnc, hfc, storeCells]
  have elen : ∀ {l : List (List AV)}, l.length = 0 → l = [] := fun h => List.eq_nil_of_length_eq_zero h
  split at h
  · rename_i hx
    rw [hx] at hvs
    split at h
    · rename_i hb
      simp only [RM.run, Option.some.injEq, Out.done.injEq] at h
      obtain ⟨rfl, rfl⟩ := h
      cases hvs with
      | @emp A =>
        rcases Nat.eq_zero_or_pos ys.length with h0 | h0
        · have hy0 := elen h0
          obtain ⟨E', hw, hE, hM, k1, k2, k3, k4, k5⟩ := hm.phantom hf zs.length
          refine ⟨_, .slice A 0 0, E', by rw [hw]; simp [stay A 0 0 rfl (Nat.le_refl _) h0], .inl rfl, hE, ?_, by rw [hy0]; exact hM, by rw [hw]; exact Below.refl _ _, fun id hi' => ?_⟩
          · rw [h0]; exact .own0 k1 k2 k3 k5
          · rcases k4 id hi' with h | h
            · exact .inl h
            · exact .inr (by simp [h])
        · obtain ⟨ad, rfl, hnews⟩ := hsrc.resolve_left (by omega)
          obtain ⟨cap, arr, hr, q1, q2, q3, q4⟩ := grow_run (P := P) (ty := ty) ht hi hzz hs hcs hby hm (A := A) (n := 0) (c := 0) (olds := []) (es := []) ⟨by simp, fun i cs hi => by simp at hi⟩ rfl (.inl rfl) (fun _ => rfl) (c2 := c2) hels rfl hnews h0 (by omega) (by simpa using hb)
          simp only [Nat.zero_add, List.nil_append] at hr q1 q4
          exact grownOK (e := e) hm hf rfl hels q1 q2 q3 q4 (by simp [hr])
    · simp [RM.run] at h
  · rename_i k els hx
    rw [hx] at hvs
    split at h
    · rename_i hc
      obtain ⟨rfl, hne, hb⟩ := hc
      simp only [RM.run, Option.some.injEq, Out.done.injEq] at h
      obtain ⟨rfl, rfl⟩ := h
      have h0 : 0 < ys.length := by
        cases ys with
        | nil => simp at hne
        | cons a l => simp
      cases hvs with
      | @tls A n _ _ hl =>
        have hself : RM.run g (content zs.length (.lst zs.length els)) = some els := by simp [content, RM.run]
        obtain ⟨A1, c1, olds, he, helo, hsrc1⟩ := content_run hm hpos hl hself
        simp only [Value.slice.injEq] at he
        obtain ⟨rfl, rfl, rfl⟩ := he
        obtain ⟨ad, rfl, hnews⟩ := hsrc.resolve_left (by omega)
        have hA0 : A = none → els.length = 0 := fun hA => by
          rcases hsrc1 with h | ⟨_, h, _⟩
          · exact h
          · rw [hA] at h; simp at h
        obtain ⟨cap, arr, hr, q1, q2, q3, q4⟩ := grow_run (P := P) (ty := ty) ht hi hzz hs hcs hby hm helo rfl hsrc1 hA0 (c2 := c2) hels rfl hnews h0 (by omega) hb
        exact grownOK (e := e) hm hf (by simp) (helo.append hels) q1 q2 q3 q4 (by simp [hr])
    · simp [RM.run] at h
  · rename_i id k off n hx
    rw [hx] at hvs
    simp only [RM.run] at h
    cases hB : g id with
    | none => simp [hB] at h
    | some B =>
      simp only [hB] at h
      split at h
      · rename_i hc
        obtain ⟨rfl, hBs, rfl, hnB, hb⟩ := hc
        simp only [RM.run, Option.some.injEq, Out.done.injEq] at h
        obtain ⟨rfl, rfl⟩ := h
        have hkid : E.kn id ∧ ¬ E.dead id := (hm.live id).2 ⟨B, hB⟩
        have hself : RM.run g (content zs.length (.own id zs.length 0 n)) = some B.els := by simp [content, RM.run, hB, hBs, hnB]
        obtain ⟨A1, c1, olds, hvv, helo, hsrc1⟩ := content_run hm hpos hvs hself
        rw [hvv] at hvs stay ⊢
        rw [← hnB] at hvs stay hvv ⊢
        -- a slice of the same place, under the new name
        have same : ys.length = 0 → OpOK E J base g ((do pure (Next.value (← Builtin.append_ #[t, t] ty #[.slice A1 n c1, .slice A2 ys.length c2])) : Sem Next).run P E.w) (.own fresh zs.length 0 (n + ys.length)) [(id, none), (fresh, some ⟨zs.length, B.els ++ ys⟩)] := by
          intro h0
          have hy0 := elen h0
          obtain ⟨E', hw, hE, hM, k1, k2, k3, k4, k5⟩ := hm.move hf id B ⟨zs.length, B.els ++ ys⟩ hB E.w (fun _ _ => rfl) rfl (fun _ _ => rfl) (fun E' hE hw => by
            rw [hy0, List.append_nil, ← hBs]
            exact (hm.at_ id B hB).keep hE fun b hb => by rw [hw])
          have hnc : n ≤ c1 := by cases hvs with
            | own hi' hd hbl hq hs hmm hl hcc => exact hl
            | own0 => exact Nat.le_refl _
            | staleO hi' hd => exact absurd hd hkid.2
          refine ⟨_, .slice A1 n c1, E', by rw [hw]; simp [stay A1 n c1 rfl hnc h0], .inl rfl, hE, ?_, hM, by rw [hw]; exact Below.refl _ _, fun id' hi' => ?_⟩
          · rw [h0]
            cases hvs with
            | own hi' hd hbl hq hs hmm hl hcc => exact .own k1 k2 (k3.trans hbl) hq (by rw [hw]; exact hs) hmm hl hcc (by rw [k5]; simp only [List.length_append]; omega)
            | own0 hi' hd hbl => exact .own0 k1 k2 (k3.trans hbl) (by rw [k5]; simp only [List.length_append]; omega)
            | staleO hi' hd => exact absurd hd hkid.2
          · rcases k4 id' hi' with h | h
            · exact .inl h
            · exact .inr (by simp [h])
        rcases Nat.eq_zero_or_pos ys.length with h0 | h0
        · exact same h0
        · obtain ⟨ad, rfl, hnews⟩ := hsrc.resolve_left (by omega)
          by_cases hroom : n + ys.length ≤ c1
          · -- in place
            cases hvs with
            | staleO hi' hd => exact absurd hd hkid.2
            | own0 => omega
            | @own _ _ _ _ _ b q mm t' hi' hd hbl hq hs' hmm hl hcc =>
              have hq0 : q = 0 := by rcases hq with hq | hq <;> omega
              subst hq0
              have hblk := hm.at_ id B hB
              rw [hbl] at hblk
              obtain ⟨hbase, arr, t2, ha, hfit, hcells⟩ := hblk.cells (by first | assumption | omega)
              have hms : mm = arr.size ∧ t' = t2 := by
                simp only [World.shape?, ha, Option.some.injEq, Prod.mk.injEq] at hs'
                exact ⟨hs'.2.symm, hs'.1.symm⟩
              have hfit2 : n * zs.length + news.length ≤ arr.size := by
                rw [hels.1, ← Nat.add_mul, ← hms.1]
                exact Nat.le_trans (Nat.mul_le_mul_right _ (by omega)) hmm
              have hst := run_storeCells_at P b (n * zs.length) t2 news 0 arr E.w ha (by simpa using hfit2) (hels.all hpos)
              simp only [Nat.add_zero] at hst
              have hf2 := run_firstCells_some (P := P) E.w i.size ys.length ad ys.length c2 news (by rw [hels.1, hs]) hnews
              rw [hs] at hf2
              let arr' := (arr.toList.take (n * zs.length) ++ news ++ arr.toList.drop (n * zs.length + news.length)).toArray
              have hasz : arr'.size = arr.size := by simp [arr']; omega
              have hget : ∀ j : Nat, arr'[j]? = if j < n * zs.length then arr[j]? else if j < n * zs.length + news.length then news[j - n * zs.length]? else arr[j]? := by
                intro j
                simp only [arr', List.getElem?_toArray, List.append_assoc]
                rw [List.getElem?_append, List.length_take, Nat.min_eq_left (by simp; omega)]
                by_cases h1 : j < n * zs.length
                · simp [h1]
                · rw [if_neg h1, if_neg h1, List.getElem?_append]
                  by_cases h2 : j < n * zs.length + news.length
                  · rw [if_pos (by omega), if_pos h2]
                  · rw [if_neg (by omega), if_neg h2, List.getElem?_drop]
                    simp; congr 1; omega
              have hrow : (E.w.setRow b arr').heap[b]? = some (.cells arr' t2 (0, 0)) := setRow_heap E.w b arr arr' t2 _ ha
              obtain ⟨E', hw, hE, hM, k1, k2, k3, k4, k5⟩ := hm.move hf id B ⟨zs.length, B.els ++ ys⟩ hB (E.w.setRow b arr') (fun k hk => setRow_other _ _ _ _ (hk b hbl)) (by simp) (fun b' hb' => by
                  rw [hbl] at hb'; simp only [Option.some.injEq] at hb'; subst hb'
                  simp only [World.shape?, hrow, ha, hasz]) (fun E' hE hw => by
                rw [hbl]
                refine .ofCells ⟨hbase, arr', t2, by rw [hw]; exact hrow, ?_, ?_⟩ (by dsimp only; omega)
                · rw [hasz]; dsimp only
                  rw [List.length_append, ← hnB, Nat.add_mul, ← hels.1]; exact hfit2
                · have hboth := (helo.append hels).step hE
                  intro q cs hq
                  refine ⟨(hboth.2 q cs hq).1, fun j x hj => ?_⟩
                  obtain ⟨u, m1, m2, m3⟩ := (hboth.2 q cs hq).2 j x hj
                  refine ⟨u, ?_, m2, m3⟩
                  dsimp only
                  rw [hget]
                  have holen : olds.length = n * zs.length := by rw [helo.1, hnB]
                  by_cases h1 : q * zs.length + j < n * zs.length
                  · rw [if_pos h1]
                    rw [List.getElem?_append_left (by omega)] at m1
                    -- the old cells are those of the block
                    have hql : q < n := by
                      rcases Nat.lt_or_ge q n with h | h
                      · exact h
                      · have := Nat.mul_le_mul_right zs.length h; omega
                    rw [List.getElem?_append_left (by omega)] at hq
                    obtain ⟨u', w1, w2, w3⟩ := (hcells q cs hq).2 j x hj
                    rw [hBs] at w1
                    have hcell := cell_of_row E.w b (q * zs.length + j) arr t2 (0, 0) ha
                    rcases hsrc1 with hz0 | ⟨ad', hA', hc'⟩
                    · omega
                    · simp only [Option.some.injEq] at hA'; subst hA'
                      have := hc' _ _ m1
                      rw [Addr.add_lit, Nat.zero_add, hcell] at this
                      exact this
                  · rw [if_neg h1]
                    rw [List.getElem?_append_right (by omega), holen] at m1
                    rw [if_pos (by have := (List.getElem?_eq_some_iff.1 m1).1; omega)]
                    exact m1)
              refine ⟨_, .slice (some ⟨b, 0, none⟩) (n + ys.length) c1, E', ?_, .inl rfl, hE, ?_, hM, ?_, fun id' hi' => ?_⟩
              · rw [hw]
                simp [Builtin.append_, run_underlying ht, sizeOf, typeInfo, hi, Builtin.lenOf, hroom, hf2, Addr.add_lit, hs, hst, arr']
              · refine .own k1 k2 (k3.trans hbl) (.inl (by simp)) (t := t2) (m := arr'.size) ?_ (by rw [hasz, ← hms.1]; exact hmm) hroom hcc (by rw [k5]; simp only [List.length_append]; omega)
                rw [hw]
                simp only [World.shape?, hrow]
              · rw [hw]
                exact ⟨rfl, rfl, rfl, by simp, fun k hk => setRow_other _ _ _ _ (by omega)⟩
              · rcases k4 id' hi' with h | h
                · exact .inl h
                · exact .inr (by simp [h])
          · -- a new block
            have hA0 : A1 = none → c1 = 0 := fun hA => by
              cases hvs with
              | own => simp at hA
              | own0 => rfl
              | staleO hi' hd => exact absurd hd hkid.2
            obtain ⟨cap, arr, hr, q1, q2, q3, q4⟩ := grow_run (P := P) (ty := ty) ht hi hzz hs hcs hby hm helo hnB (by rw [hnB]; exact hsrc1) hA0 (c2 := c2) hels rfl hnews h0 (by omega) hb
            obtain ⟨E1, hw1, hE1, hM1, hk1, _, _⟩ := hm.kill [id] (fun k hk => by simp at hk; subst hk; exact hkid.1)
            have := grownOK (e := e) hM1 (fun h => hf (hk1 _ h)) (n := n + ys.length) (by simp [hnB]) ((helo.append hels).step hE1) q1 q2 q3 q4 (r := (do pure (Next.value (← Builtin.append_ #[t, t] ty #[.slice A1 n c1, .slice (some ad) ys.length c2])) : Sem Next).run P E.w) (by rw [hw1]; simp [hr])
            obtain ⟨n', v', E', w1, w2, w3, w4, w5, w6, w7⟩ := this
            refine ⟨n', v', E', w1, w2, hE1.trans w3, w4, w5, by rw [← hw1]; exact w6, fun id' hi' => ?_⟩
            rcases w7 id' hi' with h | h
            · exact .inl (hk1 _ h)
            · exact .inr (by simp at h; simp [h])
      · split at h
        rotate_left
        · simp [RM.run] at h
        rename_i hc
        obtain ⟨rfl, hBs, hfit0⟩ := hc
        simp only [RM.run, Option.some.injEq, Out.done.injEq] at h
        obtain ⟨rfl, rfl⟩ := h
        exact appInOK (ty := ty) hm hf ht hi hs hpos hvs hels hsrc hB hBs hfit0 (fun A n c => stay A n c)
  · simp [RM.run] at h
end
end Go.Proofs.YtgepadjkegfokaaDoor
