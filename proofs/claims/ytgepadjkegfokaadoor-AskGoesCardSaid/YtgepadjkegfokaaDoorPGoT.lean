/- How Go's data lie in memory, as one relation for every type: numbers, strings, structs as products, slices as lists; arguments of a statement opened by it. No condition. -/
import Derived.Test.YtgepadjkegfokaaDoorPBase
import Derived.Deep.Slices
import Derived.Below
import Derived.ShutString
import Derived.OpenShut
import Derived.SizedLaws
import Derived.Deep.OwnRows
namespace Go.Proofs.YtgepadjkegfokaaDoor
set_option linter.unusedSimpArgs false
set_option linter.unusedVariables false
open Go.RowKit Go.ChangeShapes Go.WideShapes Go.Deep
/-- 'rep w B cs x': the cells cs are the Go value x in world w; all memory that it reaches lies below block B. -/
class GoT (α : Type) where
  size : Nat
  rep : World → Nat → List Value → α → Prop
  len : ∀ {w B cs x}, rep w B cs x → cs.length = size
  keep : ∀ {w w' : World} {B cs x}, rep w B cs x → (∀ p : Addr, p.block < B → w'.cell? p = w.cell? p) → rep w' B cs x
  more : ∀ {w B B' cs x}, rep w B cs x → B ≤ B' → rep w B' cs x
theorem GoT.below {α : Type} [GoT α] {w w' : World} {B : Nat} {cs : List Value} {x : α} (h : GoT.rep w B cs x) (hb : Below B w w') : GoT.rep w' B cs x :=
  GoT.keep h fun _ hp => hb.cell hp
/-- A Go int. -/
instance : GoT Int where
  size := 1
  rep _ _ cs x := cs = [I x] ∧ -9223372036854775808 ≤ x ∧ x ≤ 9223372036854775807
  len h := by rw [h.1]; rfl
  keep h _ := h
  more h _ := h
instance : GoT UInt8 where
  size := 1
  rep _ _ cs x := cs = [B x]
  len h := by rw [h]; rfl
  keep h _ := h
  more h _ := h
/-- A uint64, as the number that it is. -/
structure U64 where
  n : Nat
  lt : n < 18446744073709551616
instance : GoT U64 where
  size := 1
  rep _ _ cs x := cs = [.int .u64 (x.n : Int)]
  len h := by rw [h]; rfl
  keep h _ := h
  more h _ := h
instance : GoT Bool where
  size := 1
  rep _ _ cs x := cs = [.bool x]
  len h := by rw [h]; rfl
  keep h _ := h
  more h _ := h
instance : GoT ByteArray where
  size := 1
  rep _ _ cs x := cs = [.string x] ∧ x.size ≤ 9223372036854775807
  len h := by rw [h.1]; rfl
  keep h _ := h
  more h _ := h
/-- A struct is a product of its fields. -/
instance {α β : Type} [GoT α] [GoT β] : GoT (α × β) where
  size := GoT.size α + GoT.size β
  rep w B cs x := ∃ c0 c1, cs = c0 ++ c1 ∧ GoT.rep w B c0 x.1 ∧ GoT.rep w B c1 x.2
  len := by rintro w B cs x ⟨c0, c1, rfl, h0, h1⟩; rw [List.length_append, GoT.len h0, GoT.len h1]
  keep := by rintro w w' B cs x ⟨c0, c1, rfl, h0, h1⟩ hk; exact ⟨c0, c1, rfl, GoT.keep h0 hk, GoT.keep h1 hk⟩
  more := by rintro w B B' cs x ⟨c0, c1, rfl, h0, h1⟩ hk; exact ⟨c0, c1, rfl, GoT.more h0 hk, GoT.more h1 hk⟩
/-- The elements of a slice: element i lies at the cells from off + i * size on. -/
def SliceAt {α : Type} [GoT α] (w : World) (B b off : Nat) (xs : List α) : Prop :=
  ∀ i x, xs[i]? = some x → ∃ cs, GoT.rep w B cs x ∧ ∀ j u, cs[j]? = some u → w.cell? ⟨b, off + i * GoT.size α + j, none⟩ = some u
instance {α : Type} [GoT α] : GoT (List α) where
  size := 1
  rep w B cs xs := ∃ A n c, cs = [.slice A n c] ∧ n = xs.length ∧ n ≤ c ∧ c ≤ 9223372036854775807 ∧ (xs = [] ∨ ∃ b off, A = some ⟨b, off, none⟩ ∧ b < B ∧ SliceAt w B b off xs)
  len := by rintro w B cs x ⟨A, n, c, rfl, _⟩; rfl
  keep := by
    rintro w w' B cs xs ⟨A, n, c, rfl, hn, hc, hm, h⟩ hk
    refine ⟨A, n, c, rfl, hn, hc, hm, h.imp id ?_⟩
    rintro ⟨b, off, hA, hb, hs⟩
    refine ⟨b, off, hA, hb, fun i x hx => ?_⟩
    obtain ⟨cs, h1, h2⟩ := hs i x hx
    exact ⟨cs, GoT.keep h1 hk, fun j u hu => (hk _ hb).trans (h2 j u hu)⟩
  more := by
    rintro w B B' cs xs ⟨A, n, c, rfl, hn, hc, hm, h⟩ hk
    refine ⟨A, n, c, rfl, hn, hc, hm, h.imp id ?_⟩
    rintro ⟨b, off, hA, hb, hs⟩
    refine ⟨b, off, hA, Nat.lt_of_lt_of_le hb hk, fun i x hx => ?_⟩
    obtain ⟨cs, h1, h2⟩ := hs i x hx
    exact ⟨cs, GoT.more h1 hk, h2⟩
/-- A type of one's own that is a product by a function. -/
@[reducible] def GoT.via {α β : Type} [GoT β] (f : α → β) : GoT α where
  size := GoT.size β
  rep w B cs x := GoT.rep w B cs (f x)
  len h := GoT.len h
  keep h hk := GoT.keep h hk
  more h hk := GoT.more h hk
/-- What reads as data of type t is a value of α. -/
structure Opens (P : Program) (t : TypeId) (α : Type) [GoT α] : Prop where
  cells : P.cellsOf t = GoT.size α
  read : ∀ {H : Type} {enc : TypeId × Value → H} {W : World} {base : Nat} {sp : Nat → Bool} {held : Bool} {fuel : Nat} {cs : List Value} {y : DataW H × List MemPlace},
    DataW.trod enc P W base sp held fuel t cs = some y → ∃ x : α, GoT.rep W W.heap.size cs x
theorem GoT_i64 {P : Program} {t : TypeId} (hu : P.underlying t = some (.int .i64)) (hc : P.cellsOf t = 1) : Opens P t Int where
  cells := hc
  read h := by
    obtain ⟨n, rfl, _, hw⟩ := DataW.trod_int hu h
    exact ⟨n, rfl, i64_bd hw⟩
theorem GoT_u64 {P : Program} {t : TypeId} (hu : P.underlying t = some (.int .u64)) (hc : P.cellsOf t = 1) : Opens P t U64 where
  cells := hc
  read h := by
    obtain ⟨n, rfl, _, hw⟩ := DataW.trod_int hu h
    simp only [Lit.wf, Bool.and_eq_true, decide_eq_true_eq] at hw
    have h1 : IntKind.u64.min = 0 := rfl
    have h2 : IntKind.u64.max = 18446744073709551615 := rfl
    exact ⟨⟨n.toNat, by omega⟩, by show [Value.int .u64 n] = [.int .u64 (n.toNat : Int)]; rw [Int.toNat_of_nonneg (by omega)]⟩
theorem GoT_str {P : Program} {t : TypeId} (hu : P.underlying t = some .string) (hc : P.cellsOf t = 1) : Opens P t ByteArray where
  cells := hc
  read h := by
    obtain ⟨n, rfl, _, hw⟩ := DataW.trod_string hu h
    exact ⟨n, rfl, hw⟩
theorem addr_add (b off i : Nat) : (⟨b, off, none⟩ : Addr).add i = ⟨b, off + i, none⟩ := by
  unfold Addr.add
  by_cases h : i = 0
  · subst h; rfl
  · simp [h]
theorem cell_lt {w : World} {p : Addr} {v : Value} (h : w.cell? p = some v) : p.block < w.heap.size := by
  rcases Nat.lt_or_ge p.block w.heap.size with h1 | h1
  · exact h1
  · unfold World.cell? at h
    rw [Array.getElem?_eq_none h1] at h
    simp at h
theorem opens_slice {P : Program} {t e : TypeId} {α : Type} [GoT α] (hu : P.underlying t = some (.slice e)) (hc : P.cellsOf t = 1) (he : Opens P e α) (hpos : 0 < GoT.size α) : Opens P t (List α) where
  cells := hc
  read := by
    intro H enc W base sp held fuel cs y h
    rcases open_slice hu h with ⟨rfl, _⟩ | ⟨a, len, cap, m, n, D, Pl, rfl, hb, hl, hm, hmm, _, hx⟩
    · exact ⟨[], none, 0, 0, rfl, rfl, by omega, by omega, .inl rfl⟩
    · have hlm : len ≤ m := by rw [hmm]; split <;> omega
      have hel : ∀ i, i < len → ∃ x : α, ∃ cs, GoT.rep W W.heap.size cs x ∧ ∀ j u, cs[j]? = some u → W.cell? (a.add (i * GoT.size α + j)) = some u := by
        intro i hi
        obtain ⟨cs', h1, h2⟩ := hx i (by omega)
        obtain ⟨x, hr⟩ := he.read h2
        rw [he.cells] at h1
        obtain ⟨_, hcl, hat⟩ := World.cells?_some h1
        refine ⟨x, cs', hr, fun j u hu => ?_⟩
        have hj : j < cs'.length := (List.getElem?_eq_some_iff.1 hu).1
        have := hat j (by omega)
        rw [Go.Deep.add_add] at this
        rw [this, hu]
      clear hx
      have hxs : ∀ k, k ≤ len → ∃ xs : List α, xs.length = k ∧ ∀ i x, xs[i]? = some x → ∃ cs, GoT.rep W W.heap.size cs x ∧ ∀ j u, cs[j]? = some u → W.cell? (a.add (i * GoT.size α + j)) = some u := by
        intro k
        induction k with
        | zero => intro _; exact ⟨[], rfl, by simp⟩
        | succ k ih =>
          intro hk
          obtain ⟨xs, h1, h2⟩ := ih (by omega)
          obtain ⟨x, cs, h3, h4⟩ := hel k (by omega)
          refine ⟨xs ++ [x], by simp [h1], fun i z hz => ?_⟩
          by_cases hi : i < k
          · rw [List.getElem?_append_left (by omega)] at hz
            exact h2 i z hz
          · rw [List.getElem?_append_right (by omega)] at hz
            obtain ⟨hi2, rfl⟩ : i = k ∧ x = z := by
              have : i - xs.length = 0 := by
                rcases Nat.eq_zero_or_pos (i - xs.length) with h | h
                · exact h
                · rw [List.getElem?_eq_none (by simp; omega)] at hz; cases hz
              rw [this] at hz
              simp at hz
              exact ⟨by omega, hz⟩
            subst hi2
            exact ⟨cs, h3, h4⟩
      obtain ⟨xs, h1, h2⟩ := hxs len (Nat.le_refl _)
      refine ⟨xs, some a, len, cap, rfl, h1.symm, hl, hm, ?_⟩
      by_cases h0 : xs = []
      · exact .inl h0
      · right
        have hp : 0 < xs.length := List.length_pos_iff.2 h0
        obtain ⟨cs0, h3, h4⟩ := h2 0 xs[0] (List.getElem?_eq_getElem hp)
        have hlen := GoT.len h3
        have h5 := h4 0 cs0[0] (List.getElem?_eq_getElem (by omega))
        have hlt := cell_lt h5
        obtain ⟨b, off, spot⟩ := a
        have hsp : spot = none := by
          have := World.cell?_spot h5
          simpa [Addr.add] using this
        subst hsp
        simp only [addr_add] at h2 h5 hlt
        refine ⟨b, off, rfl, hlt, fun i x hx => ?_⟩
        obtain ⟨cs, h6, h7⟩ := h2 i x hx
        exact ⟨cs, h6, fun j u hu => by rw [Nat.add_assoc]; exact h7 j u hu⟩
/-- The fields of a struct from offset 'off' on are a value of β. -/
structure OpensFields (P : Program) (fs : List Field) (off : Nat) (β : Type) [GoT β] : Prop where
  read : ∀ {H : Type} {enc : TypeId × Value → H} {W : World} {base : Nat} {sp : Nat → Bool} {held : Bool} {n : Nat} {cs : List Value} {ys : List (DataW H × List MemPlace)},
    cs.length = off + GoT.size β → fs.length ≤ ys.length →
    (∀ (i : Nat) (f : Field), fs[i]? = some f → DataW.trod enc P W base sp held n f.type ((cs.drop f.offset).take (P.cellsOf f.type)) = ys[i]?) → ∃ x : β, GoT.rep W W.heap.size (cs.drop off) x
theorem opens_last {P : Program} {f : Field} {off : Nat} {α : Type} [GoT α] (h : Opens P f.type α) (ho : f.offset = off) : OpensFields P [f] off α where
  read := by
    intro H enc W base sp held n cs ys hl hy hx
    obtain ⟨y0, ys', rfl⟩ : ∃ y0 ys', ys = y0 :: ys' := by
      cases ys with
      | nil => simp at hy
      | cons a b => exact ⟨a, b, rfl⟩
    have h0 := hx 0 f rfl
    rw [h.cells, ho, List.take_of_length_le (by rw [List.length_drop]; omega)] at h0
    exact h.read h0
theorem opens_cons {P : Program} {f : Field} {fs : List Field} {off : Nat} {α β : Type} [GoT α] [GoT β] (h : Opens P f.type α) (ho : f.offset = off) (hr : OpensFields P fs (off + GoT.size α) β) : OpensFields P (f :: fs) off (α × β) where
  read := by
    intro H enc W base sp held n cs ys hl hy hx
    obtain ⟨y0, ys', rfl⟩ : ∃ y0 ys', ys = y0 :: ys' := by
      cases ys with
      | nil => simp at hy
      | cons a b => exact ⟨a, b, rfl⟩
    have hsz : GoT.size (α × β) = GoT.size α + GoT.size β := rfl
    have h0 := hx 0 f rfl
    rw [h.cells, ho] at h0
    obtain ⟨x, hx0⟩ := h.read (y := y0) (by rw [h0]; rfl)
    obtain ⟨z, hz⟩ := hr.read (cs := cs) (ys := ys') (n := n) (by omega) (by simpa using hy) (fun i g hg => by rw [hx (i + 1) g (by simpa using hg)]; rfl)
    refine ⟨(x, z), _, _, ?_, hx0, hz⟩
    rw [← List.drop_drop, List.take_append_drop]
theorem opens_struct {P : Program} {t : TypeId} {fs : Array Field} {l : List Field} {β : Type} [GoT β] (hu : P.underlying t = some (.struct fs)) (hf : fs.toList = l) (hc : P.cellsOf t = GoT.size β) (h : OpensFields P l 0 β) : Opens P t β where
  cells := hc
  read := by
    intro H enc W base sp held fuel cs y ht
    obtain ⟨xs, n, _, _, hl, hxl, hg⟩ := DataW.trod_struct hu ht
    have hlen : l.length = fs.size := by rw [← hf]; rfl
    have := h.read (cs := cs) (ys := xs) (n := n) (by rw [hl, hc]; omega) (by omega) (fun i f hi => hg i f (by rw [← hf] at hi; simpa using hi))
    simpa using this
/-- By a function from a product. -/
theorem Opens.via {P : Program} {t : TypeId} {α β : Type} [GoT β] (h : Opens P t β) (f : α → β) (g : β → α) (hg : ∀ x, f (g x) = x) : @Opens P t α (GoT.via f) :=
  @Opens.mk P t α (GoT.via f) h.cells (fun ht => by obtain ⟨x, hx⟩ := h.read ht; exact ⟨g x, by show GoT.rep _ _ _ (f (g x)); rw [hg]; exact hx⟩)
/-- A parameter that is a struct. -/
theorem open_agg {P : Program} {t : TypeId} {fs : Array Field} {α : Type} [GoT α] (ho : Opens P t α) (hu : P.underlying t = some (.struct fs)) {W : World} {r : Reach} {b0 : Nat} {v : Value} {H : Type} {enc : TypeId × Value → H} {base : Nat} {sp : Nat → Bool} {held : Bool} {d : DataW H} {p : List MemPlace}
    (hv : Value.okWide P W r b0 t v) (h : DataW.Trod enc P W base sp held t v d p) : ∃ (x : α) (cs : List Value), v = .agg cs.toArray ∧ GoT.rep W W.heap.size cs x := by
  obtain ⟨cs, rfl, _⟩ := okWide_struct hu hv
  obtain ⟨fuel, hf⟩ := h
  obtain ⟨x, hx⟩ := ho.read hf
  exact ⟨x, cs.toList, rfl, hx⟩
theorem list_open {α : Type} [GoT α] (enc : α → List Value) (ok : α → Prop) (hf : ∀ {w B cs} {x : α}, GoT.rep w B cs x → cs = enc x ∧ ok x) {w : World} {B : Nat} {A : Option Addr} {n c : Nat} {xs : List α} (h : GoT.rep w B [.slice A n c] xs) :
    n = xs.length ∧ n ≤ c ∧ c ≤ 9223372036854775807 ∧ (∀ x, x ∈ xs → ok x) ∧ (xs = [] ∨ ∃ b off, A = some ⟨b, off, none⟩ ∧ b < B ∧ ∀ i (hi : i < xs.length) j u, (enc xs[i])[j]? = some u → w.cell? ⟨b, off + i * GoT.size α + j, none⟩ = some u) := by
  obtain ⟨A', n', c', he, hn, hc, hm, hx⟩ := h
  simp only [List.cons.injEq, Value.slice.injEq, and_true] at he
  obtain ⟨rfl, rfl, rfl⟩ := he
  rcases hx with rfl | ⟨b, off, hA, hb, hs⟩
  · exact ⟨hn, hc, hm, by simp, .inl rfl⟩
  · refine ⟨hn, hc, hm, fun x hx => ?_, .inr ⟨b, off, hA, hb, fun i hi j u hu => ?_⟩⟩
    · obtain ⟨i, hi, rfl⟩ := List.getElem_of_mem hx
      obtain ⟨cs, h1, _⟩ := hs i _ (List.getElem?_eq_getElem hi)
      exact (hf h1).2
    · obtain ⟨cs, h1, h2⟩ := hs i _ (List.getElem?_eq_getElem hi)
      rw [(hf h1).1] at h2
      exact h2 j u hu
theorem int_flat {w : World} {B : Nat} {cs : List Value} {x : Int} (h : GoT.rep w B cs x) : cs = [I x] ∧ (-9223372036854775808 ≤ x ∧ x ≤ 9223372036854775807) := h
theorem u8_flat {w : World} {Bd : Nat} {cs : List Value} {x : UInt8} (h : GoT.rep w Bd cs x) : cs = [B x] ∧ True := ⟨h, trivial⟩
theorem u64_flat {w : World} {B : Nat} {cs : List Value} {x : U64} (h : GoT.rep w B cs x) : cs = [.int .u64 (x.n : Int)] ∧ True := ⟨h, trivial⟩
theorem bool_flat {w : World} {B : Nat} {cs : List Value} {x : Bool} (h : GoT.rep w B cs x) : cs = [.bool x] ∧ True := ⟨h, trivial⟩
theorem str_flat {w : World} {B : Nat} {cs : List Value} {x : ByteArray} (h : GoT.rep w B cs x) : cs = [.string x] ∧ x.size ≤ 9223372036854775807 := h
theorem GoT.step {α : Type} [GoT α] {a b : World} {cs : List Value} {x : α} (h : GoT.rep a a.heap.size cs x) (hb : Below a.heap.size a b) : GoT.rep b b.heap.size cs x := GoT.more (GoT.below h hb) hb.size
theorem Int.get {w : World} {Bd : Nat} {A : Option Addr} {n c : Nat} {xs : List Int} (h : GoT.rep w Bd [.slice A n c] xs) (k : Nat) (hk : k < n) :
    ∃ (b off : Nat) (x : Int), A = some ⟨b, off, none⟩ ∧ b < Bd ∧ (-9223372036854775808 ≤ x ∧ x ≤ 9223372036854775807) ∧ x ∈ xs ∧ xs[k]? = some x ∧ xs.drop k = x :: xs.drop (k + 1) ∧ w.cell? ⟨b, off + k, none⟩ = some (I x) := by
  obtain ⟨h1, h2, h3, h4, h5⟩ := list_open (fun x : Int => [I x]) _ int_flat h
  have hl : k < xs.length := by omega
  rcases h5 with rfl | ⟨b, off, hA, hb, hs⟩
  · simp at hl
  refine ⟨b, off, xs[k], hA, hb, h4 _ (List.getElem_mem hl), List.getElem_mem hl, List.getElem?_eq_getElem hl, List.drop_eq_getElem_cons hl, ?_⟩
  · have := hs k hl 0 _ rfl; simpa [GoT.size] using this
theorem U8.get {w : World} {Bd : Nat} {A : Option Addr} {n c : Nat} {xs : List UInt8} (h : GoT.rep w Bd [.slice A n c] xs) (k : Nat) (hk : k < n) :
    ∃ (b off : Nat) (x : UInt8), A = some ⟨b, off, none⟩ ∧ b < Bd ∧ True ∧ x ∈ xs ∧ xs[k]? = some x ∧ xs.drop k = x :: xs.drop (k + 1) ∧ w.cell? ⟨b, off + k, none⟩ = some (B x) := by
  obtain ⟨h1, h2, h3, h4, h5⟩ := list_open (fun x : UInt8 => [B x]) _ u8_flat h
  have hl : k < xs.length := by omega
  rcases h5 with rfl | ⟨b, off, hA, hb, hs⟩
  · simp at hl
  refine ⟨b, off, xs[k], hA, hb, h4 _ (List.getElem_mem hl), List.getElem_mem hl, List.getElem?_eq_getElem hl, List.drop_eq_getElem_cons hl, ?_⟩
  · have := hs k hl 0 _ rfl; simpa [GoT.size] using this
theorem U64x.get {w : World} {Bd : Nat} {A : Option Addr} {n c : Nat} {xs : List U64} (h : GoT.rep w Bd [.slice A n c] xs) (k : Nat) (hk : k < n) :
    ∃ (b off : Nat) (x : U64), A = some ⟨b, off, none⟩ ∧ b < Bd ∧ True ∧ x ∈ xs ∧ xs[k]? = some x ∧ xs.drop k = x :: xs.drop (k + 1) ∧ w.cell? ⟨b, off + k, none⟩ = some (.int .u64 (x.n : Int)) := by
  obtain ⟨h1, h2, h3, h4, h5⟩ := list_open (fun x : U64 => [.int .u64 (x.n : Int)]) _ u64_flat h
  have hl : k < xs.length := by omega
  rcases h5 with rfl | ⟨b, off, hA, hb, hs⟩
  · simp at hl
  refine ⟨b, off, xs[k], hA, hb, h4 _ (List.getElem_mem hl), List.getElem_mem hl, List.getElem?_eq_getElem hl, List.drop_eq_getElem_cons hl, ?_⟩
  · have := hs k hl 0 _ rfl; simpa [GoT.size] using this
theorem Boo.get {w : World} {Bd : Nat} {A : Option Addr} {n c : Nat} {xs : List Bool} (h : GoT.rep w Bd [.slice A n c] xs) (k : Nat) (hk : k < n) :
    ∃ (b off : Nat) (x : Bool), A = some ⟨b, off, none⟩ ∧ b < Bd ∧ True ∧ x ∈ xs ∧ xs[k]? = some x ∧ xs.drop k = x :: xs.drop (k + 1) ∧ w.cell? ⟨b, off + k, none⟩ = some (.bool x) := by
  obtain ⟨h1, h2, h3, h4, h5⟩ := list_open (fun x : Bool => [.bool x]) _ bool_flat h
  have hl : k < xs.length := by omega
  rcases h5 with rfl | ⟨b, off, hA, hb, hs⟩
  · simp at hl
  refine ⟨b, off, xs[k], hA, hb, h4 _ (List.getElem_mem hl), List.getElem_mem hl, List.getElem?_eq_getElem hl, List.drop_eq_getElem_cons hl, ?_⟩
  · have := hs k hl 0 _ rfl; simpa [GoT.size] using this
theorem Str.get {w : World} {Bd : Nat} {A : Option Addr} {n c : Nat} {xs : List ByteArray} (h : GoT.rep w Bd [.slice A n c] xs) (k : Nat) (hk : k < n) :
    ∃ (b off : Nat) (x : ByteArray), A = some ⟨b, off, none⟩ ∧ b < Bd ∧ (x.size ≤ 9223372036854775807) ∧ x ∈ xs ∧ xs[k]? = some x ∧ xs.drop k = x :: xs.drop (k + 1) ∧ w.cell? ⟨b, off + k, none⟩ = some (.string x) := by
  obtain ⟨h1, h2, h3, h4, h5⟩ := list_open (fun x : ByteArray => [.string x]) _ str_flat h
  have hl : k < xs.length := by omega
  rcases h5 with rfl | ⟨b, off, hA, hb, hs⟩
  · simp at hl
  refine ⟨b, off, xs[k], hA, hb, h4 _ (List.getElem_mem hl), List.getElem_mem hl, List.getElem?_eq_getElem hl, List.drop_eq_getElem_cons hl, ?_⟩
  · have := hs k hl 0 _ rfl; simpa [GoT.size] using this
end Go.Proofs.YtgepadjkegfokaaDoor
