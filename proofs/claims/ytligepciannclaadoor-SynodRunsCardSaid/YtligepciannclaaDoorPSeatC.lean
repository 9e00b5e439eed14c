/- What the functions of package seat answer: bids. No condition. -/
import Derived.WalkKit
import Derived.Lib.Hide
import Derived.Lib.QuietBelow
import Derived.BigQuiet
import Derived.Deep.Slices
import Derived.Below
import Derived.ShutString
import Derived.OpenShut
import Derived.SizedLaws
import Derived.Deep.OwnRows
import Derived.Test.YtligepciannclaaDoorPAvStep
import Derived.Test.YtligepciannclaaDoorPAvFix
import Derived.Test.YtligepciannclaaDoorPAvOwn
set_option linter.unusedSimpArgs false
set_option linter.unusedVariables false
set_option maxHeartbeats 4000000
set_option maxRecDepth 100000
namespace Go.Proofs.YtligepciannclaaDoor
open Go.RowKit Go.Sort
abbrev B (x : UInt8) : Value := .int .u8 x.toNat
abbrev I (x : Int) : Value := .int .i64 x
theorem bt {w a b : World} (h : Below w.heap.size w a) (k : Below a.heap.size a b) : Below w.heap.size w b := h.trans (k.mono h.size)
theorem i64_bd {n : Int} (h : (Lit.int .i64 n).wf = true) : -9223372036854775808 ≤ n ∧ n ≤ 9223372036854775807 := by
  simp only [Lit.wf, Bool.and_eq_true, decide_eq_true_eq] at h
  have h1 : IntKind.i64.min = -9223372036854775808 := rfl
  have h2 : IntKind.i64.max = 9223372036854775807 := rfl
  omega
@[go_sem] theorem cell_grow {w : World} {a : Addr} {d : Nat} {os : Array Obj} (h : (w.cell? a).isSome = true) : (grow (redrawn w d) os).cell? a = w.cell? a := by
  obtain ⟨v, hv⟩ := Option.isSome_iff_exists.1 h
  rw [hv]; exact cell_regrown hv d os
theorem r2 {x : Int × Int} {a b : Int} (h : x = (a, b)) : Ending.returned (.tuple #[.int .i64 a, .int .i64 b]) = .returned (.tuple #[.int .i64 x.1, .int .i64 x.2]) := by subst h; rfl
theorem ri {k : IntKind} {a b : Int} (h : a = b) : Ending.returned (.int k a) = Ending.returned (.int k b) := by rw [h]
def wi (n lo hi : Int) : Bool := decide (lo ≤ n ∧ n ≤ hi)
theorem wi_iff {n lo hi : Int} : wi n lo hi = true ↔ lo ≤ n ∧ n ≤ hi := by simp [wi]
theorem wi_iffF {n lo hi : Int} : wi n lo hi = false ↔ n < lo ∨ hi < n := by
  simp only [wi, decide_eq_false_iff_not]; omega
open Go.RowKit Go.ChangeShapes Go.WideShapes Go.Deep
class GoT (α : Type) where
  size : Nat
  rep : World → Nat → List Value → α → Prop
  len : ∀ {w B cs x}, rep w B cs x → cs.length = size
  keep : ∀ {w w' : World} {B cs x}, rep w B cs x → (∀ p : Addr, p.block < B → w'.cell? p = w.cell? p) → rep w' B cs x
  more : ∀ {w B B' cs x}, rep w B cs x → B ≤ B' → rep w B' cs x
instance : GoT Int where
  size := 1
  rep _ _ cs x := cs = [I x] ∧ -9223372036854775808 ≤ x ∧ x ≤ 9223372036854775807
  len h := by rw [h.1]; rfl
  keep h _ := h
  more h _ := h
instance : GoT UInt8 where
  size := 1
  rep _ _ cs x := cs = [B x]
  len h := by rw [h]; rfl
  keep h _ := h
  more h _ := h
structure U64 where
  n : Nat
  lt : n < 18446744073709551616
instance : GoT U64 where
  size := 1
  rep _ _ cs x := cs = [.int .u64 (x.n : Int)]
  len h := by rw [h]; rfl
  keep h _ := h
  more h _ := h
instance : GoT Bool where
  size := 1
  rep _ _ cs x := cs = [.bool x]
  len h := by rw [h]; rfl
  keep h _ := h
  more h _ := h
instance : GoT ByteArray where
  size := 1
  rep _ _ cs x := cs = [.string x] ∧ x.size ≤ 9223372036854775807
  len h := by rw [h.1]; rfl
  keep h _ := h
  more h _ := h
instance {α β : Type} [GoT α] [GoT β] : GoT (α × β) where
  size := GoT.size α + GoT.size β
  rep w B cs x := ∃ c0 c1, cs = c0 ++ c1 ∧ GoT.rep w B c0 x.1 ∧ GoT.rep w B c1 x.2
  len := by rintro w B cs x ⟨c0, c1, rfl, h0, h1⟩; rw [List.length_append, GoT.len h0, GoT.len h1]
  keep := by rintro w w' B cs x ⟨c0, c1, rfl, h0, h1⟩ hk; exact ⟨c0, c1, rfl, GoT.keep h0 hk, GoT.keep h1 hk⟩
  more := by rintro w B B' cs x ⟨c0, c1, rfl, h0, h1⟩ hk; exact ⟨c0, c1, rfl, GoT.more h0 hk, GoT.more h1 hk⟩
def SliceAt {α : Type} [GoT α] (w : World) (B b off : Nat) (xs : List α) : Prop :=
  ∀ i x, xs[i]? = some x → ∃ cs, GoT.rep w B cs x ∧ ∀ j u, cs[j]? = some u → w.cell? ⟨b, off + i * GoT.size α + j, none⟩ = some u
instance {α : Type} [GoT α] : GoT (List α) where
  size := 1
  rep w B cs xs := ∃ A n c, cs = [.slice A n c] ∧ n = xs.length ∧ n ≤ c ∧ c ≤ 9223372036854775807 ∧ (xs = [] ∨ ∃ b off, A = some ⟨b, off, none⟩ ∧ b < B ∧ SliceAt w B b off xs)
  len := by rintro w B cs x ⟨A, n, c, rfl, _⟩; rfl
  keep := by
    rintro w w' B cs xs ⟨A, n, c, rfl, hn, hc, hm, h⟩ hk
    refine ⟨A, n, c, rfl, hn, hc, hm, h.imp id ?_⟩
    rintro ⟨b, off, hA, hb, hs⟩
    refine ⟨b, off, hA, hb, fun i x hx => ?_⟩
    obtain ⟨cs, h1, h2⟩ := hs i x hx
    exact ⟨cs, GoT.keep h1 hk, fun j u hu => (hk _ hb).trans (h2 j u hu)⟩
  more := by
    rintro w B B' cs xs ⟨A, n, c, rfl, hn, hc, hm, h⟩ hk
    refine ⟨A, n, c, rfl, hn, hc, hm, h.imp id ?_⟩
    rintro ⟨b, off, hA, hb, hs⟩
    refine ⟨b, off, hA, Nat.lt_of_lt_of_le hb hk, fun i x hx => ?_⟩
    obtain ⟨cs, h1, h2⟩ := hs i x hx
    exact ⟨cs, GoT.more h1 hk, h2⟩
@[reducible] def GoT.via {α β : Type} [GoT β] (f : α → β) : GoT α where
  size := GoT.size β
  rep w B cs x := GoT.rep w B cs (f x)
  len h := GoT.len h
  keep h hk := GoT.keep h hk
  more h hk := GoT.more h hk
structure Opens (P : Program) (t : TypeId) (α : Type) [GoT α] : Prop where
  cells : P.cellsOf t = GoT.size α
  read : ∀ {H : Type} {enc : TypeId × Value → H} {W : World} {base : Nat} {sp : Nat → Bool} {held : Bool} {fuel : Nat} {cs : List Value} {y : DataW H × List MemPlace},
    DataW.trod enc P W base sp held fuel t cs = some y → ∃ x : α, GoT.rep W W.heap.size cs x
theorem GoT_i64 {P : Program} {t : TypeId} (hu : P.underlying t = some (.int .i64)) (hc : P.cellsOf t = 1) : Opens P t Int where
  cells := hc
  read h := by
    obtain ⟨n, rfl, _, hw⟩ := DataW.trod_int hu h
    exact ⟨n, rfl, i64_bd hw⟩
theorem GoT_u64 {P : Program} {t : TypeId} (hu : P.underlying t = some (.int .u64)) (hc : P.cellsOf t = 1) : Opens P t U64 where
  cells := hc
  read h := by
    obtain ⟨n, rfl, _, hw⟩ := DataW.trod_int hu h
    simp only [Lit.wf, Bool.and_eq_true, decide_eq_true_eq] at hw
    have h1 : IntKind.u64.min = 0 := rfl
    have h2 : IntKind.u64.max = 18446744073709551615 := rfl
    exact ⟨⟨n.toNat, by omega⟩, by show [Value.int .u64 n] = [.int .u64 (n.toNat : Int)]; rw [Int.toNat_of_nonneg (by omega)]⟩
theorem GoT_str {P : Program} {t : TypeId} (hu : P.underlying t = some .string) (hc : P.cellsOf t = 1) : Opens P t ByteArray where
  cells := hc
  read h := by
    obtain ⟨n, rfl, _, hw⟩ := DataW.trod_string hu h
    exact ⟨n, rfl, hw⟩
theorem addr_add (b off i : Nat) : (⟨b, off, none⟩ : Addr).add i = ⟨b, off + i, none⟩ := by
  unfold Addr.add
  by_cases h : i = 0
  · subst h; rfl
  · simp [h]
theorem cell_lt {w : World} {p : Addr} {v : Value} (h : w.cell? p = some v) : p.block < w.heap.size := by
  rcases Nat.lt_or_ge p.block w.heap.size with h1 | h1
  · exact h1
  · unfold World.cell? at h
    rw [Array.getElem?_eq_none h1] at h
    simp at h
theorem opens_slice {P : Program} {t e : TypeId} {α : Type} [GoT α] (hu : P.underlying t = some (.slice e)) (hc : P.cellsOf t = 1) (he : Opens P e α) (hpos : 0 < GoT.size α) : Opens P t (List α) where
  cells := hc
  read := by
    intro H enc W base sp held fuel cs y h
    rcases open_slice hu h with ⟨rfl, _⟩ | ⟨a, len, cap, m, n, D, Pl, rfl, hb, hl, hm, hmm, _, hx⟩
    · exact ⟨[], none, 0, 0, rfl, rfl, by omega, by omega, .inl rfl⟩
    · have hlm : len ≤ m := by rw [hmm]; split <;> omega
      have hel : ∀ i, i < len → ∃ x : α, ∃ cs, GoT.rep W W.heap.size cs x ∧ ∀ j u, cs[j]? = some u → W.cell? (a.add (i * GoT.size α + j)) = some u := by
        intro i hi
        obtain ⟨cs', h1, h2⟩ := hx i (by omega)
        obtain ⟨x, hr⟩ := he.read h2
        rw [he.cells] at h1
        obtain ⟨_, hcl, hat⟩ := World.cells?_some h1
        refine ⟨x, cs', hr, fun j u hu => ?_⟩
        have hj : j < cs'.length := (List.getElem?_eq_some_iff.1 hu).1
        have := hat j (by omega)
        rw [Go.Deep.add_add] at this
        rw [this, hu]
      clear hx
      have hxs : ∀ k, k ≤ len → ∃ xs : List α, xs.length = k ∧ ∀ i x, xs[i]? = some x → ∃ cs, GoT.rep W W.heap.size cs x ∧ ∀ j u, cs[j]? = some u → W.cell? (a.add (i * GoT.size α + j)) = some u := by
        intro k
        induction k with
        | zero => intro _; exact ⟨[], rfl, by simp⟩
        | succ k ih =>
          intro hk
          obtain ⟨xs, h1, h2⟩ := ih (by omega)
          obtain ⟨x, cs, h3, h4⟩ := hel k (by omega)
          refine ⟨xs ++ [x], by simp [h1], fun i z hz => ?_⟩
          by_cases hi : i < k
          · rw [List.getElem?_append_left (by omega)] at hz
            exact h2 i z hz
          · rw [List.getElem?_append_right (by omega)] at hz
            obtain ⟨hi2, rfl⟩ : i = k ∧ x = z := by
              have : i - xs.length = 0 := by
                rcases Nat.eq_zero_or_pos (i - xs.length) with h | h
                · exact h
                · rw [List.getElem?_eq_none (by simp; omega)] at hz; cases hz
              rw [this] at hz
              simp at hz
              exact ⟨by omega, hz⟩
            subst hi2
            exact ⟨cs, h3, h4⟩
      obtain ⟨xs, h1, h2⟩ := hxs len (Nat.le_refl _)
      refine ⟨xs, some a, len, cap, rfl, h1.symm, hl, hm, ?_⟩
      by_cases h0 : xs = []
      · exact .inl h0
      · right
        have hp : 0 < xs.length := List.length_pos_iff.2 h0
        obtain ⟨cs0, h3, h4⟩ := h2 0 xs[0] (List.getElem?_eq_getElem hp)
        have hlen := GoT.len h3
        have h5 := h4 0 cs0[0] (List.getElem?_eq_getElem (by omega))
        have hlt := cell_lt h5
        obtain ⟨b, off, spot⟩ := a
        have hsp : spot = none := by
          have := World.cell?_spot h5
          simpa [Addr.add] using this
        subst hsp
        simp only [addr_add] at h2 h5 hlt
        refine ⟨b, off, rfl, hlt, fun i x hx => ?_⟩
        obtain ⟨cs, h6, h7⟩ := h2 i x hx
        exact ⟨cs, h6, fun j u hu => by rw [Nat.add_assoc]; exact h7 j u hu⟩
structure OpensFields (P : Program) (fs : List Field) (off : Nat) (β : Type) [GoT β] : Prop where
  read : ∀ {H : Type} {enc : TypeId × Value → H} {W : World} {base : Nat} {sp : Nat → Bool} {held : Bool} {n : Nat} {cs : List Value} {ys : List (DataW H × List MemPlace)},
    cs.length = off + GoT.size β → fs.length ≤ ys.length →
    (∀ (i : Nat) (f : Field), fs[i]? = some f → DataW.trod enc P W base sp held n f.type ((cs.drop f.offset).take (P.cellsOf f.type)) = ys[i]?) → ∃ x : β, GoT.rep W W.heap.size (cs.drop off) x
theorem opens_last {P : Program} {f : Field} {off : Nat} {α : Type} [GoT α] (h : Opens P f.type α) (ho : f.offset = off) : OpensFields P [f] off α where
  read := by
    intro H enc W base sp held n cs ys hl hy hx
    obtain ⟨y0, ys', rfl⟩ : ∃ y0 ys', ys = y0 :: ys' := by
      cases ys with
      | nil => simp at hy
      | cons a b => exact ⟨a, b, rfl⟩
    have h0 := hx 0 f rfl
    rw [h.cells, ho, List.take_of_length_le (by rw [List.length_drop]; omega)] at h0
    exact h.read h0
theorem opens_cons {P : Program} {f : Field} {fs : List Field} {off : Nat} {α β : Type} [GoT α] [GoT β] (h : Opens P f.type α) (ho : f.offset = off) (hr : OpensFields P fs (off + GoT.size α) β) : OpensFields P (f :: fs) off (α × β) where
  read := by
    intro H enc W base sp held n cs ys hl hy hx
    obtain ⟨y0, ys', rfl⟩ : ∃ y0 ys', ys = y0 :: ys' := by
      cases ys with
      | nil => simp at hy
      | cons a b => exact ⟨a, b, rfl⟩
    have hsz : GoT.size (α × β) = GoT.size α + GoT.size β := rfl
    have h0 := hx 0 f rfl
    rw [h.cells, ho] at h0
    obtain ⟨x, hx0⟩ := h.read (y := y0) (by rw [h0]; rfl)
    obtain ⟨z, hz⟩ := hr.read (cs := cs) (ys := ys') (n := n) (by omega) (by simpa using hy) (fun i g hg => by rw [hx (i + 1) g (by simpa using hg)]; rfl)
    refine ⟨(x, z), _, _, ?_, hx0, hz⟩
    rw [← List.drop_drop, List.take_append_drop]
theorem opens_struct {P : Program} {t : TypeId} {fs : Array Field} {l : List Field} {β : Type} [GoT β] (hu : P.underlying t = some (.struct fs)) (hf : fs.toList = l) (hc : P.cellsOf t = GoT.size β) (h : OpensFields P l 0 β) : Opens P t β where
  cells := hc
  read := by
    intro H enc W base sp held fuel cs y ht
    obtain ⟨xs, n, _, _, hl, hxl, hg⟩ := DataW.trod_struct hu ht
    have hlen : l.length = fs.size := by rw [← hf]; rfl
    have := h.read (cs := cs) (ys := xs) (n := n) (by rw [hl, hc]; omega) (by omega) (fun i f hi => hg i f (by rw [← hf] at hi; simpa using hi))
    simpa using this
theorem Opens.via {P : Program} {t : TypeId} {α β : Type} [GoT β] (h : Opens P t β) (f : α → β) (g : β → α) (hg : ∀ x, f (g x) = x) : @Opens P t α (GoT.via f) :=
  @Opens.mk P t α (GoT.via f) h.cells (fun ht => by obtain ⟨x, hx⟩ := h.read ht; exact ⟨g x, by show GoT.rep _ _ _ (f (g x)); rw [hg]; exact hx⟩)
theorem open_agg {P : Program} {t : TypeId} {fs : Array Field} {α : Type} [GoT α] (ho : Opens P t α) (hu : P.underlying t = some (.struct fs)) {W : World} {r : Reach} {b0 : Nat} {v : Value} {H : Type} {enc : TypeId × Value → H} {base : Nat} {sp : Nat → Bool} {held : Bool} {d : DataW H} {p : List MemPlace}
    (hv : Value.okWide P W r b0 t v) (h : DataW.Trod enc P W base sp held t v d p) : ∃ (x : α) (cs : List Value), v = .agg cs.toArray ∧ GoT.rep W W.heap.size cs x := by
  obtain ⟨cs, rfl, _⟩ := okWide_struct hu hv
  obtain ⟨fuel, hf⟩ := h
  obtain ⟨x, hx⟩ := ho.read hf
  exact ⟨x, cs.toList, rfl, hx⟩
theorem open_list {P : Program} {t e : TypeId} {α : Type} [GoT α] (ho : Opens P t (List α)) (hu : P.underlying t = some (.slice e)) {W : World} {r : Reach} {b0 : Nat} {v : Value} {H : Type} {enc : TypeId × Value → H} {base : Nat} {sp : Nat → Bool} {held : Bool} {d : DataW H} {p : List MemPlace}
    (hv : Value.okWide P W r b0 t v) (h : DataW.Trod enc P W base sp held t v d p) : ∃ (x : List α) (A : Option Addr) (n c : Nat), v = .slice A n c ∧ GoT.rep W W.heap.size [.slice A n c] x := by
  obtain ⟨A, n, c, rfl⟩ := okWide_slice hu hv
  obtain ⟨fuel, hf⟩ := h
  obtain ⟨x, hx⟩ := ho.read hf
  exact ⟨x, A, n, c, rfl, hx⟩
theorem list_open {α : Type} [GoT α] (enc : α → List Value) (ok : α → Prop) (hf : ∀ {w B cs} {x : α}, GoT.rep w B cs x → cs = enc x ∧ ok x) {w : World} {B : Nat} {A : Option Addr} {n c : Nat} {xs : List α} (h : GoT.rep w B [.slice A n c] xs) :
    n = xs.length ∧ n ≤ c ∧ c ≤ 9223372036854775807 ∧ (∀ x, x ∈ xs → ok x) ∧ (xs = [] ∨ ∃ b off, A = some ⟨b, off, none⟩ ∧ b < B ∧ ∀ i (hi : i < xs.length) j u, (enc xs[i])[j]? = some u → w.cell? ⟨b, off + i * GoT.size α + j, none⟩ = some u) := by
  obtain ⟨A', n', c', he, hn, hc, hm, hx⟩ := h
  simp only [List.cons.injEq, Value.slice.injEq, and_true] at he
  obtain ⟨rfl, rfl, rfl⟩ := he
  rcases hx with rfl | ⟨b, off, hA, hb, hs⟩
  · exact ⟨hn, hc, hm, by simp, .inl rfl⟩
  · refine ⟨hn, hc, hm, fun x hx => ?_, .inr ⟨b, off, hA, hb, fun i hi j u hu => ?_⟩⟩
    · obtain ⟨i, hi, rfl⟩ := List.getElem_of_mem hx
      obtain ⟨cs, h1, _⟩ := hs i _ (List.getElem?_eq_getElem hi)
      exact (hf h1).2
    · obtain ⟨cs, h1, h2⟩ := hs i _ (List.getElem?_eq_getElem hi)
      rw [(hf h1).1] at h2
      exact h2 j u hu
theorem rep_len {α : Type} [GoT α] {w : World} {B : Nat} {A : Option Addr} {n c : Nat} {xs : List α} (h : GoT.rep w B [.slice A n c] xs) : n = xs.length ∧ n ≤ c ∧ c ≤ 9223372036854775807 := by
  obtain ⟨A', n', c', he, hn, hc, hm, hx⟩ := h
  simp only [List.cons.injEq, Value.slice.injEq, and_true] at he
  obtain ⟨rfl, rfl, rfl⟩ := he
  exact ⟨hn, hc, hm⟩
open Go.RowKit
@[ext] structure Layout where
  nodes : Int
  data : Int
  more : Int
  turn : Int
instance : GoT Layout := GoT.via (fun x => (x.nodes, x.data, x.more, x.turn))
@[go_sem, simp] theorem Layout.eta (x : Layout) : (⟨x.nodes, x.data, x.more, x.turn⟩ : Layout) = x := rfl
@[ext] structure Lease where
  holder : Int
  till : Int
  token : Int
instance : GoT Lease := GoT.via (fun x => (x.holder, x.till, x.token))
@[go_sem, simp] theorem Lease.eta (x : Lease) : (⟨x.holder, x.till, x.token⟩ : Lease) = x := rfl
@[ext] structure Fence where
  seen : Int
instance : GoT Fence := GoT.via (fun x => x.seen)
@[go_sem, simp] theorem Fence.eta (x : Fence) : (⟨x.seen⟩ : Fence) = x := rfl
@[ext] structure Stp where
  time : Int
  who : Int
instance : GoT Stp := GoT.via (fun x => (x.time, x.who))
@[go_sem, simp] theorem Stp.eta (x : Stp) : (⟨x.time, x.who⟩ : Stp) = x := rfl
@[ext] structure Copy where
  at_ : Stp
  data : ByteArray
instance : GoT Copy := GoT.via (fun x => (x.at_, x.data))
@[go_sem, simp] theorem Copy.eta (x : Copy) : (⟨x.at_, x.data⟩ : Copy) = x := rfl
@[ext] structure Bucket where
  level : Int
  now : Int
  burst : Int
  rate : Int
instance : GoT Bucket := GoT.via (fun x => (x.level, x.now, x.burst, x.rate))
@[go_sem, simp] theorem Bucket.eta (x : Bucket) : (⟨x.level, x.now, x.burst, x.rate⟩ : Bucket) = x := rfl
@[ext] structure Term where
  begin : Int
  end_ : Int
instance : GoT Term := GoT.via (fun x => (x.begin, x.end_))
@[go_sem, simp] theorem Term.eta (x : Term) : (⟨x.begin, x.end_⟩ : Term) = x := rfl
@[ext] structure Msg where
  kind : Int
  op : Int
  node : Int
  copy : Copy
instance : GoT Msg := GoT.via (fun x => (x.kind, x.op, x.node, x.copy))
@[go_sem, simp] theorem Msg.eta (x : Msg) : (⟨x.kind, x.op, x.node, x.copy⟩ : Msg) = x := rfl
@[ext] structure Epoch where
  no : Int
  members : U64
instance : GoT Epoch := GoT.via (fun x => (x.no, x.members))
@[go_sem, simp] theorem Epoch.eta (x : Epoch) : (⟨x.no, x.members⟩ : Epoch) = x := rfl
@[ext] structure Record where
  block : Int
  data : ByteArray
instance : GoT Record := GoT.via (fun x => (x.block, x.data))
@[go_sem, simp] theorem Record.eta (x : Record) : (⟨x.block, x.data⟩ : Record) = x := rfl
@[ext] structure Act where
  kind : Int
  n : Int
  data : ByteArray
instance : GoT Act := GoT.via (fun x => (x.kind, x.n, x.data))
@[go_sem, simp] theorem Act.eta (x : Act) : (⟨x.kind, x.n, x.data⟩ : Act) = x := rfl
@[ext] structure Vote where
  kind : Int
  bid : Int
  node : Int
  copy : Copy
instance : GoT Vote := GoT.via (fun x => (x.kind, x.bid, x.node, x.copy))
@[go_sem, simp] theorem Vote.eta (x : Vote) : (⟨x.kind, x.bid, x.node, x.copy⟩ : Vote) = x := rfl
def Vote.ok (x : Vote) : Prop := (-9223372036854775808 ≤ x.kind ∧ x.kind ≤ 9223372036854775807) ∧ (-9223372036854775808 ≤ x.bid ∧ x.bid ≤ 9223372036854775807) ∧ (-9223372036854775808 ≤ x.node ∧ x.node ≤ 9223372036854775807) ∧ (-9223372036854775808 ≤ x.copy.at_.time ∧ x.copy.at_.time ≤ 9223372036854775807) ∧ (-9223372036854775808 ≤ x.copy.at_.who ∧ x.copy.at_.who ≤ 9223372036854775807) ∧ x.copy.data.size ≤ 9223372036854775807
theorem Vote.flat {w : World} {B : Nat} {cs : List Value} {x : Vote} (h : GoT.rep w B cs x) : cs = [I x.kind, I x.bid, I x.node, I x.copy.at_.time, I x.copy.at_.who, .string x.copy.data] ∧ x.ok := by
  simp only [GoT.rep] at h
  obtain ⟨_, _, rfl, ⟨rfl, o0⟩, ⟨_, _, rfl, ⟨rfl, o1⟩, ⟨_, _, rfl, ⟨rfl, o2⟩, ⟨_, _, rfl, ⟨_, _, rfl, ⟨rfl, o3⟩, ⟨rfl, o4⟩⟩, ⟨rfl, o5⟩⟩⟩⟩⟩ := h
  exact ⟨rfl, o0, o1, o2, o3, o4, o5⟩
@[ext] structure Seat where
  promised : Stp
  kept : Copy
instance : GoT Seat := GoT.via (fun x => (x.promised, x.kept))
@[go_sem, simp] theorem Seat.eta (x : Seat) : (⟨x.promised, x.kept⟩ : Seat) = x := rfl
def Seat.ok (x : Seat) : Prop := (-9223372036854775808 ≤ x.promised.time ∧ x.promised.time ≤ 9223372036854775807) ∧ (-9223372036854775808 ≤ x.promised.who ∧ x.promised.who ≤ 9223372036854775807) ∧ (-9223372036854775808 ≤ x.kept.at_.time ∧ x.kept.at_.time ≤ 9223372036854775807) ∧ (-9223372036854775808 ≤ x.kept.at_.who ∧ x.kept.at_.who ≤ 9223372036854775807) ∧ x.kept.data.size ≤ 9223372036854775807
theorem Seat.flat {w : World} {B : Nat} {cs : List Value} {x : Seat} (h : GoT.rep w B cs x) : cs = [I x.promised.time, I x.promised.who, I x.kept.at_.time, I x.kept.at_.who, .string x.kept.data] ∧ x.ok := by
  simp only [GoT.rep] at h
  obtain ⟨_, _, rfl, ⟨_, _, rfl, ⟨rfl, o0⟩, ⟨rfl, o1⟩⟩, ⟨_, _, rfl, ⟨_, _, rfl, ⟨rfl, o2⟩, ⟨rfl, o3⟩⟩, ⟨rfl, o4⟩⟩⟩ := h
  exact ⟨rfl, o0, o1, o2, o3, o4⟩
@[ext] structure Bid where
  time : Int
  phase : Int
  own : ByteArray
  value : ByteArray
  best : Copy
  heard : U64
instance : GoT Bid := GoT.via (fun x => (x.time, x.phase, x.own, x.value, x.best, x.heard))
@[go_sem, simp] theorem Bid.eta (x : Bid) : (⟨x.time, x.phase, x.own, x.value, x.best, x.heard⟩ : Bid) = x := rfl
def Bid.ok (x : Bid) : Prop := (-9223372036854775808 ≤ x.time ∧ x.time ≤ 9223372036854775807) ∧ (-9223372036854775808 ≤ x.phase ∧ x.phase ≤ 9223372036854775807) ∧ x.own.size ≤ 9223372036854775807 ∧ x.value.size ≤ 9223372036854775807 ∧ (-9223372036854775808 ≤ x.best.at_.time ∧ x.best.at_.time ≤ 9223372036854775807) ∧ (-9223372036854775808 ≤ x.best.at_.who ∧ x.best.at_.who ≤ 9223372036854775807) ∧ x.best.data.size ≤ 9223372036854775807
theorem Bid.flat {w : World} {B : Nat} {cs : List Value} {x : Bid} (h : GoT.rep w B cs x) : cs = [I x.time, I x.phase, .string x.own, .string x.value, I x.best.at_.time, I x.best.at_.who, .string x.best.data, .int .u64 (x.heard.n : Int)] ∧ x.ok := by
  simp only [GoT.rep] at h
  obtain ⟨_, _, rfl, ⟨rfl, o0⟩, ⟨_, _, rfl, ⟨rfl, o1⟩, ⟨_, _, rfl, ⟨rfl, o2⟩, ⟨_, _, rfl, ⟨rfl, o3⟩, ⟨_, _, rfl, ⟨_, _, rfl, ⟨_, _, rfl, ⟨rfl, o4⟩, ⟨rfl, o5⟩⟩, ⟨rfl, o6⟩⟩, rfl⟩⟩⟩⟩⟩ := h
  exact ⟨rfl, o0, o1, o2, o3, o4, o5, o6⟩
@[ext] structure Ask where
  op : Int
  kind : Int
  phase : Int
  data : ByteArray
  best : Copy
  heard : U64
instance : GoT Ask := GoT.via (fun x => (x.op, x.kind, x.phase, x.data, x.best, x.heard))
@[go_sem, simp] theorem Ask.eta (x : Ask) : (⟨x.op, x.kind, x.phase, x.data, x.best, x.heard⟩ : Ask) = x := rfl
@[ext] structure Step where
  kind : Int
  n : Int
  data : ByteArray
instance : GoT Step := GoT.via (fun x => (x.kind, x.n, x.data))
@[go_sem, simp] theorem Step.eta (x : Step) : (⟨x.kind, x.n, x.data⟩ : Step) = x := rfl
def Step.ok (x : Step) : Prop := (-9223372036854775808 ≤ x.kind ∧ x.kind ≤ 9223372036854775807) ∧ (-9223372036854775808 ≤ x.n ∧ x.n ≤ 9223372036854775807) ∧ x.data.size ≤ 9223372036854775807
theorem Step.flat {w : World} {B : Nat} {cs : List Value} {x : Step} (h : GoT.rep w B cs x) : cs = [I x.kind, I x.n, .string x.data] ∧ x.ok := by
  simp only [GoT.rep] at h
  obtain ⟨_, _, rfl, ⟨rfl, o0⟩, ⟨_, _, rfl, ⟨rfl, o1⟩, ⟨rfl, o2⟩⟩⟩ := h
  exact ⟨rfl, o0, o1, o2⟩
open Go.RowKit
inductive R2 (R : Value → AV → Prop) : List Value → List AV → Prop
  | nil : R2 R [] []
  | cons {v : Value} {a : AV} {vs : List Value} {as_ : List AV} (h : R v a) (t : R2 R vs as_) : R2 R (v :: vs) (a :: as_)
theorem R2.len {R : Value → AV → Prop} {vs : List Value} {as_ : List AV} (h : R2 R vs as_) : vs.length = as_.length := by
  induction h with
  | nil => rfl
  | cons _ _ ih => simp [ih]
theorem R2.get {R : Value → AV → Prop} {vs : List Value} {as_ : List AV} (h : R2 R vs as_) : ∀ (i : Nat) v a, vs[i]? = some v → as_[i]? = some a → R v a := by
  induction h with
  | nil => intro i v a hv; simp at hv
  | cons h _ ih =>
    intro i v a hv ha
    cases i with
    | zero => simp at hv ha; subst hv; subst ha; exact h
    | succ i => exact ih i v a (by simpa using hv) (by simpa using ha)
theorem R2.rc {E : Env} {vs : List Value} {as_ : List AV} (h : R2 (Rep E) vs as_) : RC E vs.toArray as_ := ⟨by simpa using h.len, fun j u c hu hc => h.get j u c (by simpa using hu) hc⟩
theorem R2.agg {E : Env} {vs : List Value} {as_ : List AV} (h : R2 (Rep E) vs as_) : Rep E (.agg vs.toArray) (.agg as_) := .agg (by simpa using h.len) fun j u c hu hc => h.get j u c (by simpa using hu) hc
theorem fn_law {P : Program} {f : FuncId} {vs : List Value} {as_ : List AV} {w : World} (h : Fn P f as_ (.v (.bool true))) (hG : GlE (E0 w fun b => b < w.heap.size)) (hrc : R2 (Rep (E0 w fun b => b < w.heap.size)) vs as_) :
    Calls P f vs.toArray w fun e w' => e = .returned (.bool true) ∧ Below w.heap.size w w' :=
  (h w _ vs.toArray (fun _ h => h) hG hrc.rc).mono fun e w' ⟨v, he, hr, hb⟩ => ⟨he.trans (by rw [hr.v_inv]), hb⟩
theorem rep_list {α : Type} [GoT α] (enc : α → List Value) (ok : α → Prop) (hf : ∀ {w B cs} {x : α}, GoT.rep w B cs x → cs = enc x ∧ ok x) (hl : ∀ x : α, (enc x).length = GoT.size α) (hp : ∀ (x : α) v, v ∈ enc x → plainV v = true ∧ v.oneCell' = true)
    {w : World} {A : Option Addr} {n c : Nat} {xs : List α} (h : GoT.rep w w.heap.size [.slice A n c] xs) : Rep (E0 w fun b => b < w.heap.size) (.slice A n c) (.lst (GoT.size α) (xs.map fun x => (enc x).map .v)) := by
  obtain ⟨h1, h2, h3, h4, h5⟩ := list_open enc ok hf h
  rcases h5 with rfl | ⟨b, off, rfl, hb, hs⟩
  · simp only [List.length_nil] at h1; subst h1; exact .lst0 h3
  · refine .lst1 (fun i j => ((xs[i]?.map enc).getD []).getD j undef) (by simpa using h1) h2 h3 hb (fun i cs hi => ?_) (fun i cs j x hi hj => ?_) (fun i cs j x hi hj => ?_) (fun i cs j x hi hj => ?_)
    · simp only [List.getElem?_map, Option.map_eq_some_iff] at hi
      obtain ⟨y, _, rfl⟩ := hi
      simp [hl]
    all_goals
      simp only [List.getElem?_map, Option.map_eq_some_iff] at hi
      obtain ⟨y, hy, rfl⟩ := hi
      simp only [List.getElem?_map, Option.map_eq_some_iff] at hj
      obtain ⟨u, hu, rfl⟩ := hj
      have hmem : u ∈ enc y := List.mem_of_getElem? hu
      obtain ⟨hil, rfl⟩ := List.getElem?_eq_some_iff.1 hy
    · show w.cell? _ = _
      rw [hs i hil j u hu]
      simp [hy, List.getD, hu]
    · simp only [hy, Option.map_some, Option.getD_some, List.getD, hu]
      exact ⟨(hp _ u hmem).2, .v⟩
    · simp only [hy, Option.map_some, Option.getD_some, List.getD, hu]
      exact .v (hp _ u hmem).1
def Stp.lt (a b : Stp) : Prop := a.time < b.time ∨ a.time = b.time ∧ a.who < b.who
instance (a b : Stp) : Decidable (Stp.lt a b) := by unfold Stp.lt; exact inferInstance
def Stp.okS (s : Stp) : Prop := 0 ≤ s.time ∧ s.time ≤ 1000000 ∧ 0 ≤ s.who ∧ s.who ≤ 31
instance (s : Stp) : Decidable s.okS := by unfold Stp.okS; exact inferInstance
def Stp.checkE (s : Stp) : Int := if s.okS then 0 else 3
def Copy.checkE (c : Copy) : Int := if c.at_.okS then (if c.data.size > 64 then 2 else 0) else 3
def cmpP (a b : Int) : Int := if a < b then -1 else if a > b then 1 else 0
def Stp.cmp (a b : Stp) : Int := if a.time < b.time then -1 else if a.time > b.time then 1 else cmpP a.who b.who
theorem Stp.cmp_lt {a b : Stp} : a.cmp b < 0 ↔ a.lt b := by
  unfold Stp.cmp cmpP Stp.lt; (repeat' split) <;> omega
abbrev Copy.cs (x : Copy) : List AV := [VI x.at_.time, VI x.at_.who, .v (.string x.data)]
abbrev Vote.cs (x : Vote) : List AV := [VI x.kind, VI x.bid, VI x.node, VI x.copy.at_.time, VI x.copy.at_.who, .v (.string x.copy.data)]
abbrev Seat.cs (x : Seat) : List AV := [VI x.promised.time, VI x.promised.who, VI x.kept.at_.time, VI x.kept.at_.who, .v (.string x.kept.data)]
abbrev Bid.cs (x : Bid) : List AV := [VI x.time, VI x.phase, .v (.string x.own), .v (.string x.value), VI x.best.at_.time, VI x.best.at_.who, .v (.string x.best.data), .v (.int .u64 (x.heard.n : Int))]
section
variable (hi : Int) (lo : Int) (n : Int)
abbrev A0 : LS := [(8, VI lo), (7, VI n), (0, VI n), (1, VI lo), (2, VI hi)]
end
theorem within_fn (n : Int) (lo : Int) (hi : Int) : Fn Tryd.prog 63 [VI n, VI lo, VI hi] (.v (.bool (wi n lo hi))) := by
 refine fnw F63_ok ?_
 refine srl 1 [0, 1, 2] ⟨[(0, VI n), (1, VI lo), (2, VI hi)], []⟩ ?_
 refine srr 4 ⟨(10, .v (.bool (decide (n ≥ lo)))) :: (9, .v (.bool (decide (n ≥ lo)))) :: (A0 hi lo n), []⟩ ?_
 cases h1 : (decide (n ≥ lo))
 have g1 := of_decide_eq_false h1
 refine owl 5 [6] ⟨[(6, .v (.bool false))], []⟩ ?_
 refine EL.ret ?_
 refine rqe (.v (.bool false)) ?_
 rotate_left
 have g1 := of_decide_eq_true h1
 refine owl 5 [6] ⟨[(6, .v (.bool (decide (n ≤ hi))))], []⟩ ?_
 refine EL.ret ?_
 refine rqe (.v (.bool (decide (n ≤ hi)))) ?_
 rotate_left
 all_goals (first | rfl | (refine congrArg (fun b => AV.v (Value.bool b)) ?_; first | rfl | (rw [Bool.eq_iff_iff]; simp [wi]; done) | (rw [Bool.eq_iff_iff]; simp [wi]; omega)))
theorem number_fn (n : Int) : Fn Tryd.prog 65 [VI n] (.v (.bool (wi n 0 30))) := by
 refine fnw F65_ok ?_
 refine srl 1 [0] ⟨[(0, VI n)], []⟩ ?_
 refine srr 1 ⟨[(3, VI n), (0, VI n)], []⟩ ?_
 refine owg [VI n, VI 0, VI 30] ⟨[(4, .v (.bool (wi n 0 30))), (3, VI n), (0, VI n)], []⟩ (within_fn n 0 30) ?_
 refine owl 1 [2] ⟨[(2, .v (.bool (wi n 0 30)))], []⟩ ?_
 refine EL.ret ?_
 refine rqe (.v (.bool (wi n 0 30))) ?_
 focus (first | rfl | (refine congrArg (fun b => AV.v (Value.bool b)) ?_; first | rfl | (rw [Bool.eq_iff_iff]; simp [wi]; done) | (rw [Bool.eq_iff_iff]; simp [wi]; omega)))
theorem who_fn (n : Int) : Fn Tryd.prog 82 [VI n] (.v (.bool (wi n 0 31))) := by
 refine fnw F82_ok ?_
 refine srl 1 [0] ⟨[(0, VI n)], []⟩ ?_
 refine srr 3 ⟨[(5, .v (.bool (decide (n ≥ 0)))), (4, .v (.bool (decide (n ≥ 0)))), (3, VI n), (0, VI n)], []⟩ ?_
 cases h1 : (decide (n ≥ 0))
 have g1 := of_decide_eq_false h1
 refine owl 4 [2] ⟨[(2, .v (.bool false))], []⟩ ?_
 refine EL.ret ?_
 refine rqe (.v (.bool false)) ?_
 rotate_left
 have g1 := of_decide_eq_true h1
 refine owl 4 [2] ⟨[(2, .v (.bool (decide (n ≤ 31))))], []⟩ ?_
 refine EL.ret ?_
 refine rqe (.v (.bool (decide (n ≤ 31)))) ?_
 rotate_left
 all_goals (first | rfl | (refine congrArg (fun b => AV.v (Value.bool b)) ?_; first | rfl | (rw [Bool.eq_iff_iff]; simp [wi]; done) | (rw [Bool.eq_iff_iff]; simp [wi]; omega)))
theorem nan_fn (n : Int) : Fn Tryd.prog 83 [VI n] (.v (.bool false)) := by
 refine fnw F83_ok ?_
 refine srl 1 [0] ⟨[(0, VI n)], []⟩ ?_
 refine srl 4 [2] ⟨[(2, .v (.bool (n != n)))], []⟩ ?_
 refine EL.ret ?_
 refine rqe (.v (.bool (n != n))) ?_
 focus (first | rfl | (simp; done) | trace_state)
section
variable (a : Int) (b : Int)
abbrev A1 : LS := [(8, .v (.bool false)), (7, VI a), (0, VI a), (1, VI b)]
abbrev A2 : LS := [(9, VI b), (5, .v (.bool false)), (0, VI a), (1, VI b)]
abbrev A3 : LS := [(6, .v (.bool false)), (5, .v (.bool false)), (0, VI a), (1, VI b)]
abbrev A4 : LS := [(11, .v (.bool false)), (6, .v (.bool false)), (0, VI a), (1, VI b)]
abbrev A5 : LS := [(13, .v (.bool false)), (0, VI a), (1, VI b)]
end
theorem cmp_fn (a : Int) (b : Int) : Fn Tryd.prog 72 [VI a, VI b] (VI (cmpP a b)) := by
 refine fnw F72_ok ?_
 refine srl 1 [0, 1] ⟨[(0, VI a), (1, VI b)], []⟩ ?_
 refine srr 1 ⟨[(7, VI a), (0, VI a), (1, VI b)], []⟩ ?_
 refine owg [VI a] ⟨(A1 a b), []⟩ (nan_fn a) ?_
 refine owl 1 [0, 1, 5] ⟨[(5, .v (.bool false)), (0, VI a), (1, VI b)], []⟩ ?_
 refine srr 1 ⟨(A2 a b), []⟩ ?_
 refine owg [VI b] ⟨(10, .v (.bool false)) :: (A2 a b), []⟩ (nan_fn b) ?_
 refine owl 1 [0, 1, 5, 6] ⟨(A3 a b), []⟩ ?_
 refine EL.seq ?_
 refine srl 1 [0, 1, 6, 11] ⟨(A4 a b), []⟩ ?_
 refine cnF ?_
 refine skn ?_
 refine EL.seq ?_
 refine srl 1 [0, 1, 13] ⟨(A5 a b), []⟩ ?_
 refine cnF ?_
 refine skn ?_
 refine EL.seq ?_
 refine srl 3 [0, 1, 16] ⟨[(16, .v (.bool (decide (a < b)))), (0, VI a), (1, VI b)], []⟩ ?_
 cases h1 : (decide (a < b))
 have g1 := of_decide_eq_false h1
 refine cnF ?_
 refine skn ?_
 refine EL.seq ?_
 refine srl 3 [19] ⟨[(19, .v (.bool (decide (a > b))))], []⟩ ?_
 cases h2 : (decide (a > b))
 have g2 := of_decide_eq_false h2
 refine cnF ?_
 refine skn ?_
 refine srl 1 [4] ⟨[(4, VI 0)], []⟩ ?_
 refine EL.ret ?_
 refine rqe (VI 0) ?_
 rotate_left
 have g2 := of_decide_eq_true h2
 refine cnT ?_
 refine srl 1 [4] ⟨[(4, VI 1)], []⟩ ?_
 refine rtr ?_
 refine rqe (VI 1) ?_
 rotate_left
 have g1 := of_decide_eq_true h1
 refine cnT ?_
 refine srl 1 [4] ⟨[(4, VI (-1))], []⟩ ?_
 refine rtr ?_
 refine rqe (VI (-1)) ?_
 rotate_left
 all_goals ((refine congrArg (fun n => VI n) ?_; (try simp only [wi_iff, wi_iffF] at *); simp only [cmpP]; (repeat' split) <;> first | omega | (simp_all; done) | (simp_all; omega) | trace_state))
section
variable (a3 : Int) (k : Nat) (l : List Int)
abbrev A6 : LS := [(6, .lst 1 (l.map cI)), (3, VI 0), (0, .lst 1 (l.map cI))]
abbrev A7 : LS := [(8, VI 0), (7, VI (List.length l : Int)), (6, .lst 1 (l.map cI)), (3, VI 0)]
abbrev A8 : LS := [(3, VI 0), (6, .lst 1 (l.map cI)), (7, VI (List.length l : Int)), (8, VI (k : Int))]
abbrev A9 : LS := (10, .pim [VI a3] 0) :: (9, .v (.bool true)) :: (A8 k l)
abbrev A10 : LS := [(14, .v (.bool false)), (5, VI a3), (3, VI 0), (6, .lst 1 (l.map cI)), (7, VI (List.length l : Int))]
abbrev A11 : LS := (8, VI ((k : Int) + 1)) :: (16, VI ((k : Int) + 1)) :: (A10 a3 l)
end
theorem or_fn (l : List Int) (hx : l.length ≤ 9223372036854775807) : Fn Tryd.prog 71 [.lst 1 (l.map cI)] (VI ((List.find? (fun n => n != 0) l).getD 0)) := by
 refine fnw F71_ok ?_
 refine srl 1 [0] ⟨[(0, .lst 1 (l.map cI))], []⟩ ?_
 refine srl 1 [0, 3] ⟨[(3, VI 0), (0, .lst 1 (l.map cI))], []⟩ ?_
 refine EL.seq ?_
 refine srr 1 ⟨(A6 l), []⟩ ?_
 refine ow2 ⟨(7, VI (List.length l : Int)) :: (A6 l), []⟩ (oln cI l (.s 6) 1) ?_
 refine owl 1 [3, 6, 7, 8] ⟨(A7 l), []⟩ ?_
 refine EL.block ?_
 refine EL.loopN (fun mM xX => ∃ (k : Nat), mM = l.length - k ∧ (k ≤ l.length ∧ (List.find? (fun n => n != 0) l).getD 0 = (List.find? (fun n => n != 0) (l.drop k)).getD 0) ∧ xX = ⟨(A8 k l), []⟩) (y := (fun (k : Nat) => (⟨(A8 k l), []⟩ : L3)) 0) [3, 6, 7, 8] [] [] (by kernel_rfl) trivial ⟨0, rfl, by simp, rfl⟩ ?_
 rintro _ _ ⟨k, rfl, hI1, rfl⟩
 obtain ⟨hk, hs⟩ := hI1
 refine srl 1 [3, 6, 7, 8, 9] ⟨(9, .v (.bool (decide ((k : Int) < (List.length l : Int))))) :: (A8 k l), []⟩ ?_
 refine EL.seq ?_
 cases h2 : (decide ((k : Int) < (List.length l : Int)))
 have g2 := of_decide_eq_false h2
 have n2 : ¬ ((k) < (List.length l)) := by omega
 refine cnF ?_
 refine EL.exit ?_
 refine tX ?_
 refine tX ?_
 refine iH ?_
 refine tN ?_
 refine srl 2 [2] ⟨[(2, VI 0)], []⟩ ?_
 refine EL.ret ?_
 refine rqe (VI 0) ?_
 rotate_left
 have g2 := of_decide_eq_true h2
 have n2 : ((k) < (List.length l)) := by omega
 refine cnT ?_
 refine skn ?_
 refine EL.seq ?_
 refine EL.block ?_
 refine EL.sreg ?_
 obtain ⟨a3, ha3⟩ : ∃ y, l[((k : Int) : Int).toNat]? = some y := idx_ex ⟨by omega, by omega⟩
 have iha3 : l[k]? = some a3 := by simpa using ha3
 have dha3 := drop_get iha3
 refine ow2 ⟨(A9 a3 k l), []⟩ (oid cI l (.s 6) (.s 8) 1 .i64 (k : Int) a3 (by omega) ha3) ?_
 refine owl 2 [3, 5, 6, 7, 8] ⟨(5, VI a3) :: (A8 k l), []⟩ ?_
 refine srl 3 [3, 5, 6, 7, 8, 14] ⟨(14, .v (.bool (a3 != 0))) :: (5, VI a3) :: (A8 k l), []⟩ ?_
 cases h4 : (a3 != 0)
 have g4 := bnF h4
 refine cnF ?_
 refine EL.skip ?_
 refine iN ?_
 refine tN ?_
 refine EL.reg0 ?_
 refine owr 2 ⟨(8, VI (IntKind.i64.wrap ((k : Int) + 1))) :: (16, VI (IntKind.i64.wrap ((k : Int) + 1))) :: (A10 a3 l), []⟩ ?_
 have e5 := wr64 (n := (k : Int) + 1) (by omega)
 rw [e5]
 refine owe 0 ⟨(A11 a3 k l), []⟩ ?_
 refine tN ?_
 refine rE (live := [3, 6, 7, 8]) (src := []) (es := []) (y := (fun (k : Nat) => (⟨(A8 k l), []⟩ : L3)) (k + 1)) ?_ trivial ?_ ⟨(k + 1), rfl, ?_, rfl⟩
 kernel_rfl
 omega
 focus (refine ⟨by omega, ?_⟩; rw [hs]; simp [List.find?, *])
 have g4 := bnT h4
 refine cnT ?_
 refine srl 2 [2] ⟨[(2, VI a3)], []⟩ ?_
 refine EL.ret ?_
 refine iR ?_
 refine tR ?_
 refine tR ?_
 refine iR ?_
 refine tR ?_
 refine rqe (VI a3) ?_
 rotate_left
 all_goals ((refine congrArg (fun n => VI n) ?_; rw [hs]; first | (rw [List.drop_eq_nil_of_le (by omega)]; rfl) | (simp [List.find?, *]; done) | trace_state))
section
variable (a : Stp) (b : Stp)
abbrev A12 : OB := some ⟨2, [[VI a.time, VI a.who]]⟩
abbrev A13 : OB := some ⟨2, [[VI b.time, VI b.who]]⟩
abbrev A14 : LS := [(8, VI b.time), (7, .ref 1 2 0 0), (6, VI a.time), (5, .ref 0 2 0 0), (3, .ref 1 2 0 0), (2, .ref 0 2 0 0)]
abbrev A15 : LS := (13, VI b.who) :: (12, .ref 1 2 0 1) :: (11, VI a.who) :: (10, .ref 0 2 0 1) :: (9, VI (cmpP a.time b.time)) :: (A14 a b)
abbrev A16 : OB := some ⟨1, [[VI (cmpP a.time b.time)], [VI (cmpP a.who b.who)]]⟩
abbrev A17 : LS := (15, .own 2 1 0 2) :: (14, VI (cmpP a.who b.who)) :: (A15 a b)
end
theorem compare_fn (a : Stp) (b : Stp) : Fn Tryd.prog 50 [.agg [VI a.time, VI a.who], .agg [VI b.time, VI b.who]] (VI (a.cmp b)) := by
 refine fnw F50_ok ?_
 refine srl 3 [2, 3] ⟨[(3, .ref 1 2 0 0), (2, .ref 0 2 0 0)], [(A12 a), (A13 b)]⟩ ?_
 refine sdr 4 ⟨(A14 a b), [(A12 a), (A13 b)]⟩ ?_
 refine dwg [VI a.time, VI b.time] ⟨(9, VI (cmpP a.time b.time)) :: (A14 a b), [(A12 a), (A13 b)]⟩ (cmp_fn a.time b.time) ?_
 refine dwr 4 ⟨(A15 a b), [(A12 a), (A13 b)]⟩ ?_
 refine dwg [VI a.who, VI b.who] ⟨(14, VI (cmpP a.who b.who)) :: (A15 a b), [(A12 a), (A13 b)]⟩ (cmp_fn a.who b.who) ?_
 refine dwr 1 ⟨(A17 a b), [(A12 a), (A13 b), (A16 a b)]⟩ ?_
 refine dwg [.own 2 1 0 2] ⟨(16, VI ((List.find? (fun n => n != 0) ([cmpP a.time b.time, cmpP a.who b.who])).getD 0)) :: (A17 a b), [(A12 a), (A13 b), (A16 a b)]⟩ (or_fn ([cmpP a.time b.time, cmpP a.who b.who]) (by first | omega | (simp; done))) ?_
 refine dwl 1 [4] ⟨[(4, VI ((List.find? (fun n => n != 0) ([cmpP a.time b.time, cmpP a.who b.who])).getD 0))], [(A12 a), (A13 b), (A16 a b)]⟩ ?_
 refine EL.ret ?_
 refine rqe (VI ((List.find? (fun n => n != 0) ([cmpP a.time b.time, cmpP a.who b.who])).getD 0)) ?_
 focus ((refine congrArg (fun n => VI n) ?_; simp only [Stp.cmp, cmpP]; (repeat' split) <;> first | rfl | (exfalso; omega) | (simp [List.find?]; done) | (simp_all [List.find?]; done) | trace_state))
section
variable (a : Stp) (b : Stp)
abbrev A18 : LS := [(6, .agg [VI b.time, VI b.who]), (5, .agg [VI a.time, VI a.who]), (3, .ref 1 2 0 0), (2, .ref 0 2 0 0)]
end
theorem less_fn (a : Stp) (b : Stp) : Fn Tryd.prog 23 [.agg [VI a.time, VI a.who], .agg [VI b.time, VI b.who]] (.v (.bool (decide (a.lt b)))) := by
 refine fnw F23_ok ?_
 refine srl 3 [2, 3] ⟨[(3, .ref 1 2 0 0), (2, .ref 0 2 0 0)], [(A12 a), (A13 b)]⟩ ?_
 refine srr 2 ⟨(A18 a b), [(A12 a), (A13 b)]⟩ ?_
 refine owg [.agg [VI a.time, VI a.who], .agg [VI b.time, VI b.who]] ⟨(7, VI (a.cmp b)) :: (A18 a b), [(A12 a), (A13 b)]⟩ (compare_fn a b) ?_
 refine owl 2 [4] ⟨[(4, .v (.bool (decide ((a.cmp b) < 0))))], [(A12 a), (A13 b)]⟩ ?_
 refine EL.ret ?_
 refine rqe (.v (.bool (decide ((a.cmp b) < 0)))) ?_
 focus ((refine congrArg (fun b => AV.v (Value.bool b)) ?_; rw [decide_eq_decide]; exact Stp.cmp_lt))
section
variable (s : Stp)
abbrev A19 : OB := some ⟨2, [[VI s.time, VI s.who]]⟩
abbrev A20 : LS := [(4, VI s.time), (3, .ref 0 2 0 0), (1, .ref 0 2 0 0)]
abbrev A21 : LS := (8, VI s.time) :: (7, .ref 0 2 0 0) :: (6, .v (.bool false)) :: (5, .v (.bool false)) :: (A20 s)
abbrev A22 : LS := (13, VI s.who) :: (12, .ref 0 2 0 1) :: (11, .v (.bool false)) :: (10, .v (.bool false)) :: (9, .v (.bool false)) :: (A21 s)
end
theorem scheck_fn (s : Stp) : Fn Tryd.prog 61 [.agg [VI s.time, VI s.who]] (VI s.checkE) := by
 refine fnw F61_ok ?_
 refine srl 2 [1] ⟨[(1, .ref 0 2 0 0)], [(A19 s)]⟩ ?_
 refine EL.seq ?_
 refine srr 4 ⟨(6, .v (.bool (decide (s.time < 0)))) :: (5, .v (.bool (decide (s.time < 0)))) :: (A20 s), [(A19 s)]⟩ ?_
 cases h1 : (decide (s.time < 0))
 have g1 := of_decide_eq_false h1
 refine owr 5 ⟨(11, .v (.bool (decide (s.time > 1000000)))) :: (10, .v (.bool (decide (s.time > 1000000)))) :: (9, .v (.bool (decide (s.time > 1000000)))) :: (A21 s), [(A19 s)]⟩ ?_
 cases h2 : (decide (s.time > 1000000))
 have g2 := of_decide_eq_false h2
 refine owr 2 ⟨(A22 s), [(A19 s)]⟩ ?_
 refine owg [VI s.who] ⟨(14, .v (.bool (wi s.who 0 31))) :: (A22 s), [(A19 s)]⟩ (who_fn s.who) ?_
 refine owl 2 [16] ⟨[(16, .v (.bool (!(wi s.who 0 31))))], [(A19 s)]⟩ ?_
 cases h3 : (wi s.who 0 31)
 have g3 : ¬ ((0 : Int) ≤ s.who ∧ (s.who : Int) ≤ 31) := fun hh => Bool.noConfusion ((wi_iff.2 hh).symm.trans h3)
 refine cnT ?_
 refine srl 1 [2] ⟨[(2, VI 3)], [(A19 s)]⟩ ?_
 refine rtr ?_
 refine rqe (VI 3) ?_
 rotate_left
 have g3 : ((0 : Int) ≤ s.who ∧ (s.who : Int) ≤ 31) := wi_iff.1 h3
 refine cnF ?_
 refine skn ?_
 refine srl 1 [2] ⟨[(2, VI 0)], [(A19 s)]⟩ ?_
 refine EL.ret ?_
 refine rqe (VI 0) ?_
 rotate_left
 have g2 := of_decide_eq_true h2
 refine owl 5 [16] ⟨[(16, .v (.bool true))], [(A19 s)]⟩ ?_
 refine cnT ?_
 refine srl 1 [2] ⟨[(2, VI 3)], [(A19 s)]⟩ ?_
 refine rtr ?_
 refine rqe (VI 3) ?_
 rotate_left
 have g1 := of_decide_eq_true h1
 refine owl 10 [16] ⟨[(16, .v (.bool true))], [(A19 s)]⟩ ?_
 refine cnT ?_
 refine srl 1 [2] ⟨[(2, VI 3)], [(A19 s)]⟩ ?_
 refine rtr ?_
 refine rqe (VI 3) ?_
 rotate_left
 all_goals ((refine congrArg (fun n => VI n) ?_; (try simp only [wi_iff, wi_iffF] at *); simp only [Stp.checkE, Stp.okS]; (repeat' split) <;> first | omega | (simp_all; done) | (simp_all; omega) | trace_state))
section
variable (c : Copy)
abbrev A23 : OB := some ⟨3, [[VI c.at_.time, VI c.at_.who, .v (.string c.data)]]⟩
abbrev A24 : AV := .agg [VI c.at_.time, VI c.at_.who]
abbrev A25 : LS := [(5, (A24 c)), (4, .ref 0 3 0 0), (1, .ref 0 3 0 0)]
abbrev A26 : LS := [(7, VI c.at_.checkE), (3, VI c.at_.checkE), (1, .ref 0 3 0 0)]
end
theorem ccheck_fn (c : Copy) : Fn Tryd.prog 62 [.agg [VI c.at_.time, VI c.at_.who, .v (.string c.data)]] (VI c.checkE) := by
 refine fnw F62_ok ?_
 refine srl 2 [1] ⟨[(1, .ref 0 3 0 0)], [(A23 c)]⟩ ?_
 refine srr 2 ⟨(A25 c), [(A23 c)]⟩ ?_
 refine owg [(A24 c)] ⟨(6, VI c.at_.checkE) :: (A25 c), [(A23 c)]⟩ (scheck_fn c.at_) ?_
 refine owl 1 [1, 3] ⟨[(3, VI c.at_.checkE), (1, .ref 0 3 0 0)], [(A23 c)]⟩ ?_
 refine EL.seqG [3] (fun y => (y = ⟨[(3, VI 2)], [(A23 c)]⟩ ∧ (c.at_.checkE == 0) = true ∧ decide ((ByteArray.size c.data : Int) > 64) = true) ∨ (y = ⟨[(3, VI c.at_.checkE)], [(A23 c)]⟩ ∧ ((c.at_.checkE = 0 ∧ ¬ ((ByteArray.size c.data : Int) > 64)) ∨ (¬ c.at_.checkE = 0)))) ?_ ?_
 intro IHJ1 HJ1
 refine srr 3 ⟨(9, .v (.bool (c.at_.checkE == 0))) :: (8, .v (.bool (c.at_.checkE == 0))) :: (A26 c), [(A23 c)]⟩ ?_
 cases h2 : (c.at_.checkE == 0)
 have g2 := bqF h2
 refine owl 5 [3, 14] ⟨[(14, .v (.bool false)), (3, VI c.at_.checkE)], [(A23 c)]⟩ ?_
 refine cnF ?_
 refine EL.skip ?_
 exact tN (HJ1.get (Or.inr ⟨by kernel_rfl, (Or.inr (by first | exact g2 | exact h2 | simp_all | omega))⟩))
 have g2 := bqT h2
 refine owl 5 [3, 14] ⟨[(14, .v (.bool (decide ((ByteArray.size c.data : Int) > 64)))), (3, VI c.at_.checkE)], [(A23 c)]⟩ ?_
 cases h3 : (decide ((ByteArray.size c.data : Int) > 64))
 have g3 := of_decide_eq_false h3
 have n3 : ¬ ((ByteArray.size c.data) > 64) := by omega
 refine cnF ?_
 refine EL.skip ?_
 exact tN (HJ1.get (Or.inr ⟨by kernel_rfl, (Or.inl (by refine ⟨(by first | exact g2 | exact h2 | simp_all | omega), (by first | exact g3 | exact h3 | simp_all | omega)⟩))⟩))
 have g3 := of_decide_eq_true h3
 have n3 : ((ByteArray.size c.data) > 64) := by omega
 refine cnT ?_
 refine roe 1 ⟨[(3, VI 2), (14, .v (.bool true))], [(A23 c)]⟩ ?_
 exact tN (HJ1.get (Or.inl ⟨by kernel_rfl, h2, h3⟩))
 rintro _ (⟨rfl, h4, h5⟩ | ⟨rfl, hD6⟩)
 have g4 := bqT h4
 have g5 := of_decide_eq_true h5
 have n5 : ((ByteArray.size c.data) > 64) := by omega
 refine srl 2 [2] ⟨[(2, VI 2)], [(A23 c)]⟩ ?_
 refine EL.ret ?_
 refine rqe (VI 2) ?_
 rotate_left
 refine srl 2 [2] ⟨[(2, VI c.at_.checkE)], [(A23 c)]⟩ ?_
 refine EL.ret ?_
 refine rqe (VI c.at_.checkE) ?_
 rotate_left
 all_goals ((refine congrArg (fun n => VI n) ?_; have hs : c.at_.checkE = if c.at_.okS then 0 else 3 := rfl; simp only [Copy.checkE]; (repeat' split) <;> first | omega | (simp_all; done) | (simp_all; omega) | trace_state))
def Vote.checkE (v : Vote) : Int :=
  if ¬ (1 ≤ v.kind ∧ v.kind ≤ 4) then 7 else if ¬ (0 ≤ v.bid ∧ v.bid ≤ 30 ∧ 0 ≤ v.node ∧ v.node ≤ 11) then 3 else if v.copy.checkE ≠ 0 then v.copy.checkE else if v.copy.data.size ≠ 0 ∧ (v.kind = 1 ∨ v.kind = 4) then 1 else 0
def Seat.checkE (s : Seat) : Int :=
  if s.promised.checkE ≠ 0 then s.promised.checkE else if s.kept.checkE ≠ 0 then s.kept.checkE else if s.promised.lt s.kept.at_ then 4 else 0
def Seat.zero : Seat := ⟨⟨0, 0⟩, ⟨⟨0, 0⟩, ⟨#[]⟩⟩⟩
def Seat.serveP (s : Seat) (v : Vote) : Seat × List Vote × Int :=
  if s.checkE ≠ 0 then (Seat.zero, [], s.checkE) else if v.checkE ≠ 0 then (Seat.zero, [], v.checkE)
  else if v.kind = 1 ∧ s.promised.lt v.copy.at_ then (⟨v.copy.at_, s.kept⟩, [⟨2, v.bid, v.node, s.kept⟩], 0)
  else if v.kind = 3 ∧ ¬ v.copy.at_.lt s.promised then (⟨v.copy.at_, v.copy⟩, [⟨4, v.bid, v.node, ⟨v.copy.at_, ⟨#[]⟩⟩⟩], 0)
  else (s, [], 0)
theorem ba_empty {d : ByteArray} : d = ⟨#[]⟩ ↔ d.size = 0 := by
  constructor
  · rintro rfl; rfl
  · intro h; cases d with | mk l => exact congrArg ByteArray.mk (Array.eq_empty_of_size_eq_zero h)
instance : DecidableEq Stp := fun a b => decidable_of_iff (a.time = b.time ∧ a.who = b.who) (by cases a; cases b; simp)
instance : DecidableEq Copy := fun a b => decidable_of_iff (a.at_ = b.at_ ∧ a.data = b.data) (by cases a; cases b; simp)
instance : DecidableEq Vote := fun a b => decidable_of_iff (a.kind = b.kind ∧ a.bid = b.bid ∧ a.node = b.node ∧ a.copy = b.copy) (by cases a; cases b; simp)
instance : DecidableEq Seat := fun a b => decidable_of_iff (a.promised = b.promised ∧ a.kept = b.kept) (by cases a; cases b; simp)
section
variable (v : Vote)
abbrev A27 : OB := some ⟨6, [[VI v.kind, VI v.bid, VI v.node, VI v.copy.at_.time, VI v.copy.at_.who, .v (.string v.copy.data)]]⟩
abbrev A28 : LS := [(6, VI v.kind), (5, .ref 0 6 0 0), (1, .ref 0 6 0 0)]
abbrev A29 : LS := [(11, VI v.bid), (10, .ref 0 6 0 1), (4, .v (.bool false)), (1, .ref 0 6 0 0)]
abbrev A30 : LS := [(15, VI v.node), (14, .ref 0 6 0 2), (9, .v (.bool false)), (1, .ref 0 6 0 0)]
abbrev A31 : LS := [(15, VI v.node), (14, .ref 0 6 0 2), (1, .ref 0 6 0 0)]
abbrev A32 : AV := .agg [VI v.copy.at_.time, VI v.copy.at_.who, .v (.string v.copy.data)]
abbrev A33 : LS := (19, (A32 v)) :: (18, .ref 0 6 0 3) :: (9, .v (.bool false)) :: (17, .v (.bool false)) :: (16, .v (.bool true)) :: (A31 v)
abbrev A34 : LS := [(21, VI v.copy.checkE), (3, VI v.copy.checkE), (1, .ref 0 6 0 0)]
abbrev A35 : LS := (26, .v (.string v.copy.data)) :: (25, .ref 0 6 0 5) :: (24, .ref 0 6 0 3) :: (23, .v (.bool true)) :: (22, .v (.bool true)) :: (A34 v)
abbrev A36 : LS := (31, VI v.kind) :: (30, .ref 0 6 0 0) :: (29, .v (.bool true)) :: (28, .v (.bool true)) :: (27, .v (.bool true)) :: (A35 v)
end
theorem vcheck_fn (v : Vote) : Fn Tryd.prog 45 [.agg [VI v.kind, VI v.bid, VI v.node, VI v.copy.at_.time, VI v.copy.at_.who, .v (.string v.copy.data)]] (VI v.checkE) := by
 refine fnw F45_ok ?_
 refine srl 2 [1] ⟨[(1, .ref 0 6 0 0)], [(A27 v)]⟩ ?_
 refine EL.seq ?_
 refine EL.block ?_
 refine srr 2 ⟨(A28 v), [(A27 v)]⟩ ?_
 refine owg [VI v.kind, VI 1, VI 4] ⟨(7, .v (.bool (wi v.kind 1 4))) :: (A28 v), [(A27 v)]⟩ (within_fn v.kind 1 4) ?_
 refine owl 2 [1, 4] ⟨[(4, .v (.bool (!(wi v.kind 1 4)))), (1, .ref 0 6 0 0)], [(A27 v)]⟩ ?_
 cases h1 : (wi v.kind 1 4)
 have g1 : ¬ ((1 : Int) ≤ v.kind ∧ (v.kind : Int) ≤ 4) := fun hh => Bool.noConfusion ((wi_iff.2 hh).symm.trans h1)
 refine cnT ?_
 refine srl 1 [2] ⟨[(2, VI 7)], [(A27 v)]⟩ ?_
 refine EL.ret ?_
 refine iR ?_
 refine tR ?_
 refine rqe (VI 7) ?_
 rotate_left
 have g1 : ((1 : Int) ≤ v.kind ∧ (v.kind : Int) ≤ 4) := wi_iff.1 h1
 refine cnF ?_
 refine EL.seq ?_
 refine srr 2 ⟨(A29 v), [(A27 v)]⟩ ?_
 refine owg [VI v.bid] ⟨(12, .v (.bool (wi v.bid 0 30))) :: (A29 v), [(A27 v)]⟩ (number_fn v.bid) ?_
 refine owl 2 [1, 9] ⟨[(9, .v (.bool (!(wi v.bid 0 30)))), (1, .ref 0 6 0 0)], [(A27 v)]⟩ ?_
 cases h2 : (wi v.bid 0 30)
 have g2 : ¬ ((0 : Int) ≤ v.bid ∧ (v.bid : Int) ≤ 30) := fun hh => Bool.noConfusion ((wi_iff.2 hh).symm.trans h2)
 refine cnT ?_
 refine skn ?_
 refine cnT ?_
 refine srl 1 [2] ⟨[(2, VI 3)], [(A27 v)]⟩ ?_
 refine EL.ret ?_
 refine iR ?_
 refine tR ?_
 refine rqe (VI 3) ?_
 rotate_left
 have g2 : ((0 : Int) ≤ v.bid ∧ (v.bid : Int) ≤ 30) := wi_iff.1 h2
 refine cnF ?_
 refine EL.reg0 ?_
 refine owr 2 ⟨(A30 v), [(A27 v)]⟩ ?_
 refine owg [VI v.node, VI 0, VI 11] ⟨(16, .v (.bool (wi v.node 0 11))) :: (A30 v), [(A27 v)]⟩ (within_fn v.node 0 11) ?_
 refine owe 2 ⟨(9, .v (.bool (!(wi v.node 0 11)))) :: (17, .v (.bool (!(wi v.node 0 11)))) :: (16, .v (.bool (wi v.node 0 11))) :: (A31 v), [(A27 v)]⟩ ?_
 refine tN ?_
 cases h3 : (wi v.node 0 11)
 have g3 : ¬ ((0 : Int) ≤ v.node ∧ (v.node : Int) ≤ 11) := fun hh => Bool.noConfusion ((wi_iff.2 hh).symm.trans h3)
 refine cnT ?_
 refine srl 1 [2] ⟨[(2, VI 3)], [(A27 v)]⟩ ?_
 refine EL.ret ?_
 refine iR ?_
 refine tR ?_
 refine rqe (VI 3) ?_
 rotate_left
 have g3 : ((0 : Int) ≤ v.node ∧ (v.node : Int) ≤ 11) := wi_iff.1 h3
 refine cnF ?_
 refine EL.skip ?_
 refine iN ?_
 refine tN ?_
 refine srr 2 ⟨(A33 v), [(A27 v)]⟩ ?_
 refine owg [(A32 v)] ⟨(20, VI v.copy.checkE) :: (A33 v), [(A27 v)]⟩ (ccheck_fn v.copy) ?_
 refine owl 1 [1, 3] ⟨[(3, VI v.copy.checkE), (1, .ref 0 6 0 0)], [(A27 v)]⟩ ?_
 refine EL.seq ?_
 refine srr 3 ⟨(23, .v (.bool (v.copy.checkE == 0))) :: (22, .v (.bool (v.copy.checkE == 0))) :: (A34 v), [(A27 v)]⟩ ?_
 cases h4 : (v.copy.checkE == 0)
 have g4 := bqF h4
 refine owl 15 [3, 38] ⟨[(38, .v (.bool false)), (3, VI v.copy.checkE)], [(A27 v)]⟩ ?_
 refine cnF ?_
 refine skn ?_
 refine srl 2 [2] ⟨[(2, VI v.copy.checkE)], [(A27 v)]⟩ ?_
 refine EL.ret ?_
 refine rqe (VI v.copy.checkE) ?_
 rotate_left
 have g4 := bqT h4
 refine owr 6 ⟨(29, .v (.bool (!(strEq v.copy.data (⟨#[]⟩))))) :: (28, .v (.bool (!(strEq v.copy.data (⟨#[]⟩))))) :: (27, .v (.bool (!(strEq v.copy.data (⟨#[]⟩))))) :: (A35 v), [(A27 v)]⟩ ?_
 cases h5 : (strEq v.copy.data (⟨#[]⟩))
 have g5 : ¬ (v.copy.data = (⟨#[]⟩)) := fun hh => Bool.noConfusion ((strEq_iff.2 hh).symm.trans h5)
 refine owr 4 ⟨(33, .v (.bool (v.kind == 1))) :: (32, .v (.bool (v.kind == 1))) :: (A36 v), [(A27 v)]⟩ ?_
 cases h6 : (v.kind == 1)
 have g6 := bqF h6
 refine owl 5 [3, 38] ⟨[(38, .v (.bool (v.kind == 4))), (3, VI v.copy.checkE)], [(A27 v)]⟩ ?_
 cases h7 : (v.kind == 4)
 have g7 := bqF h7
 refine cnF ?_
 refine skn ?_
 refine srl 2 [2] ⟨[(2, VI v.copy.checkE)], [(A27 v)]⟩ ?_
 refine EL.ret ?_
 refine rqe (VI v.copy.checkE) ?_
 rotate_left
 have g7 := bqT h7
 refine cnT ?_
 refine roe 1 ⟨[(3, VI 1), (38, .v (.bool true))], [(A27 v)]⟩ ?_
 refine tN ?_
 refine srl 2 [2] ⟨[(2, VI 1)], [(A27 v)]⟩ ?_
 refine EL.ret ?_
 refine rqe (VI 1) ?_
 rotate_left
 have g6 := bqT h6
 refine owl 5 [3, 38] ⟨[(38, .v (.bool true)), (3, VI v.copy.checkE)], [(A27 v)]⟩ ?_
 refine cnT ?_
 refine roe 1 ⟨[(3, VI 1), (38, .v (.bool true))], [(A27 v)]⟩ ?_
 refine tN ?_
 refine srl 2 [2] ⟨[(2, VI 1)], [(A27 v)]⟩ ?_
 refine EL.ret ?_
 refine rqe (VI 1) ?_
 rotate_left
 have g5 : (v.copy.data = (⟨#[]⟩)) := strEq_iff.1 h5
 refine owl 9 [3, 38] ⟨[(38, .v (.bool false)), (3, VI v.copy.checkE)], [(A27 v)]⟩ ?_
 refine cnF ?_
 refine skn ?_
 refine srl 2 [2] ⟨[(2, VI v.copy.checkE)], [(A27 v)]⟩ ?_
 refine EL.ret ?_
 refine rqe (VI v.copy.checkE) ?_
 rotate_left
 all_goals ((refine congrArg (fun n => VI n) ?_; (try simp only [wi_iff, ba_empty, strEq_iff] at *); simp only [Vote.checkE, ba_empty]; (repeat' split) <;> first | rfl | omega | (simp_all; done) | (simp_all; omega) | trace_state))
section
variable (s : Seat)
abbrev A37 : OB := some ⟨5, [[VI s.promised.time, VI s.promised.who, VI s.kept.at_.time, VI s.kept.at_.who, .v (.string s.kept.data)]]⟩
abbrev A38 : AV := .agg [VI s.promised.time, VI s.promised.who]
abbrev A39 : LS := [(5, (A38 s)), (4, .ref 0 5 0 0), (1, .ref 0 5 0 0)]
abbrev A40 : AV := .agg [VI s.kept.at_.time, VI s.kept.at_.who, .v (.string s.kept.data)]
abbrev A41 : LS := [(10, (A40 s)), (9, .ref 0 5 0 2), (8, .v (.bool true)), (3, VI s.promised.checkE), (1, .ref 0 5 0 0)]
abbrev A42 : LS := [(3, VI s.kept.checkE), (11, VI s.kept.checkE), (10, (A40 s)), (9, .ref 0 5 0 2), (8, .v (.bool true)), (1, .ref 0 5 0 0)]
abbrev A43 : AV := .agg [VI s.kept.at_.time, VI s.kept.at_.who]
abbrev A44 : LS := (19, (A43 s)) :: (18, .ref 0 5 0 2) :: (17, .ref 0 5 0 2) :: (16, (A38 s)) :: (15, .ref 0 5 0 0) :: (14, .v (.bool true)) :: (13, .v (.bool true)) :: (12, VI s.kept.checkE) :: (A42 s)
abbrev A45 : LS := [(12, VI s.promised.checkE), (8, .v (.bool false)), (3, VI s.promised.checkE), (1, .ref 0 5 0 0)]
end
theorem secheck_fn (s : Seat) : Fn Tryd.prog 39 [.agg [VI s.promised.time, VI s.promised.who, VI s.kept.at_.time, VI s.kept.at_.who, .v (.string s.kept.data)]] (VI s.checkE) := by
 refine fnw F39_ok ?_
 refine srl 2 [1] ⟨[(1, .ref 0 5 0 0)], [(A37 s)]⟩ ?_
 refine srr 2 ⟨(A39 s), [(A37 s)]⟩ ?_
 refine owg [(A38 s)] ⟨(6, VI s.promised.checkE) :: (A39 s), [(A37 s)]⟩ (scheck_fn s.promised) ?_
 refine owl 1 [1, 3] ⟨[(3, VI s.promised.checkE), (1, .ref 0 5 0 0)], [(A37 s)]⟩ ?_
 refine EL.seq ?_
 refine srl 2 [1, 3, 8] ⟨[(8, .v (.bool (s.promised.checkE == 0))), (3, VI s.promised.checkE), (1, .ref 0 5 0 0)], [(A37 s)]⟩ ?_
 cases h1 : (s.promised.checkE == 0)
 have g1 := bqF h1
 refine cnF ?_
 refine skn ?_
 refine EL.seq ?_
 refine srr 3 ⟨(14, .v (.bool (s.promised.checkE == 0))) :: (13, .v (.bool (s.promised.checkE == 0))) :: (A45 s), [(A37 s)]⟩ ?_
 rw [h1]
 refine owl 7 [3, 21] ⟨[(21, .v (.bool false)), (3, VI s.promised.checkE)], [(A37 s)]⟩ ?_
 refine cnF ?_
 refine skn ?_
 refine srl 2 [2] ⟨[(2, VI s.promised.checkE)], [(A37 s)]⟩ ?_
 refine EL.ret ?_
 refine rqe (VI s.promised.checkE) ?_
 rotate_left
 have g1 := bqT h1
 refine cnT ?_
 refine EL.reg0 ?_
 refine owr 2 ⟨(A41 s), [(A37 s)]⟩ ?_
 refine owg [(A40 s)] ⟨(11, VI s.kept.checkE) :: (A41 s), [(A37 s)]⟩ (ccheck_fn s.kept) ?_
 refine owe 1 ⟨(A42 s), [(A37 s)]⟩ ?_
 refine tN ?_
 refine EL.seq ?_
 refine srr 3 ⟨(14, .v (.bool (s.kept.checkE == 0))) :: (13, .v (.bool (s.kept.checkE == 0))) :: (12, VI s.kept.checkE) :: (A42 s), [(A37 s)]⟩ ?_
 cases h2 : (s.kept.checkE == 0)
 have g2 := bqF h2
 refine owl 7 [3, 21] ⟨[(21, .v (.bool false)), (3, VI s.kept.checkE)], [(A37 s)]⟩ ?_
 refine cnF ?_
 refine skn ?_
 refine srl 2 [2] ⟨[(2, VI s.kept.checkE)], [(A37 s)]⟩ ?_
 refine EL.ret ?_
 refine rqe (VI s.kept.checkE) ?_
 rotate_left
 have g2 := bqT h2
 refine owr 5 ⟨(A44 s), [(A37 s)]⟩ ?_
 refine owg [(A38 s), (A43 s)] ⟨(20, .v (.bool (decide (s.promised.lt s.kept.at_)))) :: (A44 s), [(A37 s)]⟩ (less_fn s.promised s.kept.at_) ?_
 refine owl 1 [3, 21] ⟨[(21, .v (.bool (decide (s.promised.lt s.kept.at_)))), (3, VI s.kept.checkE)], [(A37 s)]⟩ ?_
 cases h3 : (decide (s.promised.lt s.kept.at_))
 have g3 := of_decide_eq_false h3
 refine cnF ?_
 refine skn ?_
 refine srl 2 [2] ⟨[(2, VI s.kept.checkE)], [(A37 s)]⟩ ?_
 refine EL.ret ?_
 refine rqe (VI s.kept.checkE) ?_
 rotate_left
 have g3 := of_decide_eq_true h3
 refine cnT ?_
 refine roe 1 ⟨[(3, VI 4), (21, .v (.bool true))], [(A37 s)]⟩ ?_
 refine tN ?_
 refine srl 2 [2] ⟨[(2, VI 4)], [(A37 s)]⟩ ?_
 refine EL.ret ?_
 refine rqe (VI 4) ?_
 rotate_left
 all_goals ((refine congrArg (fun n => VI n) ?_; (try simp only [wi_iff, ba_empty, strEq_iff] at *); simp only [Seat.checkE, ba_empty]; (repeat' split) <;> first | rfl | omega | (simp_all; done) | (simp_all; omega) | trace_state))
section
variable (s : Seat) (v : Vote)
abbrev A46 : OB := some ⟨5, [[VI 0, VI 0, VI 0, VI 0, .v (.string (⟨#[]⟩))]]⟩
abbrev A47 : LS := [(4, .ref 2 5 0 0), (3, .ref 1 6 0 0), (2, .ref 0 5 0 0)]
abbrev A48 : AV := .agg [VI s.promised.time, VI s.promised.who, VI s.kept.at_.time, VI s.kept.at_.who, .v (.string s.kept.data)]
abbrev A49 : AV := .agg [VI v.kind, VI v.bid, VI v.node, VI v.copy.at_.time, VI v.copy.at_.who, .v (.string v.copy.data)]
abbrev A50 : LS := (13, (A49 v)) :: (12, .v (.bool true)) :: (7, VI s.checkE) :: A47
abbrev A51 : LS := (7, VI v.checkE) :: (14, VI v.checkE) :: (13, (A49 v)) :: (12, .v (.bool true)) :: A47
abbrev A52 : LS := [(6, VI v.checkE), (5, .emp), (4, .ref 2 5 0 0)]
abbrev A53 : AV := .agg [VI 0, VI 0, VI 0, VI 0, .v (.string (⟨#[]⟩))]
abbrev A54 : OB := some ⟨6, [[VI 0, VI v.bid, VI v.node, VI 0, VI 0, .v (.string (⟨#[]⟩))]]⟩
abbrev A55 : LB := [(A37 s), (A27 v), A46, (A54 v)]
abbrev A56 : LS := (27, VI v.kind) :: (26, .ref 1 6 0 0) :: (8, .ref 3 6 0 0) :: A47
abbrev A57 : AV := .agg [VI v.copy.at_.time, VI v.copy.at_.who]
abbrev A58 : LS := (34, (A57 v)) :: (33, .ref 1 6 0 3) :: (32, .ref 1 6 0 3) :: (31, (A38 s)) :: (30, .ref 0 5 0 0) :: (29, .v (.bool true)) :: (28, .v (.bool true)) :: (A56 v)
abbrev A59 : OB := some ⟨5, [[VI v.copy.at_.time, VI v.copy.at_.who, VI s.kept.at_.time, VI s.kept.at_.who, .v (.string s.kept.data)]]⟩
abbrev A60 : LB := [(A59 s v), (A27 v), A46, (A54 v)]
abbrev A61 : LS := [(8, .ref 3 6 0 0), (4, .ref 2 5 0 0), (2, .ref 0 5 0 0)]
abbrev A62 : OB := some ⟨6, [[VI 2, VI v.bid, VI v.node, VI s.kept.at_.time, VI s.kept.at_.who, .v (.string s.kept.data)]]⟩
abbrev A63 : LB := [(A59 s v), (A27 v), A46, (A62 s v)]
abbrev A64 : LS := (44, .ref 3 6 0 3) :: (43, .ref 3 6 0 0) :: (42, (A40 s)) :: (41, .ref 0 5 0 2) :: A61
abbrev A65 : LB := [(A59 s v), (A27 v), (A59 s v), (A62 s v), (A62 s v)]
abbrev A66 : LS := [(6, VI 0), (5, .own 4 6 0 1), (4, .ref 2 5 0 0)]
abbrev A67 : AV := .agg [VI v.copy.at_.time, VI v.copy.at_.who, VI s.kept.at_.time, VI s.kept.at_.who, .v (.string s.kept.data)]
abbrev A68 : LS := (47, VI v.kind) :: (46, .ref 1 6 0 0) :: (25, .v (.bool false)) :: (8, .ref 3 6 0 0) :: A47
abbrev A69 : LS := (54, (A38 s)) :: (53, .ref 0 5 0 0) :: (52, (A57 v)) :: (51, .ref 1 6 0 3) :: (50, .ref 1 6 0 3) :: (49, .v (.bool true)) :: (48, .v (.bool true)) :: (A68 v)
abbrev A70 : LB := [(A37 s), (A27 v), (A37 s), (A54 v)]
abbrev A71 : OB := some ⟨5, [[VI v.copy.at_.time, VI v.copy.at_.who, VI v.copy.at_.time, VI v.copy.at_.who, .v (.string v.copy.data)]]⟩
abbrev A72 : LB := [(A71 v), (A27 v), A46, (A54 v)]
abbrev A73 : OB := some ⟨6, [[VI 4, VI v.bid, VI v.node, VI v.copy.at_.time, VI v.copy.at_.who, .v (.string (⟨#[]⟩))]]⟩
abbrev A74 : LB := [(A71 v), (A27 v), A46, (A73 v)]
abbrev A75 : LS := (70, .ref 3 6 0 3) :: (69, .ref 3 6 0 3) :: (68, .ref 3 6 0 0) :: (67, (A57 v)) :: (66, .ref 1 6 0 3) :: (65, .ref 1 6 0 3) :: (8, .ref 3 6 0 0) :: A47
abbrev A76 : LB := [(A71 v), (A27 v), (A71 v), (A73 v), (A73 v)]
abbrev A77 : AV := .agg [VI v.copy.at_.time, VI v.copy.at_.who, VI v.copy.at_.time, VI v.copy.at_.who, .v (.string v.copy.data)]
abbrev A78 : LS := [(6, VI s.checkE), (5, .emp), (4, .ref 2 5 0 0)]
end
theorem serve_fn (s : Seat) (v : Vote) : Fn Tryd.prog 85 [.agg [VI s.promised.time, VI s.promised.who, VI s.kept.at_.time, VI s.kept.at_.who, .v (.string s.kept.data)], .agg [VI v.kind, VI v.bid, VI v.node, VI v.copy.at_.time, VI v.copy.at_.who, .v (.string v.copy.data)]] (.tup [.agg [VI ((((s.serveP v).1).promised).time), VI ((((s.serveP v).1).promised).who), VI (((((s.serveP v).1).kept).at_).time), VI (((((s.serveP v).1).kept).at_).who), .v (.string ((((s.serveP v).1).kept).data))], .lst 6 (((s.serveP v).2.1).map Vote.cs), VI ((s.serveP v).2.2)]) := by
 refine fnw F85_ok ?_
 refine srl 5 [2, 3, 4] ⟨A47, [(A37 s), (A27 v), A46]⟩ ?_
 refine srr 1 ⟨(9, (A48 s)) :: A47, [(A37 s), (A27 v), A46]⟩ ?_
 refine owg [(A48 s)] ⟨(10, VI s.checkE) :: (9, (A48 s)) :: A47, [(A37 s), (A27 v), A46]⟩ (secheck_fn s) ?_
 refine owl 1 [2, 3, 4, 7] ⟨(7, VI s.checkE) :: A47, [(A37 s), (A27 v), A46]⟩ ?_
 refine EL.seq ?_
 refine srl 2 [2, 3, 4, 7, 12] ⟨(12, .v (.bool (s.checkE == 0))) :: (7, VI s.checkE) :: A47, [(A37 s), (A27 v), A46]⟩ ?_
 cases h1 : (s.checkE == 0)
 have g1 := bqF h1
 refine cnF ?_
 refine skn ?_
 refine EL.seq ?_
 refine srl 2 [2, 3, 4, 7, 16] ⟨(16, .v (.bool (s.checkE != 0))) :: (7, VI s.checkE) :: A47, [(A37 s), (A27 v), A46]⟩ ?_
 have h9 : (s.checkE != 0) = true := (by show (!(s.checkE == 0)) = _; rw [h1]; rfl)
 rw [h9]
 refine cnT ?_
 refine srl 5 [4, 5, 6] ⟨(A78 s), [(A37 s), (A27 v), A46]⟩ ?_
 refine rtr ?_
 refine rqa (.tup [A53, .emp, VI s.checkE]) (Ale.tup (aR (aE 6 (aR .nil)))) ?_
 rotate_left
 have g1 := bqT h1
 refine cnT ?_
 refine EL.reg0 ?_
 refine owr 1 ⟨(A50 s v), [(A37 s), (A27 v), A46]⟩ ?_
 refine owg [(A49 v)] ⟨(14, VI v.checkE) :: (A50 s v), [(A37 s), (A27 v), A46]⟩ (vcheck_fn v) ?_
 refine owe 1 ⟨(A51 v), [(A37 s), (A27 v), A46]⟩ ?_
 refine tN ?_
 refine EL.seq ?_
 refine srl 2 [2, 3, 4, 7, 16] ⟨(16, .v (.bool (v.checkE != 0))) :: (7, VI v.checkE) :: A47, [(A37 s), (A27 v), A46]⟩ ?_
 cases h2 : (v.checkE != 0)
 have g2 := bnF h2
 refine cnF ?_
 refine skn ?_
 refine srl 7 [2, 3, 4, 8] ⟨(8, .ref 3 6 0 0) :: A47, (A55 s v)⟩ ?_
 refine EL.seq ?_
 refine EL.block ?_
 refine srr 4 ⟨(29, .v (.bool (v.kind == 1))) :: (28, .v (.bool (v.kind == 1))) :: (A56 v), (A55 s v)⟩ ?_
 cases h3 : (v.kind == 1)
 have g3 := bqF h3
 refine owl 8 [2, 3, 4, 8, 25] ⟨(25, .v (.bool false)) :: (8, .ref 3 6 0 0) :: A47, (A55 s v)⟩ ?_
 refine cnF ?_
 refine srr 4 ⟨(49, .v (.bool (v.kind == 3))) :: (48, .v (.bool (v.kind == 3))) :: (A68 v), (A55 s v)⟩ ?_
 cases h7 : (v.kind == 3)
 have g7 := bqF h7
 refine owl 9 [2, 3, 4, 8, 45] ⟨(45, .v (.bool false)) :: (8, .ref 3 6 0 0) :: A47, (A55 s v)⟩ ?_
 refine cnF ?_
 refine srl 4 [4, 5, 6] ⟨[(6, VI 0), (5, .emp), (4, .ref 2 5 0 0)], (A70 s v)⟩ ?_
 refine EL.ret ?_
 refine iR ?_
 refine tR ?_
 refine rqa (.tup [(A48 s), .emp, VI 0]) (Ale.tup (aR (aE 6 (aR .nil)))) ?_
 rotate_left
 have g7 := bqT h7
 refine owr 5 ⟨(A69 s v), (A55 s v)⟩ ?_
 refine owg [(A57 v), (A38 s)] ⟨(55, .v (.bool (decide (v.copy.at_.lt s.promised)))) :: (A69 s v), (A55 s v)⟩ (less_fn v.copy.at_ s.promised) ?_
 refine owl 3 [2, 3, 4, 8, 45] ⟨(45, .v (.bool (!(decide (v.copy.at_.lt s.promised))))) :: (8, .ref 3 6 0 0) :: A47, (A55 s v)⟩ ?_
 cases h8 : (decide (v.copy.at_.lt s.promised))
 have g8 := of_decide_eq_false h8
 refine cnT ?_
 refine sdl 9 [2, 3, 4, 8] ⟨(8, .ref 3 6 0 0) :: A47, (A72 v)⟩ ?_
 refine EL.draw0 ?_
 refine dwe 8 ⟨(A75 v), (A74 v)⟩ ?_
 refine iN ?_
 refine tN ?_
 refine sdl 6 [4, 5, 6] ⟨A66, (A76 v)⟩ ?_
 refine EL.ret ?_
 refine rqe (.tup [(A77 v), .lst 6 [[VI 4, VI v.bid, VI v.node, VI v.copy.at_.time, VI v.copy.at_.who, .v (.string (⟨#[]⟩))]], VI 0]) ?_
 rotate_left
 have g8 := of_decide_eq_true h8
 refine cnF ?_
 refine srl 4 [4, 5, 6] ⟨[(6, VI 0), (5, .emp), (4, .ref 2 5 0 0)], (A70 s v)⟩ ?_
 refine EL.ret ?_
 refine iR ?_
 refine tR ?_
 refine rqa (.tup [(A48 s), .emp, VI 0]) (Ale.tup (aR (aE 6 (aR .nil)))) ?_
 rotate_left
 have g3 := bqT h3
 refine owr 5 ⟨(A58 s v), (A55 s v)⟩ ?_
 refine owg [(A38 s), (A57 v)] ⟨(35, .v (.bool (decide (s.promised.lt v.copy.at_)))) :: (A58 s v), (A55 s v)⟩ (less_fn s.promised v.copy.at_) ?_
 refine owl 2 [2, 3, 4, 8, 25] ⟨(25, .v (.bool (decide (s.promised.lt v.copy.at_)))) :: (8, .ref 3 6 0 0) :: A47, (A55 s v)⟩ ?_
 cases h4 : (decide (s.promised.lt v.copy.at_))
 have g4 := of_decide_eq_false h4
 refine cnF ?_
 refine srr 4 ⟨(49, .v (.bool (v.kind == 3))) :: (48, .v (.bool (v.kind == 3))) :: (A68 v), (A55 s v)⟩ ?_
 cases h5 : (v.kind == 3)
 have g5 := bqF h5
 refine owl 9 [2, 3, 4, 8, 45] ⟨(45, .v (.bool false)) :: (8, .ref 3 6 0 0) :: A47, (A55 s v)⟩ ?_
 refine cnF ?_
 refine srl 4 [4, 5, 6] ⟨[(6, VI 0), (5, .emp), (4, .ref 2 5 0 0)], (A70 s v)⟩ ?_
 refine EL.ret ?_
 refine iR ?_
 refine tR ?_
 refine rqa (.tup [(A48 s), .emp, VI 0]) (Ale.tup (aR (aE 6 (aR .nil)))) ?_
 rotate_left
 have g5 := bqT h5
 refine owr 5 ⟨(A69 s v), (A55 s v)⟩ ?_
 refine owg [(A57 v), (A38 s)] ⟨(55, .v (.bool (decide (v.copy.at_.lt s.promised)))) :: (A69 s v), (A55 s v)⟩ (less_fn v.copy.at_ s.promised) ?_
 refine owl 3 [2, 3, 4, 8, 45] ⟨(45, .v (.bool (!(decide (v.copy.at_.lt s.promised))))) :: (8, .ref 3 6 0 0) :: A47, (A55 s v)⟩ ?_
 cases h6 : (decide (v.copy.at_.lt s.promised))
 have g6 := of_decide_eq_false h6
 refine cnT ?_
 refine sdl 9 [2, 3, 4, 8] ⟨(8, .ref 3 6 0 0) :: A47, (A72 v)⟩ ?_
 refine EL.draw0 ?_
 refine dwe 8 ⟨(A75 v), (A74 v)⟩ ?_
 refine iN ?_
 refine tN ?_
 refine sdl 6 [4, 5, 6] ⟨A66, (A76 v)⟩ ?_
 refine EL.ret ?_
 refine rqe (.tup [(A77 v), .lst 6 [[VI 4, VI v.bid, VI v.node, VI v.copy.at_.time, VI v.copy.at_.who, .v (.string (⟨#[]⟩))]], VI 0]) ?_
 rotate_left
 have g6 := of_decide_eq_true h6
 refine cnF ?_
 refine srl 4 [4, 5, 6] ⟨[(6, VI 0), (5, .emp), (4, .ref 2 5 0 0)], (A70 s v)⟩ ?_
 refine EL.ret ?_
 refine iR ?_
 refine tR ?_
 refine rqa (.tup [(A48 s), .emp, VI 0]) (Ale.tup (aR (aE 6 (aR .nil)))) ?_
 rotate_left
 have g4 := of_decide_eq_true h4
 refine cnT ?_
 refine srl 5 [2, 4, 8] ⟨A61, (A60 s v)⟩ ?_
 refine EL.draw0 ?_
 refine dwe 6 ⟨(A64 s), (A63 s v)⟩ ?_
 refine iN ?_
 refine tN ?_
 refine sdl 6 [4, 5, 6] ⟨A66, (A65 s v)⟩ ?_
 refine EL.ret ?_
 refine rqe (.tup [(A67 s v), .lst 6 [[VI 2, VI v.bid, VI v.node, VI s.kept.at_.time, VI s.kept.at_.who, .v (.string s.kept.data)]], VI 0]) ?_
 rotate_left
 have g2 := bnT h2
 refine cnT ?_
 refine srl 5 [4, 5, 6] ⟨(A52 v), [(A37 s), (A27 v), A46]⟩ ?_
 refine rtr ?_
 refine rqa (.tup [A53, .emp, VI v.checkE]) (Ale.tup (aR (aE 6 (aR .nil)))) ?_
 rotate_left
 all_goals (first | rfl | (simp [Seat.serveP, Seat.zero, *]; done) | (simp_all [Seat.serveP, Seat.zero]; done) | trace_state)
theorem rscheck_fn (s : Stp) : Fn Tryd.prog 66 [.agg [VI s.time, VI s.who]] (VI s.checkE) := by
 refine fnw F66_ok ?_
 refine srl 2 [1] ⟨[(1, .ref 0 2 0 0)], [(A19 s)]⟩ ?_
 refine EL.seq ?_
 refine srr 4 ⟨(6, .v (.bool (decide (s.time < 0)))) :: (5, .v (.bool (decide (s.time < 0)))) :: (A20 s), [(A19 s)]⟩ ?_
 cases h1 : (decide (s.time < 0))
 have g1 := of_decide_eq_false h1
 refine owr 5 ⟨(11, .v (.bool (decide (s.time > 1000000)))) :: (10, .v (.bool (decide (s.time > 1000000)))) :: (9, .v (.bool (decide (s.time > 1000000)))) :: (A21 s), [(A19 s)]⟩ ?_
 cases h2 : (decide (s.time > 1000000))
 have g2 := of_decide_eq_false h2
 refine owr 5 ⟨(16, .v (.bool (decide (s.who < 0)))) :: (15, .v (.bool (decide (s.who < 0)))) :: (14, .v (.bool (decide (s.who < 0)))) :: (A22 s), [(A19 s)]⟩ ?_
 cases h3 : (decide (s.who < 0))
 have g3 := of_decide_eq_false h3
 refine owl 4 [20] ⟨[(20, .v (.bool (decide (s.who > 31))))], [(A19 s)]⟩ ?_
 cases h4 : (decide (s.who > 31))
 have g4 := of_decide_eq_false h4
 refine cnF ?_
 refine skn ?_
 refine srl 1 [2] ⟨[(2, VI 0)], [(A19 s)]⟩ ?_
 refine EL.ret ?_
 refine rqe (VI 0) ?_
 rotate_left
 have g4 := of_decide_eq_true h4
 refine cnT ?_
 refine srl 1 [2] ⟨[(2, VI 3)], [(A19 s)]⟩ ?_
 refine rtr ?_
 refine rqe (VI 3) ?_
 rotate_left
 have g3 := of_decide_eq_true h3
 refine owl 4 [20] ⟨[(20, .v (.bool true))], [(A19 s)]⟩ ?_
 refine cnT ?_
 refine srl 1 [2] ⟨[(2, VI 3)], [(A19 s)]⟩ ?_
 refine rtr ?_
 refine rqe (VI 3) ?_
 rotate_left
 have g2 := of_decide_eq_true h2
 refine owl 9 [20] ⟨[(20, .v (.bool true))], [(A19 s)]⟩ ?_
 refine cnT ?_
 refine srl 1 [2] ⟨[(2, VI 3)], [(A19 s)]⟩ ?_
 refine rtr ?_
 refine rqe (VI 3) ?_
 rotate_left
 have g1 := of_decide_eq_true h1
 refine owl 14 [20] ⟨[(20, .v (.bool true))], [(A19 s)]⟩ ?_
 refine cnT ?_
 refine srl 1 [2] ⟨[(2, VI 3)], [(A19 s)]⟩ ?_
 refine rtr ?_
 refine rqe (VI 3) ?_
 rotate_left
 all_goals ((refine congrArg (fun n => VI n) ?_; (try simp only [wi_iff, wi_iffF] at *); simp only [Stp.checkE, Stp.okS]; (repeat' split) <;> first | omega | (simp_all; done) | (simp_all; omega) | trace_state))
theorem rless_fn (a : Stp) (b : Stp) : Fn Tryd.prog 57 [.agg [VI a.time, VI a.who], .agg [VI b.time, VI b.who]] (.v (.bool (decide (a.lt b)))) := by
 refine fnw F57_ok ?_
 refine srl 3 [2, 3] ⟨[(3, .ref 1 2 0 0), (2, .ref 0 2 0 0)], [(A12 a), (A13 b)]⟩ ?_
 refine EL.seq ?_
 refine srl 5 [2, 3, 9] ⟨[(9, .v (.bool (a.time == b.time))), (3, .ref 1 2 0 0), (2, .ref 0 2 0 0)], [(A12 a), (A13 b)]⟩ ?_
 cases h1 : (a.time == b.time)
 have g1 := bqF h1
 refine cnF ?_
 refine skn ?_
 refine srl 6 [4] ⟨[(4, .v (.bool (decide (a.time < b.time))))], [(A12 a), (A13 b)]⟩ ?_
 refine EL.ret ?_
 refine rqe (.v (.bool (decide (a.time < b.time)))) ?_
 rotate_left
 have g1 := bqT h1
 refine cnT ?_
 refine srl 6 [4] ⟨[(4, .v (.bool (decide (a.who < b.who))))], [(A12 a), (A13 b)]⟩ ?_
 refine rtr ?_
 refine rqe (.v (.bool (decide (a.who < b.who)))) ?_
 rotate_left
 all_goals ((refine congrArg (fun b => AV.v (Value.bool b)) ?_; first | (rw [Bool.eq_iff_iff]; simp [Stp.lt]; done) | (rw [Bool.eq_iff_iff]; simp [Stp.lt]; omega) | (rw [decide_eq_decide]; unfold Stp.lt; omega) | (rw [eq_comm, decide_eq_true_eq]; unfold Stp.lt; omega) | (rw [eq_comm, decide_eq_false_iff_not]; unfold Stp.lt; omega) | trace_state))
theorem rccheck_fn (c : Copy) : Fn Tryd.prog 67 [.agg [VI c.at_.time, VI c.at_.who, .v (.string c.data)]] (VI c.checkE) := by
 refine fnw F67_ok ?_
 refine srl 2 [1] ⟨[(1, .ref 0 3 0 0)], [(A23 c)]⟩ ?_
 refine srr 2 ⟨(A25 c), [(A23 c)]⟩ ?_
 refine owg [(A24 c)] ⟨(6, VI c.at_.checkE) :: (A25 c), [(A23 c)]⟩ (rscheck_fn c.at_) ?_
 refine owl 1 [1, 3] ⟨[(3, VI c.at_.checkE), (1, .ref 0 3 0 0)], [(A23 c)]⟩ ?_
 refine EL.seqG [3] (fun y => (y = ⟨[(3, VI 2)], [(A23 c)]⟩ ∧ (c.at_.checkE == 0) = true ∧ decide ((ByteArray.size c.data : Int) > 64) = true) ∨ (y = ⟨[(3, VI c.at_.checkE)], [(A23 c)]⟩ ∧ ((c.at_.checkE = 0 ∧ ¬ ((ByteArray.size c.data : Int) > 64)) ∨ (¬ c.at_.checkE = 0)))) ?_ ?_
 intro IHJ1 HJ1
 refine srr 3 ⟨(9, .v (.bool (c.at_.checkE == 0))) :: (8, .v (.bool (c.at_.checkE == 0))) :: (A26 c), [(A23 c)]⟩ ?_
 cases h2 : (c.at_.checkE == 0)
 have g2 := bqF h2
 refine owl 5 [3, 14] ⟨[(14, .v (.bool false)), (3, VI c.at_.checkE)], [(A23 c)]⟩ ?_
 refine cnF ?_
 refine EL.skip ?_
 exact tN (HJ1.get (Or.inr ⟨by kernel_rfl, (Or.inr (by first | exact g2 | exact h2 | simp_all | omega))⟩))
 have g2 := bqT h2
 refine owl 5 [3, 14] ⟨[(14, .v (.bool (decide ((ByteArray.size c.data : Int) > 64)))), (3, VI c.at_.checkE)], [(A23 c)]⟩ ?_
 cases h3 : (decide ((ByteArray.size c.data : Int) > 64))
 have g3 := of_decide_eq_false h3
 have n3 : ¬ ((ByteArray.size c.data) > 64) := by omega
 refine cnF ?_
 refine EL.skip ?_
 exact tN (HJ1.get (Or.inr ⟨by kernel_rfl, (Or.inl (by refine ⟨(by first | exact g2 | exact h2 | simp_all | omega), (by first | exact g3 | exact h3 | simp_all | omega)⟩))⟩))
 have g3 := of_decide_eq_true h3
 have n3 : ((ByteArray.size c.data) > 64) := by omega
 refine cnT ?_
 refine roe 1 ⟨[(3, VI 2), (14, .v (.bool true))], [(A23 c)]⟩ ?_
 exact tN (HJ1.get (Or.inl ⟨by kernel_rfl, h2, h3⟩))
 rintro _ (⟨rfl, h4, h5⟩ | ⟨rfl, hD6⟩)
 have g4 := bqT h4
 have g5 := of_decide_eq_true h5
 have n5 : ((ByteArray.size c.data) > 64) := by omega
 refine srl 2 [2] ⟨[(2, VI 2)], [(A23 c)]⟩ ?_
 refine EL.ret ?_
 refine rqe (VI 2) ?_
 rotate_left
 refine srl 2 [2] ⟨[(2, VI c.at_.checkE)], [(A23 c)]⟩ ?_
 refine EL.ret ?_
 refine rqe (VI c.at_.checkE) ?_
 rotate_left
 all_goals ((refine congrArg (fun n => VI n) ?_; have hs : c.at_.checkE = if c.at_.okS then 0 else 3 := rfl; simp only [Copy.checkE]; (repeat' split) <;> first | omega | (simp_all; done) | (simp_all; omega) | trace_state))
section
variable (v : Vote)
abbrev A79 : LS := [(5, VI v.kind), (4, .ref 0 6 0 0), (1, .ref 0 6 0 0)]
abbrev A80 : LS := [(13, VI v.bid), (12, .ref 0 6 0 1), (11, .v (.bool false)), (1, .ref 0 6 0 0)]
abbrev A81 : LS := (17, VI v.bid) :: (16, .ref 0 6 0 1) :: (15, .v (.bool false)) :: (14, .v (.bool false)) :: (A80 v)
abbrev A82 : LS := (22, VI v.node) :: (21, .ref 0 6 0 2) :: (20, .v (.bool false)) :: (19, .v (.bool false)) :: (18, .v (.bool false)) :: (A81 v)
abbrev A83 : LS := [(31, (A32 v)), (30, .ref 0 6 0 3), (29, .v (.bool false)), (1, .ref 0 6 0 0)]
abbrev A84 : LS := [(39, VI (ByteArray.size v.copy.data : Int)), (38, .v (.string v.copy.data)), (37, .ref 0 6 0 5), (36, .ref 0 6 0 3), (34, .v (.bool false)), (3, VI v.copy.checkE), (1, .ref 0 6 0 0)]
abbrev A85 : LS := (43, VI v.kind) :: (42, .ref 0 6 0 0) :: (41, .v (.bool true)) :: (40, .v (.bool true)) :: (A84 v)
end
theorem rvcheck_fn (v : Vote) : Fn Tryd.prog 48 [.agg [VI v.kind, VI v.bid, VI v.node, VI v.copy.at_.time, VI v.copy.at_.who, .v (.string v.copy.data)]] (VI v.checkE) := by
 refine fnw F48_ok ?_
 refine srl 2 [1] ⟨[(1, .ref 0 6 0 0)], [(A27 v)]⟩ ?_
 refine EL.seq ?_
 refine srr 4 ⟨(7, .v (.bool (decide (v.kind < 1)))) :: (6, .v (.bool (decide (v.kind < 1)))) :: (A79 v), [(A27 v)]⟩ ?_
 cases h1 : (decide (v.kind < 1))
 have g1 := of_decide_eq_false h1
 refine owl 4 [1, 11] ⟨[(11, .v (.bool (decide (v.kind > 4)))), (1, .ref 0 6 0 0)], [(A27 v)]⟩ ?_
 cases h2 : (decide (v.kind > 4))
 have g2 := of_decide_eq_false h2
 refine cnF ?_
 refine skn ?_
 refine EL.seq ?_
 refine srr 4 ⟨(15, .v (.bool (decide (v.bid < 0)))) :: (14, .v (.bool (decide (v.bid < 0)))) :: (A80 v), [(A27 v)]⟩ ?_
 cases h3 : (decide (v.bid < 0))
 have g3 := of_decide_eq_false h3
 refine owr 5 ⟨(20, .v (.bool (decide (v.bid > 30)))) :: (19, .v (.bool (decide (v.bid > 30)))) :: (18, .v (.bool (decide (v.bid > 30)))) :: (A81 v), [(A27 v)]⟩ ?_
 cases h4 : (decide (v.bid > 30))
 have g4 := of_decide_eq_false h4
 refine owr 5 ⟨(25, .v (.bool (decide (v.node < 0)))) :: (24, .v (.bool (decide (v.node < 0)))) :: (23, .v (.bool (decide (v.node < 0)))) :: (A82 v), [(A27 v)]⟩ ?_
 cases h5 : (decide (v.node < 0))
 have g5 := of_decide_eq_false h5
 refine owl 4 [1, 29] ⟨[(29, .v (.bool (decide (v.node > 11)))), (1, .ref 0 6 0 0)], [(A27 v)]⟩ ?_
 cases h6 : (decide (v.node > 11))
 have g6 := of_decide_eq_false h6
 refine cnF ?_
 refine skn ?_
 refine srr 2 ⟨(A83 v), [(A27 v)]⟩ ?_
 refine owg [(A32 v)] ⟨(32, VI v.copy.checkE) :: (A83 v), [(A27 v)]⟩ (rccheck_fn v.copy) ?_
 refine owl 1 [1, 3] ⟨[(3, VI v.copy.checkE), (1, .ref 0 6 0 0)], [(A27 v)]⟩ ?_
 refine EL.seq ?_
 refine srl 2 [1, 3, 34] ⟨[(34, .v (.bool (v.copy.checkE != 0))), (3, VI v.copy.checkE), (1, .ref 0 6 0 0)], [(A27 v)]⟩ ?_
 cases h7 : (v.copy.checkE != 0)
 have g7 := bnF h7
 refine cnF ?_
 refine skn ?_
 refine EL.seq ?_
 refine srr 6 ⟨(41, .v (.bool (decide ((ByteArray.size v.copy.data : Int) > 0)))) :: (40, .v (.bool (decide ((ByteArray.size v.copy.data : Int) > 0)))) :: (A84 v), [(A27 v)]⟩ ?_
 cases h8 : (decide ((ByteArray.size v.copy.data : Int) > 0))
 have g8 := of_decide_eq_false h8
 have n8 : ¬ ((ByteArray.size v.copy.data) > 0) := by omega
 refine owl 9 [50] ⟨[(50, .v (.bool false))], [(A27 v)]⟩ ?_
 refine cnF ?_
 refine skn ?_
 refine srl 1 [2] ⟨[(2, VI 0)], [(A27 v)]⟩ ?_
 refine EL.ret ?_
 refine rqe (VI 0) ?_
 rotate_left
 have g8 := of_decide_eq_true h8
 have n8 : ((ByteArray.size v.copy.data) > 0) := by omega
 refine owr 5 ⟨(46, .v (.bool (v.kind != 2))) :: (45, .v (.bool (v.kind != 2))) :: (44, .v (.bool (v.kind != 2))) :: (A85 v), [(A27 v)]⟩ ?_
 cases h9 : (v.kind != 2)
 have g9 := bnF h9
 refine owl 4 [50] ⟨[(50, .v (.bool false))], [(A27 v)]⟩ ?_
 refine cnF ?_
 refine skn ?_
 refine srl 1 [2] ⟨[(2, VI 0)], [(A27 v)]⟩ ?_
 refine EL.ret ?_
 refine rqe (VI 0) ?_
 rotate_left
 have g9 := bnT h9
 refine owl 4 [50] ⟨[(50, .v (.bool (v.kind != 3)))], [(A27 v)]⟩ ?_
 cases h10 : (v.kind != 3)
 have g10 := bnF h10
 refine cnF ?_
 refine skn ?_
 refine srl 1 [2] ⟨[(2, VI 0)], [(A27 v)]⟩ ?_
 refine EL.ret ?_
 refine rqe (VI 0) ?_
 rotate_left
 have g10 := bnT h10
 refine cnT ?_
 refine srl 1 [2] ⟨[(2, VI 1)], [(A27 v)]⟩ ?_
 refine rtr ?_
 refine rqe (VI 1) ?_
 rotate_left
 have g7 := bnT h7
 refine cnT ?_
 refine srl 2 [2] ⟨[(2, VI v.copy.checkE)], [(A27 v)]⟩ ?_
 refine rtr ?_
 refine rqe (VI v.copy.checkE) ?_
 rotate_left
 have g6 := of_decide_eq_true h6
 refine cnT ?_
 refine srl 1 [2] ⟨[(2, VI 3)], [(A27 v)]⟩ ?_
 refine rtr ?_
 refine rqe (VI 3) ?_
 rotate_left
 have g5 := of_decide_eq_true h5
 refine owl 4 [1, 29] ⟨[(29, .v (.bool true)), (1, .ref 0 6 0 0)], [(A27 v)]⟩ ?_
 refine cnT ?_
 refine srl 1 [2] ⟨[(2, VI 3)], [(A27 v)]⟩ ?_
 refine rtr ?_
 refine rqe (VI 3) ?_
 rotate_left
 have g4 := of_decide_eq_true h4
 refine owl 9 [1, 29] ⟨[(29, .v (.bool true)), (1, .ref 0 6 0 0)], [(A27 v)]⟩ ?_
 refine cnT ?_
 refine srl 1 [2] ⟨[(2, VI 3)], [(A27 v)]⟩ ?_
 refine rtr ?_
 refine rqe (VI 3) ?_
 rotate_left
 have g3 := of_decide_eq_true h3
 refine owl 14 [1, 29] ⟨[(29, .v (.bool true)), (1, .ref 0 6 0 0)], [(A27 v)]⟩ ?_
 refine cnT ?_
 refine srl 1 [2] ⟨[(2, VI 3)], [(A27 v)]⟩ ?_
 refine rtr ?_
 refine rqe (VI 3) ?_
 rotate_left
 have g2 := of_decide_eq_true h2
 refine cnT ?_
 refine srl 1 [2] ⟨[(2, VI 7)], [(A27 v)]⟩ ?_
 refine rtr ?_
 refine rqe (VI 7) ?_
 rotate_left
 have g1 := of_decide_eq_true h1
 refine owl 4 [1, 11] ⟨[(11, .v (.bool true)), (1, .ref 0 6 0 0)], [(A27 v)]⟩ ?_
 refine cnT ?_
 refine srl 1 [2] ⟨[(2, VI 7)], [(A27 v)]⟩ ?_
 refine rtr ?_
 refine rqe (VI 7) ?_
 rotate_left
 all_goals ((refine congrArg (fun n => VI n) ?_; (try simp only [wi_iff, ba_empty, strEq_iff] at *); simp only [Vote.checkE, ba_empty]; (repeat' split) <;> first | rfl | omega | (simp_all; done) | (simp_all; omega) | trace_state))
section
variable (s : Seat)
abbrev A86 : LS := [(11, (A40 s)), (10, .ref 0 5 0 2), (8, .v (.bool false)), (3, VI s.promised.checkE), (1, .ref 0 5 0 0)]
abbrev A87 : LS := [(20, (A43 s)), (19, .ref 0 5 0 2), (18, .ref 0 5 0 2), (17, (A38 s)), (16, .ref 0 5 0 0), (14, .v (.bool false)), (3, VI s.kept.checkE), (1, .ref 0 5 0 0)]
end
theorem rsecheck_fn (s : Seat) : Fn Tryd.prog 46 [.agg [VI s.promised.time, VI s.promised.who, VI s.kept.at_.time, VI s.kept.at_.who, .v (.string s.kept.data)]] (VI s.checkE) := by
 refine fnw F46_ok ?_
 refine srl 2 [1] ⟨[(1, .ref 0 5 0 0)], [(A37 s)]⟩ ?_
 refine srr 2 ⟨(A39 s), [(A37 s)]⟩ ?_
 refine owg [(A38 s)] ⟨(6, VI s.promised.checkE) :: (A39 s), [(A37 s)]⟩ (rscheck_fn s.promised) ?_
 refine owl 1 [1, 3] ⟨[(3, VI s.promised.checkE), (1, .ref 0 5 0 0)], [(A37 s)]⟩ ?_
 refine EL.seq ?_
 refine srl 2 [1, 3, 8] ⟨[(8, .v (.bool (s.promised.checkE != 0))), (3, VI s.promised.checkE), (1, .ref 0 5 0 0)], [(A37 s)]⟩ ?_
 cases h1 : (s.promised.checkE != 0)
 have g1 := bnF h1
 refine cnF ?_
 refine skn ?_
 refine srr 2 ⟨(A86 s), [(A37 s)]⟩ ?_
 refine owg [(A40 s)] ⟨(12, VI s.kept.checkE) :: (A86 s), [(A37 s)]⟩ (rccheck_fn s.kept) ?_
 refine owl 1 [1, 3] ⟨[(3, VI s.kept.checkE), (1, .ref 0 5 0 0)], [(A37 s)]⟩ ?_
 refine EL.seq ?_
 refine srl 2 [1, 3, 14] ⟨[(14, .v (.bool (s.kept.checkE != 0))), (3, VI s.kept.checkE), (1, .ref 0 5 0 0)], [(A37 s)]⟩ ?_
 cases h2 : (s.kept.checkE != 0)
 have g2 := bnF h2
 refine cnF ?_
 refine skn ?_
 refine EL.seq ?_
 refine srr 5 ⟨(A87 s), [(A37 s)]⟩ ?_
 refine owg [(A38 s), (A43 s)] ⟨(21, .v (.bool (decide (s.promised.lt s.kept.at_)))) :: (A87 s), [(A37 s)]⟩ (rless_fn s.promised s.kept.at_) ?_
 refine owl 0 [21] ⟨[(21, .v (.bool (decide (s.promised.lt s.kept.at_))))], [(A37 s)]⟩ ?_
 cases h3 : (decide (s.promised.lt s.kept.at_))
 have g3 := of_decide_eq_false h3
 refine cnF ?_
 refine skn ?_
 refine srl 1 [2] ⟨[(2, VI 0)], [(A37 s)]⟩ ?_
 refine EL.ret ?_
 refine rqe (VI 0) ?_
 rotate_left
 have g3 := of_decide_eq_true h3
 refine cnT ?_
 refine srl 1 [2] ⟨[(2, VI 4)], [(A37 s)]⟩ ?_
 refine rtr ?_
 refine rqe (VI 4) ?_
 rotate_left
 have g2 := bnT h2
 refine cnT ?_
 refine srl 2 [2] ⟨[(2, VI s.kept.checkE)], [(A37 s)]⟩ ?_
 refine rtr ?_
 refine rqe (VI s.kept.checkE) ?_
 rotate_left
 have g1 := bnT h1
 refine cnT ?_
 refine srl 2 [2] ⟨[(2, VI s.promised.checkE)], [(A37 s)]⟩ ?_
 refine rtr ?_
 refine rqe (VI s.promised.checkE) ?_
 rotate_left
 all_goals ((refine congrArg (fun n => VI n) ?_; (try simp only [wi_iff, ba_empty, strEq_iff] at *); simp only [Seat.checkE, ba_empty]; (repeat' split) <;> first | rfl | omega | (simp_all; done) | (simp_all; omega) | trace_state))
section
variable (s : Seat) (v : Vote)
abbrev A88 : LS := (12, (A49 v)) :: (11, .v (.bool true)) :: (7, VI s.checkE) :: A47
abbrev A89 : LS := (7, VI v.checkE) :: (13, VI v.checkE) :: (12, (A49 v)) :: (11, .v (.bool true)) :: A47
abbrev A90 : LS := (19, VI v.kind) :: (18, .ref 1 6 0 0) :: (15, .v (.bool false)) :: (7, VI v.checkE) :: A47
abbrev A91 : LS := (26, (A57 v)) :: (25, .ref 1 6 0 3) :: (24, .ref 1 6 0 3) :: (23, (A38 s)) :: (22, .ref 0 5 0 0) :: (21, .v (.bool true)) :: (20, .v (.bool true)) :: (A90 v)
abbrev A92 : LB := [(A37 s), (A27 v), (A59 s v), (A62 s v)]
abbrev A93 : LS := [(6, VI 0), (5, .own 3 6 0 1), (4, .ref 2 5 0 0)]
abbrev A94 : LS := (44, VI v.kind) :: (43, .ref 1 6 0 0) :: (28, .v (.bool false)) :: A47
abbrev A95 : LS := (51, (A38 s)) :: (50, .ref 0 5 0 0) :: (49, (A57 v)) :: (48, .ref 1 6 0 3) :: (47, .ref 1 6 0 3) :: (46, .v (.bool true)) :: (45, .v (.bool true)) :: (A94 v)
abbrev A96 : LB := [(A37 s), (A27 v), (A71 v), (A73 v)]
end
theorem rserve_fn (s : Seat) (v : Vote) : Fn Tryd.prog 32 [.agg [VI s.promised.time, VI s.promised.who, VI s.kept.at_.time, VI s.kept.at_.who, .v (.string s.kept.data)], .agg [VI v.kind, VI v.bid, VI v.node, VI v.copy.at_.time, VI v.copy.at_.who, .v (.string v.copy.data)]] (.tup [.agg [VI ((((s.serveP v).1).promised).time), VI ((((s.serveP v).1).promised).who), VI (((((s.serveP v).1).kept).at_).time), VI (((((s.serveP v).1).kept).at_).who), .v (.string ((((s.serveP v).1).kept).data))], .lst 6 (((s.serveP v).2.1).map Vote.cs), VI ((s.serveP v).2.2)]) := by
 refine fnw F32_ok ?_
 refine srl 5 [2, 3, 4] ⟨A47, [(A37 s), (A27 v), A46]⟩ ?_
 refine srr 1 ⟨(8, (A48 s)) :: A47, [(A37 s), (A27 v), A46]⟩ ?_
 refine owg [(A48 s)] ⟨(9, VI s.checkE) :: (8, (A48 s)) :: A47, [(A37 s), (A27 v), A46]⟩ (rsecheck_fn s) ?_
 refine owl 1 [2, 3, 4, 7] ⟨(7, VI s.checkE) :: A47, [(A37 s), (A27 v), A46]⟩ ?_
 refine EL.seq ?_
 refine srl 2 [2, 3, 4, 7, 11] ⟨(11, .v (.bool (s.checkE == 0))) :: (7, VI s.checkE) :: A47, [(A37 s), (A27 v), A46]⟩ ?_
 cases h1 : (s.checkE == 0)
 have g1 := bqF h1
 refine cnF ?_
 refine skn ?_
 refine EL.seq ?_
 refine srl 2 [2, 3, 4, 7, 15] ⟨(15, .v (.bool (s.checkE != 0))) :: (7, VI s.checkE) :: A47, [(A37 s), (A27 v), A46]⟩ ?_
 have h9 : (s.checkE != 0) = true := (by show (!(s.checkE == 0)) = _; rw [h1]; rfl)
 rw [h9]
 refine cnT ?_
 refine srl 5 [4, 5, 6] ⟨(A78 s), [(A37 s), (A27 v), A46]⟩ ?_
 refine rtr ?_
 refine rqa (.tup [A53, .emp, VI s.checkE]) (Ale.tup (aR (aE 6 (aR .nil)))) ?_
 rotate_left
 have g1 := bqT h1
 refine cnT ?_
 refine EL.reg0 ?_
 refine owr 1 ⟨(A88 s v), [(A37 s), (A27 v), A46]⟩ ?_
 refine owg [(A49 v)] ⟨(13, VI v.checkE) :: (A88 s v), [(A37 s), (A27 v), A46]⟩ (rvcheck_fn v) ?_
 refine owe 1 ⟨(A89 v), [(A37 s), (A27 v), A46]⟩ ?_
 refine tN ?_
 refine EL.seq ?_
 refine srl 2 [2, 3, 4, 7, 15] ⟨(15, .v (.bool (v.checkE != 0))) :: (7, VI v.checkE) :: A47, [(A37 s), (A27 v), A46]⟩ ?_
 cases h2 : (v.checkE != 0)
 have g2 := bnF h2
 refine cnF ?_
 refine skn ?_
 refine EL.seq ?_
 refine srr 4 ⟨(21, .v (.bool (v.kind == 1))) :: (20, .v (.bool (v.kind == 1))) :: (A90 v), [(A37 s), (A27 v), A46]⟩ ?_
 cases h3 : (v.kind == 1)
 have g3 := bqF h3
 refine owl 7 [2, 3, 4, 28] ⟨(28, .v (.bool false)) :: A47, [(A37 s), (A27 v), A46]⟩ ?_
 refine cnF ?_
 refine skn ?_
 refine EL.seq ?_
 refine srr 4 ⟨(46, .v (.bool (v.kind == 3))) :: (45, .v (.bool (v.kind == 3))) :: (A94 v), [(A37 s), (A27 v), A46]⟩ ?_
 cases h7 : (v.kind == 3)
 have g7 := bqF h7
 refine owl 8 [2, 3, 4, 54] ⟨(54, .v (.bool false)) :: A47, [(A37 s), (A27 v), A46]⟩ ?_
 refine cnF ?_
 refine skn ?_
 refine srl 4 [4, 5, 6] ⟨[(6, VI 0), (5, .emp), (4, .ref 2 5 0 0)], [(A37 s), (A27 v), (A37 s)]⟩ ?_
 refine EL.ret ?_
 refine rqa (.tup [(A48 s), .emp, VI 0]) (Ale.tup (aR (aE 6 (aR .nil)))) ?_
 rotate_left
 have g7 := bqT h7
 refine owr 5 ⟨(A95 s v), [(A37 s), (A27 v), A46]⟩ ?_
 refine owg [(A57 v), (A38 s)] ⟨(52, .v (.bool (decide (v.copy.at_.lt s.promised)))) :: (A95 s v), [(A37 s), (A27 v), A46]⟩ (rless_fn v.copy.at_ s.promised) ?_
 refine owl 2 [2, 3, 4, 54] ⟨(54, .v (.bool (!(decide (v.copy.at_.lt s.promised))))) :: A47, [(A37 s), (A27 v), A46]⟩ ?_
 cases h8 : (decide (v.copy.at_.lt s.promised))
 have g8 := of_decide_eq_false h8
 refine cnT ?_
 refine sdl 19 [4, 5, 6] ⟨A93, (A96 s v)⟩ ?_
 refine rtr ?_
 refine rqe (.tup [(A77 v), .lst 6 [[VI 4, VI v.bid, VI v.node, VI v.copy.at_.time, VI v.copy.at_.who, .v (.string (⟨#[]⟩))]], VI 0]) ?_
 rotate_left
 have g8 := of_decide_eq_true h8
 refine cnF ?_
 refine skn ?_
 refine srl 4 [4, 5, 6] ⟨[(6, VI 0), (5, .emp), (4, .ref 2 5 0 0)], [(A37 s), (A27 v), (A37 s)]⟩ ?_
 refine EL.ret ?_
 refine rqa (.tup [(A48 s), .emp, VI 0]) (Ale.tup (aR (aE 6 (aR .nil)))) ?_
 rotate_left
 have g3 := bqT h3
 refine owr 5 ⟨(A91 s v), [(A37 s), (A27 v), A46]⟩ ?_
 refine owg [(A38 s), (A57 v)] ⟨(27, .v (.bool (decide (s.promised.lt v.copy.at_)))) :: (A91 s v), [(A37 s), (A27 v), A46]⟩ (rless_fn s.promised v.copy.at_) ?_
 refine owl 1 [2, 3, 4, 28] ⟨(28, .v (.bool (decide (s.promised.lt v.copy.at_)))) :: A47, [(A37 s), (A27 v), A46]⟩ ?_
 cases h4 : (decide (s.promised.lt v.copy.at_))
 have g4 := of_decide_eq_false h4
 refine cnF ?_
 refine skn ?_
 refine EL.seq ?_
 refine srr 4 ⟨(46, .v (.bool (v.kind == 3))) :: (45, .v (.bool (v.kind == 3))) :: (A94 v), [(A37 s), (A27 v), A46]⟩ ?_
 cases h5 : (v.kind == 3)
 have g5 := bqF h5
 refine owl 8 [2, 3, 4, 54] ⟨(54, .v (.bool false)) :: A47, [(A37 s), (A27 v), A46]⟩ ?_
 refine cnF ?_
 refine skn ?_
 refine srl 4 [4, 5, 6] ⟨[(6, VI 0), (5, .emp), (4, .ref 2 5 0 0)], [(A37 s), (A27 v), (A37 s)]⟩ ?_
 refine EL.ret ?_
 refine rqa (.tup [(A48 s), .emp, VI 0]) (Ale.tup (aR (aE 6 (aR .nil)))) ?_
 rotate_left
 have g5 := bqT h5
 refine owr 5 ⟨(A95 s v), [(A37 s), (A27 v), A46]⟩ ?_
 refine owg [(A57 v), (A38 s)] ⟨(52, .v (.bool (decide (v.copy.at_.lt s.promised)))) :: (A95 s v), [(A37 s), (A27 v), A46]⟩ (rless_fn v.copy.at_ s.promised) ?_
 refine owl 2 [2, 3, 4, 54] ⟨(54, .v (.bool (!(decide (v.copy.at_.lt s.promised))))) :: A47, [(A37 s), (A27 v), A46]⟩ ?_
 cases h6 : (decide (v.copy.at_.lt s.promised))
 have g6 := of_decide_eq_false h6
 refine cnT ?_
 refine sdl 19 [4, 5, 6] ⟨A93, (A96 s v)⟩ ?_
 refine rtr ?_
 refine rqe (.tup [(A77 v), .lst 6 [[VI 4, VI v.bid, VI v.node, VI v.copy.at_.time, VI v.copy.at_.who, .v (.string (⟨#[]⟩))]], VI 0]) ?_
 rotate_left
 have g6 := of_decide_eq_true h6
 refine cnF ?_
 refine skn ?_
 refine srl 4 [4, 5, 6] ⟨[(6, VI 0), (5, .emp), (4, .ref 2 5 0 0)], [(A37 s), (A27 v), (A37 s)]⟩ ?_
 refine EL.ret ?_
 refine rqa (.tup [(A48 s), .emp, VI 0]) (Ale.tup (aR (aE 6 (aR .nil)))) ?_
 rotate_left
 have g4 := of_decide_eq_true h4
 refine cnT ?_
 refine sdl 17 [4, 5, 6] ⟨A93, (A92 s v)⟩ ?_
 refine rtr ?_
 refine rqe (.tup [(A67 s v), .lst 6 [[VI 2, VI v.bid, VI v.node, VI s.kept.at_.time, VI s.kept.at_.who, .v (.string s.kept.data)]], VI 0]) ?_
 rotate_left
 have g2 := bnT h2
 refine cnT ?_
 refine srl 5 [4, 5, 6] ⟨(A52 v), [(A37 s), (A27 v), A46]⟩ ?_
 refine rtr ?_
 refine rqa (.tup [A53, .emp, VI v.checkE]) (Ale.tup (aR (aE 6 (aR .nil)))) ?_
 rotate_left
 all_goals (first | rfl | (simp [Seat.serveP, Seat.zero, *]; done) | (simp_all [Seat.serveP, Seat.zero]; done) | trace_state)
section
variable (a5 : Vote) (a7 : Vote) (k : Nat) (xs : List Vote) (ys : List Vote)
abbrev A97 : LS := [(6, .lst 6 (xs.map Vote.cs)), (0, .lst 6 (xs.map Vote.cs)), (1, .lst 6 (ys.map Vote.cs))]
abbrev A98 : LS := (8, .lst 6 (ys.map Vote.cs)) :: (7, VI (List.length xs : Int)) :: (A97 xs ys)
abbrev A99 : LS := [(5, VI 0), (0, .lst 6 (xs.map Vote.cs)), (1, .lst 6 (ys.map Vote.cs))]
abbrev A100 : LS := [(0, .lst 6 (xs.map Vote.cs)), (1, .lst 6 (ys.map Vote.cs)), (5, VI (k : Int))]
abbrev A101 : LS := (12, .lst 6 (xs.map Vote.cs)) :: (11, VI (k : Int)) :: (A100 k xs ys)
abbrev A102 : LS := (18, VI (k : Int)) :: (17, .lst 6 (xs.map Vote.cs)) :: (14, .v (.bool true)) :: (A100 k xs ys)
abbrev A103 : LS := (19, .pim [VI a5.kind, VI a5.bid, VI a5.node, VI a5.copy.at_.time, VI a5.copy.at_.who, .v (.string a5.copy.data)] 0) :: (A102 k xs ys)
abbrev A104 : AV := .agg [VI a5.kind, VI a5.bid, VI a5.node, VI a5.copy.at_.time, VI a5.copy.at_.who, .v (.string a5.copy.data)]
abbrev A105 : LS := (22, VI (k : Int)) :: (21, .lst 6 (ys.map Vote.cs)) :: (20, (A104 a5)) :: (A103 a5 k xs ys)
abbrev A106 : LS := (23, .pim [VI a7.kind, VI a7.bid, VI a7.node, VI a7.copy.at_.time, VI a7.copy.at_.who, .v (.string a7.copy.data)] 0) :: (A105 a5 k xs ys)
abbrev A107 : LS := [(15, VI (k : Int)), (25, .v (.bool false)), (0, .lst 6 (xs.map Vote.cs)), (1, .lst 6 (ys.map Vote.cs))]
abbrev A108 : LS := (5, VI ((k : Int) + 1)) :: (16, VI ((k : Int) + 1)) :: (A107 k xs ys)
end
theorem sameVotes_fn (xs : List Vote) (ys : List Vote) (hx : xs.length ≤ 9223372036854775807) : Fn Tryd.prog 37 [.lst 6 (xs.map Vote.cs), .lst 6 (ys.map Vote.cs)] (.v (.bool (decide (xs = ys)))) := by
 refine fnw F37_ok ?_
 refine srl 1 [0, 1] ⟨[(0, .lst 6 (xs.map Vote.cs)), (1, .lst 6 (ys.map Vote.cs))], []⟩ ?_
 refine EL.seq ?_
 refine srr 1 ⟨(A97 xs ys), []⟩ ?_
 refine ow2 ⟨(7, VI (List.length xs : Int)) :: (A97 xs ys), []⟩ (oln Vote.cs xs (.s 6) 6) ?_
 refine owr 1 ⟨(A98 xs ys), []⟩ ?_
 refine ow2 ⟨(9, VI (List.length ys : Int)) :: (A98 xs ys), []⟩ (oln Vote.cs ys (.s 8) 6) ?_
 refine owl 1 [0, 1, 10] ⟨[(10, .v (.bool ((List.length xs : Int) != (List.length ys : Int)))), (0, .lst 6 (xs.map Vote.cs)), (1, .lst 6 (ys.map Vote.cs))], []⟩ ?_
 cases h1 : ((List.length xs : Int) != (List.length ys : Int))
 have g1 := bnF h1
 have n1 : ((List.length xs) = (List.length ys)) := by omega
 refine cnF ?_
 refine skn ?_
 refine EL.seq ?_
 refine srl 1 [0, 1, 5] ⟨(A99 xs ys), []⟩ ?_
 refine EL.block ?_
 refine EL.loopN (fun mM xX => ∃ (k : Nat), mM = xs.length - k ∧ (k ≤ xs.length ∧ xs.length = ys.length ∧ decide (xs = ys) = decide (xs.drop k = ys.drop k)) ∧ xX = ⟨(A100 k xs ys), []⟩) (y := (fun (k : Nat) => (⟨(A100 k xs ys), []⟩ : L3)) 0) [0, 1, 5] [] [] (by kernel_rfl) trivial ⟨0, rfl, by simp; omega, rfl⟩ ?_
 rintro _ _ ⟨k, rfl, hI2, rfl⟩
 obtain ⟨hk, hl, hs⟩ := hI2
 refine EL.seq ?_
 refine srr 2 ⟨(A101 k xs ys), []⟩ ?_
 refine ow2 ⟨(13, VI (List.length xs : Int)) :: (A101 k xs ys), []⟩ (oln Vote.cs xs (.s 12) 6) ?_
 refine owl 1 [0, 1, 5, 14] ⟨(14, .v (.bool (decide ((k : Int) < (List.length xs : Int))))) :: (A100 k xs ys), []⟩ ?_
 cases h3 : (decide ((k : Int) < (List.length xs : Int)))
 have g3 := of_decide_eq_false h3
 have n3 : ¬ ((k) < (List.length xs)) := by omega
 refine cnF ?_
 refine EL.exit ?_
 refine tX ?_
 refine tX ?_
 refine iH ?_
 refine tN ?_
 refine srl 1 [4] ⟨[(4, .v (.bool true))], []⟩ ?_
 refine EL.ret ?_
 refine rqe (.v (.bool true)) ?_
 rotate_left
 have g3 := of_decide_eq_true h3
 have n3 : ((k) < (List.length xs)) := by omega
 refine cnT ?_
 refine skn ?_
 refine EL.seq ?_
 refine EL.block ?_
 refine sdr 2 ⟨(A102 k xs ys), []⟩ ?_
 obtain ⟨a5, ha5⟩ : ∃ y, xs[((k : Int) : Int).toNat]? = some y := idx_ex ⟨by omega, by omega⟩
 have iha5 : xs[k]? = some a5 := by simpa using ha5
 have dha5 := drop_get iha5
 refine dw2 ⟨(A103 a5 k xs ys), []⟩ (oid Vote.cs xs (.s 17) (.s 18) 6 .i64 (k : Int) a5 (by omega) ha5) ?_
 refine dwr 3 ⟨(A105 a5 k xs ys), []⟩ ?_
 obtain ⟨a7, ha7⟩ : ∃ y, ys[((k : Int) : Int).toNat]? = some y := idx_ex ⟨by omega, by omega⟩
 have iha7 : ys[k]? = some a7 := by simpa using ha7
 have dha7 := drop_get iha7
 refine dw2 ⟨(A106 a5 a7 k xs ys), []⟩ (oid Vote.cs ys (.s 21) (.s 22) 6 .i64 (k : Int) a7 (by omega) ha7) ?_
 refine dwl 2 [0, 1, 5, 25] ⟨(25, .v (.bool (!((a5.kind == a7.kind) && ((a5.bid == a7.bid) && ((a5.node == a7.node) && ((a5.copy.at_.time == a7.copy.at_.time) && ((a5.copy.at_.who == a7.copy.at_.who) && (strEq a5.copy.data a7.copy.data && true))))))))) :: (A100 k xs ys), []⟩ ?_
 cases h8 : ((a5.kind == a7.kind) && ((a5.bid == a7.bid) && ((a5.node == a7.node) && ((a5.copy.at_.time == a7.copy.at_.time) && ((a5.copy.at_.who == a7.copy.at_.who) && (strEq a5.copy.data a7.copy.data && true))))))
 have g8 : ¬ (a5.kind = a7.kind ∧ a5.bid = a7.bid ∧ a5.node = a7.node ∧ a5.copy.at_.time = a7.copy.at_.time ∧ a5.copy.at_.who = a7.copy.at_.who ∧ a5.copy.data = a7.copy.data) := fun ⟨q0, q1, q2, q3, q4, q5⟩ => Bool.noConfusion ((show (((a5.kind == a7.kind) && ((a5.bid == a7.bid) && ((a5.node == a7.node) && ((a5.copy.at_.time == a7.copy.at_.time) && ((a5.copy.at_.who == a7.copy.at_.who) && (strEq a5.copy.data a7.copy.data && true))))))) = true by first | (simp [q0, q1, q2, q3, q4, q5, strEq_iff]; done) | (simp only [q0, q1, q2, q3, q4, q5, beq_self_eq_true, Bool.and_self, Bool.and_true, Bool.true_and]; done)).symm.trans h8)
 refine cnT ?_
 refine srl 1 [4] ⟨[(4, .v (.bool false))], []⟩ ?_
 refine EL.ret ?_
 refine iR ?_
 refine tR ?_
 refine tR ?_
 refine iR ?_
 refine tR ?_
 refine rqe (.v (.bool false)) ?_
 rotate_left
 have g8 : a5.kind = a7.kind ∧ a5.bid = a7.bid ∧ a5.node = a7.node ∧ a5.copy.at_.time = a7.copy.at_.time ∧ a5.copy.at_.who = a7.copy.at_.who ∧ a5.copy.data = a7.copy.data := by simpa [strEq_iff] using h8
 refine cnF ?_
 refine EL.skip ?_
 refine iN ?_
 refine tN ?_
 refine EL.reg0 ?_
 refine owr 3 ⟨(5, VI (IntKind.i64.wrap ((k : Int) + 1))) :: (16, VI (IntKind.i64.wrap ((k : Int) + 1))) :: (A107 k xs ys), []⟩ ?_
 have e9 := wr64 (n := (k : Int) + 1) (by omega)
 rw [e9]
 refine owe 0 ⟨(A108 k xs ys), []⟩ ?_
 refine tN ?_
 refine rE (live := [0, 1, 5]) (src := []) (es := []) (y := (fun (k : Nat) => (⟨(A100 k xs ys), []⟩ : L3)) (k + 1)) ?_ trivial ?_ ⟨(k + 1), rfl, ?_, rfl⟩
 kernel_rfl
 omega
 focus (refine ⟨by omega, by omega, ?_⟩; rw [hs]; simp only [*, List.cons.injEq, Vote.ext_iff, Copy.ext_iff, Stp.ext_iff, and_self, true_and])
 have g1 := bnT h1
 have n1 : ¬ ((List.length xs) = (List.length ys)) := by omega
 refine cnT ?_
 refine srl 1 [4] ⟨[(4, .v (.bool false))], []⟩ ?_
 refine rtr ?_
 refine rqe (.v (.bool false)) ?_
 rotate_left
 all_goals ((refine congrArg (fun b => AV.v (Value.bool b)) ?_; first | (have hne : xs ≠ ys := (fun h => by subst h; omega); simp [hne]; done) | (rw [hs, List.drop_eq_nil_of_le (by omega), List.drop_eq_nil_of_le (by omega)]; simp; done) | (rw [hs]; simp [*, Vote.ext_iff, Copy.ext_iff, Stp.ext_iff]; done) | (rw [hs, ‹xs.drop k = _›, ‹ys.drop k = _›]; rw [eq_comm, decide_eq_false_iff_not]; intro hh; rw [List.cons.injEq] at hh; obtain ⟨hh, _⟩ := hh; subst hh; simp at *; done) | trace_state))
theorem tz_res {x : Nat} (h0 : x ≠ 0) (h : x < 18446744073709551616) : (0 ≤ (IntKind.u64.wrap ((bits .and .u64 (x : Int) (IntKind.u64.wrap (0 - (x : Int)))) * 285870213051353865)).fdiv (2 ^ (min 58 IntKind.u64.bits)) ∧ (IntKind.u64.wrap ((bits .and .u64 (x : Int) (IntKind.u64.wrap (0 - (x : Int)))) * 285870213051353865)).fdiv (2 ^ (min 58 IntKind.u64.bits)) < 64) ∧ glZ.getD (Int.toNat ((IntKind.u64.wrap ((bits .and .u64 (x : Int) (IntKind.u64.wrap (0 - (x : Int)))) * 285870213051353865)).fdiv (2 ^ (min 58 IntKind.u64.bits)))) 0 = (tz x : Int) := by
  rw [neg_bits h0 h]
  exact gl_at (tz_lt 64 x h0 (by simpa using h))
theorem fdn32 {n : Nat} (_ : (0 : Int) ≤ 0) : ((n : Int)).fdiv (2 ^ (min 32 IntKind.u64.bits)) = ((n / 4294967296 : Nat) : Int) := by
  show ((n : Int)).fdiv 4294967296 = _
  rw [Int.fdiv_eq_ediv_of_nonneg _ (by decide)]; omega
theorem fdn16 {n : Nat} (_ : (0 : Int) ≤ 0) : ((n : Int)).fdiv (2 ^ (min 16 IntKind.u64.bits)) = ((n / 65536 : Nat) : Int) := by
  show ((n : Int)).fdiv 65536 = _
  rw [Int.fdiv_eq_ediv_of_nonneg _ (by decide)]; omega
theorem fdn8 {n : Nat} (_ : (0 : Int) ≤ 0) : ((n : Int)).fdiv (2 ^ (min 8 IntKind.u64.bits)) = ((n / 256 : Nat) : Int) := by
  show ((n : Int)).fdiv 256 = _
  rw [Int.fdiv_eq_ediv_of_nonneg _ (by decide)]; omega
theorem wr8 {a : Int} (h : 0 ≤ a ∧ a ≤ 255) : IntKind.u8.wrap a = a := by
  have : IntKind.u8.wrap a = a % 256 := by simp [IntKind.wrap, IntKind.bits, IntKind.signed]
  omega
theorem len64_b {n : Nat} (h : n < 256) {m : Int} (hm : m = n) {b : UInt8} (hb : l8s[Int.toNat m]? = some b) : b.toNat = len64 n := by
  subst hm; exact l8_get h hb
theorem len64_32 {n : Nat} (h : 4294967296 ≤ n) : len64 n = len64 (n / 4294967296) + 32 := len64_shift (k := 32) h
theorem len64_16 {n : Nat} (h : 65536 ≤ n) : len64 n = len64 (n / 65536) + 16 := len64_shift (k := 16) h
theorem len64_s8 {n : Nat} (h : 256 ≤ n) : len64 n = len64 (n / 256) + 8 := len64_shift (k := 8) h
def nodesGo : List Int → Int → Int × Int
  | [], a => (a, 0)
  | w :: r, a => if 0 ≤ w ∧ w ≤ 100 then nodesGo r (a + w) else (0, 3)
def nodesP (ws : List Int) : Int × Int := if ws.length = 0 then (0, 8) else if ws.length > 12 then (0, 2) else nodesGo ws 0
theorem nodesGo_bd : ∀ (ws : List Int) (a : Int), 0 ≤ a → (nodesGo ws a).2 = 0 → a ≤ (nodesGo ws a).1 ∧ (nodesGo ws a).1 ≤ a + 100 * ws.length
  | [], a, h, _ => by simp [nodesGo]
  | w :: r, a, h, h2 => by
    unfold nodesGo at h2 ⊢
    split
    · rename_i hw
      rw [if_pos hw] at h2
      have := nodesGo_bd r (a + w) (by omega) h2
      simp only [List.length_cons]; omega
    · rename_i hw; rw [if_neg hw] at h2; simp at h2
theorem nodes_bd {ws : List Int} (h : (nodesP ws).2 = 0) : 0 ≤ (nodesP ws).1 ∧ (nodesP ws).1 ≤ 1200 ∧ 1 ≤ ws.length ∧ ws.length ≤ 12 ∧ ∀ w, w ∈ ws → 0 ≤ w ∧ w ≤ 100 := by
  unfold nodesP at h ⊢
  by_cases h1 : ws.length = 0
  · rw [if_pos h1] at h; simp at h
  · by_cases h2 : ws.length > 12
    · rw [if_neg h1, if_pos h2] at h; simp at h
    · rw [if_neg h1, if_neg h2] at h ⊢
      have := nodesGo_bd ws 0 (by omega) h
      refine ⟨this.1, by omega, by omega, by omega, ?_⟩
      have key : ∀ (l : List Int) (a : Int), (nodesGo l a).2 = 0 → ∀ w, w ∈ l → 0 ≤ w ∧ w ≤ 100 := by
        intro l
        induction l with
        | nil => intro a _ w hw; simp at hw
        | cons v r ih =>
          intro a h w hw
          unfold nodesGo at h
          split at h
          · rename_i hv
            rcases List.mem_cons.1 hw with rfl | hw
            · exact hv
            · exact ih _ h w hw
          · simp at h
      exact key ws 0 h
def qcheckP (ws : List Int) (need : Int) : Int := if (nodesP ws).2 ≠ 0 then (nodesP ws).2 else if need < 1 ∨ need > (nodesP ws).1 then 3 else if 2 * need ≤ (nodesP ws).1 then 4 else 0
def sumP (ws : List Int) (x : Nat) : Int × Int := if (nodesP ws).2 ≠ 0 then (0, (nodesP ws).2) else if 2 ^ ws.length ≤ x then (0, 3) else (bsum ws x, 0)
def enoughP (ws : List Int) (need : Int) (x : Nat) : Bool × Int := if qcheckP ws need ≠ 0 then (false, qcheckP ws need) else ((sumP ws x).2 == 0 && decide ((sumP ws x).1 ≥ need), (sumP ws x).2)
section
variable (a : Int) (a5 : Int) (k : Nat) (ws : List Int)
abbrev Q0 : LS := [(7, .lst 1 (ws.map cI)), (2, VI 0), (0, .lst 1 (ws.map cI))]
abbrev Q1 : LS := [(11, .lst 1 (ws.map cI)), (6, .v (.bool false)), (2, VI 0), (0, .lst 1 (ws.map cI))]
abbrev Q2 : LS := [(14, .lst 1 (ws.map cI)), (10, .v (.bool false)), (2, VI 0), (0, .lst 1 (ws.map cI))]
abbrev Q3 : LS := [(16, VI 0), (15, VI (List.length ws : Int)), (14, .lst 1 (ws.map cI)), (2, VI 0)]
abbrev Q4 : LS := [(2, VI a), (14, .lst 1 (ws.map cI)), (15, VI (List.length ws : Int)), (16, VI (k : Int))]
abbrev Q5 : LS := (18, .pim [VI a5] 0) :: (17, .v (.bool true)) :: (Q4 a k ws)
abbrev Q6 : LS := [(27, VI a5), (26, VI a), (25, .v (.bool false)), (5, VI a5), (14, .lst 1 (ws.map cI)), (15, VI (List.length ws : Int)), (16, VI (k : Int))]
abbrev Q7 : LS := [(2, VI (a + a5)), (28, VI (a + a5)), (27, VI a5), (26, VI a), (25, .v (.bool false)), (5, VI a5), (14, .lst 1 (ws.map cI)), (15, VI (List.length ws : Int))]
abbrev Q8 : LS := (16, VI ((k : Int) + 1)) :: (29, VI ((k : Int) + 1)) :: (Q7 a a5 ws)
end
theorem nodes_fn (ws : List Int) (hx : ws.length ≤ 9223372036854775807) : Fn Tryd.prog 53 [.lst 1 (ws.map cI)] (.tup [VI ((nodesP ws).1), VI ((nodesP ws).2)]) := by
 refine fnw F53_ok ?_
 refine srl 2 [0, 2] ⟨[(2, VI 0), (0, .lst 1 (ws.map cI))], []⟩ ?_
 refine EL.seq ?_
 refine EL.block ?_
 refine srr 1 ⟨(Q0 ws), []⟩ ?_
 refine ow2 ⟨(8, VI (List.length ws : Int)) :: (Q0 ws), []⟩ (oln cI ws (.s 7) 1) ?_
 refine owl 2 [0, 2, 6] ⟨[(6, .v (.bool ((List.length ws : Int) == 0))), (2, VI 0), (0, .lst 1 (ws.map cI))], []⟩ ?_
 cases h1 : ((List.length ws : Int) == 0)
 have g1 := bqF h1
 have n1 : ¬ ((List.length ws) = 0) := by omega
 refine cnF ?_
 refine srr 1 ⟨(Q1 ws), []⟩ ?_
 refine ow2 ⟨(12, VI (List.length ws : Int)) :: (Q1 ws), []⟩ (oln cI ws (.s 11) 1) ?_
 refine owl 2 [0, 2, 10] ⟨[(10, .v (.bool (decide ((List.length ws : Int) > 12)))), (2, VI 0), (0, .lst 1 (ws.map cI))], []⟩ ?_
 cases h2 : (decide ((List.length ws : Int) > 12))
 have g2 := of_decide_eq_false h2
 have n2 : ¬ ((List.length ws) > 12) := by omega
 refine cnF ?_
 refine EL.skip ?_
 refine iN ?_
 refine tN ?_
 refine EL.seq ?_
 refine srr 1 ⟨(Q2 ws), []⟩ ?_
 refine ow2 ⟨(15, VI (List.length ws : Int)) :: (Q2 ws), []⟩ (oln cI ws (.s 14) 1) ?_
 refine owl 1 [2, 14, 15, 16] ⟨(Q3 ws), []⟩ ?_
 refine EL.block ?_
 refine EL.loopN (fun mM xX => ∃ (k : Nat) (a : Int), mM = ws.length - k ∧ (k ≤ ws.length ∧ 1 ≤ ws.length ∧ ws.length ≤ 12 ∧ 0 ≤ a ∧ a ≤ 100 * k ∧ nodesGo ws 0 = nodesGo (ws.drop k) a) ∧ xX = ⟨(Q4 a k ws), []⟩) (y := (fun (k : Nat) (a : Int) => (⟨(Q4 a k ws), []⟩ : L3)) 0 0) [2, 14, 15, 16] [] [] (by kernel_rfl) trivial ⟨0, 0, rfl, by simp; omega, rfl⟩ ?_
 rintro _ _ ⟨k, a, rfl, hI3, rfl⟩
 obtain ⟨hk, hl1, hl2, ha0, ha1, hs⟩ := hI3
 refine srl 1 [2, 14, 15, 16, 17] ⟨(17, .v (.bool (decide ((k : Int) < (List.length ws : Int))))) :: (Q4 a k ws), []⟩ ?_
 refine EL.seq ?_
 cases h4 : (decide ((k : Int) < (List.length ws : Int)))
 have g4 := of_decide_eq_false h4
 have n4 : ¬ ((k) < (List.length ws)) := by omega
 refine cnF ?_
 refine EL.exit ?_
 refine tX ?_
 refine tX ?_
 refine iH ?_
 refine tN ?_
 refine srl 3 [2, 3] ⟨[(3, VI 0), (2, VI a)], []⟩ ?_
 refine EL.ret ?_
 refine rqe (.tup [VI a, VI 0]) ?_
 rotate_left
 have g4 := of_decide_eq_true h4
 have n4 : ((k) < (List.length ws)) := by omega
 refine cnT ?_
 refine skn ?_
 refine EL.seq ?_
 refine EL.block ?_
 refine EL.sreg ?_
 obtain ⟨a5, ha5⟩ : ∃ y, ws[((k : Int) : Int).toNat]? = some y := idx_ex ⟨by omega, by omega⟩
 have iha5 : ws[k]? = some a5 := by simpa using ha5
 have dha5 := drop_get iha5
 refine ow2 ⟨(Q5 a a5 k ws), []⟩ (oid cI ws (.s 14) (.s 16) 1 .i64 (k : Int) a5 (by omega) ha5) ?_
 refine owl 2 [2, 5, 14, 15, 16] ⟨(5, VI a5) :: (Q4 a k ws), []⟩ ?_
 refine EL.seq ?_
 refine srr 3 ⟨(22, .v (.bool (decide (a5 < 0)))) :: (21, .v (.bool (decide (a5 < 0)))) :: (20, VI a5) :: (5, VI a5) :: (Q4 a k ws), []⟩ ?_
 cases h6 : (decide (a5 < 0))
 have g6 := of_decide_eq_false h6
 refine owl 3 [2, 5, 14, 15, 16, 25] ⟨(25, .v (.bool (decide (a5 > 100)))) :: (5, VI a5) :: (Q4 a k ws), []⟩ ?_
 cases h7 : (decide (a5 > 100))
 have g7 := of_decide_eq_false h7
 refine cnF ?_
 refine skn ?_
 refine EL.reg0 ?_
 refine owr 4 ⟨(2, VI (IntKind.i64.wrap (a + a5))) :: (28, VI (IntKind.i64.wrap (a + a5))) :: (Q6 a a5 k ws), []⟩ ?_
 have e8 := wr64 (n := a + a5) (by omega)
 rw [e8]
 refine owe 0 ⟨(2, VI (a + a5)) :: (28, VI (a + a5)) :: (Q6 a a5 k ws), []⟩ ?_
 refine iN ?_
 refine tN ?_
 refine EL.reg0 ?_
 refine owr 2 ⟨(16, VI (IntKind.i64.wrap ((k : Int) + 1))) :: (29, VI (IntKind.i64.wrap ((k : Int) + 1))) :: (Q7 a a5 ws), []⟩ ?_
 have e9 := wr64 (n := (k : Int) + 1) (by omega)
 rw [e9]
 refine owe 0 ⟨(Q8 a a5 k ws), []⟩ ?_
 refine tN ?_
 refine rE (live := [2, 14, 15, 16]) (src := []) (es := []) (y := (fun (k : Nat) (a : Int) => (⟨(Q4 a k ws), []⟩ : L3)) (k + 1) (a + a5)) ?_ trivial ?_ ⟨(k + 1), (a + a5), rfl, ?_, rfl⟩
 kernel_rfl
 omega
 focus (refine ⟨by omega, hl1, hl2, by omega, by omega, ?_⟩; rw [hs, ‹ws.drop k = _›, nodesGo, if_pos (by omega)])
 have g7 := of_decide_eq_true h7
 refine cnT ?_
 refine srl 2 [2, 3] ⟨[(3, VI 3), (2, VI 0)], []⟩ ?_
 refine rtr ?_
 refine iR ?_
 refine tR ?_
 refine tR ?_
 refine iR ?_
 refine tR ?_
 refine rqe (.tup [VI 0, VI 3]) ?_
 rotate_left
 have g6 := of_decide_eq_true h6
 refine owl 3 [2, 5, 14, 15, 16, 25] ⟨(25, .v (.bool true)) :: (5, VI a5) :: (Q4 a k ws), []⟩ ?_
 refine cnT ?_
 refine srl 2 [2, 3] ⟨[(3, VI 3), (2, VI 0)], []⟩ ?_
 refine rtr ?_
 refine iR ?_
 refine tR ?_
 refine tR ?_
 refine iR ?_
 refine tR ?_
 refine rqe (.tup [VI 0, VI 3]) ?_
 rotate_left
 have g2 := of_decide_eq_true h2
 have n2 : ((List.length ws) > 12) := by omega
 refine cnT ?_
 refine srl 2 [2, 3] ⟨[(3, VI 2), (2, VI 0)], []⟩ ?_
 refine EL.ret ?_
 refine iR ?_
 refine tR ?_
 refine rqe (.tup [VI 0, VI 2]) ?_
 rotate_left
 have g1 := bqT h1
 have n1 : ((List.length ws) = 0) := by omega
 refine cnT ?_
 refine srl 2 [2, 3] ⟨[(3, VI 8), (2, VI 0)], []⟩ ?_
 refine EL.ret ?_
 refine iR ?_
 refine tR ?_
 refine rqe (.tup [VI 0, VI 8]) ?_
 rotate_left
 all_goals (first | (rw [nodesP, if_pos (by omega)]; done) | (rw [nodesP, if_neg (by omega), if_pos (by omega)]; done) | (rw [nodesP, if_neg (by omega), if_neg (by omega), hs]; first | (rw [List.drop_eq_nil_of_le (by omega)]; rfl) | (rw [‹ws.drop k = _›, nodesGo, if_neg (by omega)]; done)) | trace_state)
section
variable (need : Int) (ws : List Int)
abbrev Q9 : LS := [(8, .lst 1 (ws.map cI)), (0, .lst 1 (ws.map cI)), (1, VI need)]
abbrev Q10 : LS := (9, .tup [VI ((nodesP ws).1), VI ((nodesP ws).2)]) :: (Q9 need ws)
abbrev Q11 : LS := [(6, VI ((nodesP ws).2)), (5, VI ((nodesP ws).1)), (1, VI need)]
abbrev Q12 : LS := [(16, .v (.bool true)), (5, VI ((nodesP ws).1)), (1, VI need)]
abbrev Q13 : LS := [(25, VI need), (16, .v (.bool false)), (5, VI ((nodesP ws).1)), (1, VI need)]
end
theorem qcheck_fn (ws : List Int) (need : Int) (hx : ws.length ≤ 9223372036854775807) : Fn Tryd.prog 26 [.lst 1 (ws.map cI), VI need] (VI (qcheckP ws need)) := by
 refine fnw F26_ok ?_
 refine srl 1 [0, 1] ⟨[(0, .lst 1 (ws.map cI)), (1, VI need)], []⟩ ?_
 refine srr 1 ⟨(Q9 need ws), []⟩ ?_
 refine owg [.lst 1 (ws.map cI)] ⟨(Q10 need ws), []⟩ (nodes_fn ws (by first | omega | (simp; omega))) ?_
 refine owl 5 [1, 5, 6] ⟨(Q11 need ws), []⟩ ?_
 refine EL.seq ?_
 refine EL.block ?_
 refine srl 3 [1, 5, 6, 12] ⟨(12, .v (.bool (((nodesP ws).2) != 0))) :: (Q11 need ws), []⟩ ?_
 cases h1 : (((nodesP ws).2) != 0)
 have g1 := bnF h1
 refine cnF ?_
 refine srr 3 ⟨(19, .v (.bool (decide (need < 1)))) :: (18, .v (.bool (decide (need < 1)))) :: (17, VI need) :: (12, .v (.bool false)) :: (Q11 need ws), []⟩ ?_
 cases h2 : (decide (need < 1))
 have g2 := of_decide_eq_false h2
 refine owl 5 [1, 5, 16] ⟨[(16, .v (.bool (decide (need > (nodesP ws).1)))), (5, VI ((nodesP ws).1)), (1, VI need)], []⟩ ?_
 cases h3 : (decide (need > (nodesP ws).1))
 have g3 := of_decide_eq_false h3
 refine cnF ?_
 refine srr 5 ⟨(24, .v (.bool (decide ((IntKind.i64.wrap (2 * need)) ≤ (nodesP ws).1)))) :: (28, .v (.bool (decide ((IntKind.i64.wrap (2 * need)) ≤ (nodesP ws).1)))) :: (27, VI ((nodesP ws).1)) :: (26, VI (IntKind.i64.wrap (2 * need))) :: (Q13 need ws), []⟩ ?_
 have e4 := wr64 (n := 2 * need) (by have hb := nodes_bd (ws := ws) (by assumption); omega)
 rw [e4]
 refine owl 0 [24] ⟨[(24, .v (.bool (decide ((2 * need) ≤ (nodesP ws).1))))], []⟩ ?_
 cases h5 : (decide ((2 * need) ≤ (nodesP ws).1))
 have g5 := of_decide_eq_false h5
 refine cnF ?_
 refine EL.skip ?_
 refine iN ?_
 refine tN ?_
 refine srl 1 [4] ⟨[(4, VI 0)], []⟩ ?_
 refine EL.ret ?_
 refine rqe (VI 0) ?_
 rotate_left
 have g5 := of_decide_eq_true h5
 refine cnT ?_
 refine srl 1 [4] ⟨[(4, VI 4)], []⟩ ?_
 refine EL.ret ?_
 refine iR ?_
 refine tR ?_
 refine rqe (VI 4) ?_
 rotate_left
 have g3 := of_decide_eq_true h3
 refine cnT ?_
 refine srl 1 [4] ⟨[(4, VI 3)], []⟩ ?_
 refine EL.ret ?_
 refine iR ?_
 refine tR ?_
 refine rqe (VI 3) ?_
 rotate_left
 have g2 := of_decide_eq_true h2
 refine owl 5 [1, 5, 16] ⟨(Q12 need ws), []⟩ ?_
 refine cnT ?_
 refine srl 1 [4] ⟨[(4, VI 3)], []⟩ ?_
 refine EL.ret ?_
 refine iR ?_
 refine tR ?_
 refine rqe (VI 3) ?_
 rotate_left
 have g1 := bnT h1
 refine cnT ?_
 refine srl 2 [4] ⟨[(4, VI ((nodesP ws).2))], []⟩ ?_
 refine EL.ret ?_
 refine iR ?_
 refine tR ?_
 refine rqe (VI ((nodesP ws).2)) ?_
 rotate_left
 all_goals ((refine congrArg (fun n => VI n) ?_; simp only [qcheckP]; (repeat' split) <;> first | rfl | omega | (exfalso; omega) | contradiction | trace_state))
section
variable (x : U64)
abbrev Q14 : LS := [(6, .v (.int .u64 (x.n : Int))), (5, .v (.int .u64 (x.n : Int))), (4, .v (.bool false)), (0, .v (.int .u64 (x.n : Int)))]
end
theorem tz_fn (x : U64) : Fn Tryd.prog 73 [.v (.int .u64 (x.n : Int))] (VI (tz x.n : Int)) := by
 refine fnw F73_ok ?_
 refine srl 1 [0] ⟨[(0, .v (.int .u64 (x.n : Int)))], []⟩ ?_
 refine EL.seq ?_
 refine srl 2 [0, 4] ⟨[(4, .v (.bool ((x.n : Int) == 0))), (0, .v (.int .u64 (x.n : Int)))], []⟩ ?_
 cases h1 : ((x.n : Int) == 0)
 have g1 := bqF h1
 refine cnF ?_
 refine skn ?_
 refine srr 6 ⟨(10, .v (.int .u64 ((IntKind.u64.wrap ((bits .and .u64 (x.n : Int) (IntKind.u64.wrap (0 - (x.n : Int)))) * 285870213051353865)).fdiv (2 ^ (min 58 IntKind.u64.bits))))) :: (9, .v (.int .u64 (IntKind.u64.wrap ((bits .and .u64 (x.n : Int) (IntKind.u64.wrap (0 - (x.n : Int)))) * 285870213051353865)))) :: (8, .v (.int .u64 (bits .and .u64 (x.n : Int) (IntKind.u64.wrap (0 - (x.n : Int)))))) :: (7, .v (.int .u64 (IntKind.u64.wrap (0 - (x.n : Int))))) :: (Q14 x), []⟩ ?_
 refine ow2 ⟨(11, .pim glC (0 + Int.toNat ((IntKind.u64.wrap ((bits .and .u64 (x.n : Int) (IntKind.u64.wrap (0 - (x.n : Int)))) * 285870213051353865)).fdiv (2 ^ (min 58 IntKind.u64.bits))) * 1)) :: (10, .v (.int .u64 ((IntKind.u64.wrap ((bits .and .u64 (x.n : Int) (IntKind.u64.wrap (0 - (x.n : Int)))) * 285870213051353865)).fdiv (2 ^ (min 58 IntKind.u64.bits))))) :: (9, .v (.int .u64 (IntKind.u64.wrap ((bits .and .u64 (x.n : Int) (IntKind.u64.wrap (0 - (x.n : Int)))) * 285870213051353865)))) :: (8, .v (.int .u64 (bits .and .u64 (x.n : Int) (IntKind.u64.wrap (0 - (x.n : Int)))))) :: (7, .v (.int .u64 (IntKind.u64.wrap (0 - (x.n : Int))))) :: (Q14 x), []⟩ (opE_iapP 1 64 (.c (.pim glC 0)) (.s 10) glC 0 .u64 ((IntKind.u64.wrap ((bits .and .u64 (x.n : Int) (IntKind.u64.wrap (0 - (x.n : Int)))) * 285870213051353865)).fdiv (2 ^ (min 58 IntKind.u64.bits))) (by kernel_rfl) (by kernel_rfl) (by kernel_rfl) (by kernel_rfl) ⟨(tz_res (x := x.n) (by omega) x.lt).1.1, (tz_res (x := x.n) (by omega) x.lt).1.2⟩) ?_
 refine ow2 ⟨(12, .v (.int .u8 (glZ.getD (Int.toNat ((IntKind.u64.wrap ((bits .and .u64 (x.n : Int) (IntKind.u64.wrap (0 - (x.n : Int)))) * 285870213051353865)).fdiv (2 ^ (min 58 IntKind.u64.bits)))) 0))) :: (11, .pim glC (0 + Int.toNat ((IntKind.u64.wrap ((bits .and .u64 (x.n : Int) (IntKind.u64.wrap (0 - (x.n : Int)))) * 285870213051353865)).fdiv (2 ^ (min 58 IntKind.u64.bits))) * 1)) :: (10, .v (.int .u64 ((IntKind.u64.wrap ((bits .and .u64 (x.n : Int) (IntKind.u64.wrap (0 - (x.n : Int)))) * 285870213051353865)).fdiv (2 ^ (min 58 IntKind.u64.bits))))) :: (9, .v (.int .u64 (IntKind.u64.wrap ((bits .and .u64 (x.n : Int) (IntKind.u64.wrap (0 - (x.n : Int)))) * 285870213051353865)))) :: (8, .v (.int .u64 (bits .and .u64 (x.n : Int) (IntKind.u64.wrap (0 - (x.n : Int)))))) :: (7, .v (.int .u64 (IntKind.u64.wrap (0 - (x.n : Int))))) :: (Q14 x), []⟩ (opE_ldP none (.s 11) glC (0 + Int.toNat ((IntKind.u64.wrap ((bits .and .u64 (x.n : Int) (IntKind.u64.wrap (0 - (x.n : Int)))) * 285870213051353865)).fdiv (2 ^ (min 58 IntKind.u64.bits))) * 1) (.v (.int .u8 (glZ.getD (Int.toNat ((IntKind.u64.wrap ((bits .and .u64 (x.n : Int) (IntKind.u64.wrap (0 - (x.n : Int)))) * 285870213051353865)).fdiv (2 ^ (min 58 IntKind.u64.bits)))) 0))) (by kernel_rfl) (by kernel_rfl) (by kernel_rfl) (gl_ld (by have ht := tz_res (x := x.n) (by omega) x.lt; rw [show glZ.length = 64 from rfl]; omega))) ?_
 refine owl 2 [2] ⟨[(2, VI (IntKind.i64.wrap ((glZ.getD (Int.toNat ((IntKind.u64.wrap ((bits .and .u64 (x.n : Int) (IntKind.u64.wrap (0 - (x.n : Int)))) * 285870213051353865)).fdiv (2 ^ (min 58 IntKind.u64.bits)))) 0))))], []⟩ ?_
 refine EL.ret ?_
 refine rqe (VI (IntKind.i64.wrap ((glZ.getD (Int.toNat ((IntKind.u64.wrap ((bits .and .u64 (x.n : Int) (IntKind.u64.wrap (0 - (x.n : Int)))) * 285870213051353865)).fdiv (2 ^ (min 58 IntKind.u64.bits)))) 0)))) ?_
 rotate_left
 have g1 := bqT h1
 refine cnT ?_
 refine srl 1 [2] ⟨[(2, VI 64)], []⟩ ?_
 refine rtr ?_
 refine rqe (VI 64) ?_
 rotate_left
 all_goals ((refine congrArg (fun n => VI n) ?_; first | (have h0 : x.n = 0 := (by omega); rw [h0, tz, if_pos rfl]; rfl) | (have ht := tz_res (x := x.n) (by omega) x.lt; rw [ht.2]; have := tz_lt 64 x.n (by omega) (by simpa using x.lt); exact wr64 (by omega)) | trace_state))
section
variable (b14 : UInt8) (b21 : UInt8) (b26 : UInt8) (b35 : UInt8) (b40 : UInt8) (b47 : UInt8) (b52 : UInt8) (b9 : UInt8) (x : U64)
abbrev Q15 : LS := [(5, .v (.int .u64 (x.n : Int))), (4, .v (.bool true)), (2, VI 0)]
abbrev Q16 : LS := [(9, .v (.int .u64 ((x.n / 4294967296 : Nat) : Int))), (8, .v (.bool true)), (2, VI 32)]
abbrev Q17 : LS := [(2, VI 48), (12, VI 48), (11, VI 32), (0, .v (.int .u64 (((x.n / 4294967296 : Nat) / 65536 : Nat) : Int)))]
abbrev Q18 : LS := [(15, .v (.int .u64 (((x.n / 4294967296 : Nat) / 65536 : Nat) : Int))), (14, .v (.bool true)), (2, VI 48)]
abbrev Q19 : LS := [(2, VI 56), (18, VI 56), (17, VI 48), (0, .v (.int .u64 ((((x.n / 4294967296 : Nat) / 65536 : Nat) / 256 : Nat) : Int)))]
abbrev Q20 : LS := (20, .v (.int .u64 ((((x.n / 4294967296 : Nat) / 65536 : Nat) / 256 : Nat) : Int))) :: (19, VI 56) :: (Q19 x)
abbrev Q21 : LS := (22, .v (.int .u8 (UInt8.toNat b9 : Int))) :: (21, .v (.int .u8 (((((x.n / 4294967296 : Nat) / 65536 : Nat) / 256 : Nat) : Int)))) :: (Q20 x)
abbrev Q22 : LS := [(22, .v (.int .u8 (UInt8.toNat b9 : Int))), (21, .v (.int .u8 (((((x.n / 4294967296 : Nat) / 65536 : Nat) / 256 : Nat) : Int)))), (20, .v (.int .u64 ((((x.n / 4294967296 : Nat) / 65536 : Nat) / 256 : Nat) : Int))), (19, VI 56), (18, VI 56), (17, VI 48), (0, .v (.int .u64 ((((x.n / 4294967296 : Nat) / 65536 : Nat) / 256 : Nat) : Int)))]
abbrev Q23 : LS := [(20, .v (.int .u64 (((x.n / 4294967296 : Nat) / 65536 : Nat) : Int))), (19, VI 48), (14, .v (.bool false)), (2, VI 48), (0, .v (.int .u64 (((x.n / 4294967296 : Nat) / 65536 : Nat) : Int)))]
abbrev Q24 : LS := (22, .v (.int .u8 (UInt8.toNat b14 : Int))) :: (21, .v (.int .u8 ((((x.n / 4294967296 : Nat) / 65536 : Nat) : Int)))) :: (Q23 x)
abbrev Q25 : LS := [(22, .v (.int .u8 (UInt8.toNat b14 : Int))), (21, .v (.int .u8 ((((x.n / 4294967296 : Nat) / 65536 : Nat) : Int)))), (20, .v (.int .u64 (((x.n / 4294967296 : Nat) / 65536 : Nat) : Int))), (19, VI 48), (14, .v (.bool false)), (0, .v (.int .u64 (((x.n / 4294967296 : Nat) / 65536 : Nat) : Int)))]
abbrev Q26 : LS := [(15, .v (.int .u64 ((x.n / 4294967296 : Nat) : Int))), (14, .v (.bool true)), (2, VI 32)]
abbrev Q27 : LS := [(2, VI 40), (18, VI 40), (17, VI 32), (0, .v (.int .u64 (((x.n / 4294967296 : Nat) / 256 : Nat) : Int)))]
abbrev Q28 : LS := (20, .v (.int .u64 (((x.n / 4294967296 : Nat) / 256 : Nat) : Int))) :: (19, VI 40) :: (Q27 x)
abbrev Q29 : LS := (22, .v (.int .u8 (UInt8.toNat b21 : Int))) :: (21, .v (.int .u8 ((((x.n / 4294967296 : Nat) / 256 : Nat) : Int)))) :: (Q28 x)
abbrev Q30 : LS := [(22, .v (.int .u8 (UInt8.toNat b21 : Int))), (21, .v (.int .u8 ((((x.n / 4294967296 : Nat) / 256 : Nat) : Int)))), (20, .v (.int .u64 (((x.n / 4294967296 : Nat) / 256 : Nat) : Int))), (19, VI 40), (18, VI 40), (17, VI 32), (0, .v (.int .u64 (((x.n / 4294967296 : Nat) / 256 : Nat) : Int)))]
abbrev Q31 : LS := [(20, .v (.int .u64 ((x.n / 4294967296 : Nat) : Int))), (19, VI 32), (14, .v (.bool false)), (2, VI 32), (0, .v (.int .u64 ((x.n / 4294967296 : Nat) : Int)))]
abbrev Q32 : LS := (22, .v (.int .u8 (UInt8.toNat b26 : Int))) :: (21, .v (.int .u8 (((x.n / 4294967296 : Nat) : Int)))) :: (Q31 x)
abbrev Q33 : LS := [(22, .v (.int .u8 (UInt8.toNat b26 : Int))), (21, .v (.int .u8 (((x.n / 4294967296 : Nat) : Int)))), (20, .v (.int .u64 ((x.n / 4294967296 : Nat) : Int))), (19, VI 32), (14, .v (.bool false)), (0, .v (.int .u64 ((x.n / 4294967296 : Nat) : Int)))]
abbrev Q34 : LS := [(9, .v (.int .u64 (x.n : Int))), (8, .v (.bool true)), (2, VI 0)]
abbrev Q35 : LS := [(2, VI 16), (12, VI 16), (11, VI 0), (0, .v (.int .u64 ((x.n / 65536 : Nat) : Int)))]
abbrev Q36 : LS := [(15, .v (.int .u64 ((x.n / 65536 : Nat) : Int))), (14, .v (.bool true)), (2, VI 16)]
abbrev Q37 : LS := [(2, VI 24), (18, VI 24), (17, VI 16), (0, .v (.int .u64 (((x.n / 65536 : Nat) / 256 : Nat) : Int)))]
abbrev Q38 : LS := (20, .v (.int .u64 (((x.n / 65536 : Nat) / 256 : Nat) : Int))) :: (19, VI 24) :: (Q37 x)
abbrev Q39 : LS := (22, .v (.int .u8 (UInt8.toNat b35 : Int))) :: (21, .v (.int .u8 ((((x.n / 65536 : Nat) / 256 : Nat) : Int)))) :: (Q38 x)
abbrev Q40 : LS := [(22, .v (.int .u8 (UInt8.toNat b35 : Int))), (21, .v (.int .u8 ((((x.n / 65536 : Nat) / 256 : Nat) : Int)))), (20, .v (.int .u64 (((x.n / 65536 : Nat) / 256 : Nat) : Int))), (19, VI 24), (18, VI 24), (17, VI 16), (0, .v (.int .u64 (((x.n / 65536 : Nat) / 256 : Nat) : Int)))]
abbrev Q41 : LS := [(20, .v (.int .u64 ((x.n / 65536 : Nat) : Int))), (19, VI 16), (14, .v (.bool false)), (2, VI 16), (0, .v (.int .u64 ((x.n / 65536 : Nat) : Int)))]
abbrev Q42 : LS := (22, .v (.int .u8 (UInt8.toNat b40 : Int))) :: (21, .v (.int .u8 (((x.n / 65536 : Nat) : Int)))) :: (Q41 x)
abbrev Q43 : LS := [(22, .v (.int .u8 (UInt8.toNat b40 : Int))), (21, .v (.int .u8 (((x.n / 65536 : Nat) : Int)))), (20, .v (.int .u64 ((x.n / 65536 : Nat) : Int))), (19, VI 16), (14, .v (.bool false)), (0, .v (.int .u64 ((x.n / 65536 : Nat) : Int)))]
abbrev Q44 : LS := [(15, .v (.int .u64 (x.n : Int))), (14, .v (.bool true)), (2, VI 0)]
abbrev Q45 : LS := [(2, VI 8), (18, VI 8), (17, VI 0), (0, .v (.int .u64 ((x.n / 256 : Nat) : Int)))]
abbrev Q46 : LS := (20, .v (.int .u64 ((x.n / 256 : Nat) : Int))) :: (19, VI 8) :: (Q45 x)
abbrev Q47 : LS := (22, .v (.int .u8 (UInt8.toNat b47 : Int))) :: (21, .v (.int .u8 (((x.n / 256 : Nat) : Int)))) :: (Q46 x)
abbrev Q48 : LS := [(22, .v (.int .u8 (UInt8.toNat b47 : Int))), (21, .v (.int .u8 (((x.n / 256 : Nat) : Int)))), (20, .v (.int .u64 ((x.n / 256 : Nat) : Int))), (19, VI 8), (18, VI 8), (17, VI 0), (0, .v (.int .u64 ((x.n / 256 : Nat) : Int)))]
abbrev Q49 : LS := [(20, .v (.int .u64 (x.n : Int))), (19, VI 0), (14, .v (.bool false)), (2, VI 0), (0, .v (.int .u64 (x.n : Int)))]
abbrev Q50 : LS := (22, .v (.int .u8 (UInt8.toNat b52 : Int))) :: (21, .v (.int .u8 ((x.n : Int)))) :: (Q49 x)
abbrev Q51 : LS := [(22, .v (.int .u8 (UInt8.toNat b52 : Int))), (21, .v (.int .u8 ((x.n : Int)))), (20, .v (.int .u64 (x.n : Int))), (19, VI 0), (14, .v (.bool false)), (0, .v (.int .u64 (x.n : Int)))]
end
theorem len64_fn (x : U64) : Fn Tryd.prog 64 [.v (.int .u64 (x.n : Int))] (VI (len64 x.n : Int)) := by
 have hlt := x.lt
 have hz : l8s.size = 256 := rfl
 refine fnw F64_ok ?_
 refine srl 1 [0, 2] ⟨[(2, VI 0), (0, .v (.int .u64 (x.n : Int)))], []⟩ ?_
 refine EL.seq ?_
 refine srl 2 [0, 2, 4] ⟨[(4, .v (.bool (decide ((x.n : Int) ≥ 4294967296)))), (2, VI 0), (0, .v (.int .u64 (x.n : Int)))], []⟩ ?_
 cases h1 : (decide ((x.n : Int) ≥ 4294967296))
 have g1 := of_decide_eq_false h1
 refine cnF ?_
 refine skn ?_
 refine EL.seq ?_
 refine srl 2 [0, 2, 8] ⟨[(8, .v (.bool (decide ((x.n : Int) ≥ 65536)))), (2, VI 0), (0, .v (.int .u64 (x.n : Int)))], []⟩ ?_
 cases h29 : (decide ((x.n : Int) ≥ 65536))
 have g29 := of_decide_eq_false h29
 refine cnF ?_
 refine skn ?_
 refine EL.seq ?_
 refine srl 2 [0, 2, 14] ⟨[(14, .v (.bool (decide ((x.n : Int) ≥ 256)))), (2, VI 0), (0, .v (.int .u64 (x.n : Int)))], []⟩ ?_
 cases h43 : (decide ((x.n : Int) ≥ 256))
 have g43 := of_decide_eq_false h43
 refine cnF ?_
 refine skn ?_
 refine srr 3 ⟨(21, .v (.int .u8 (IntKind.u8.wrap ((x.n : Int))))) :: (Q49 x), []⟩ ?_
 have e51 : IntKind.u8.wrap ((x.n : Int)) = (x.n : Int) := wr8 (by omega)
 rw [e51]
 obtain ⟨b52, hb52⟩ : ∃ b, l8s[Int.toNat ((x.n : Int))]? = some b := six_ex ⟨by omega, by omega⟩
 have qb52 := UInt8.toNat_lt b52
 refine ow2 ⟨(Q50 b52 x), []⟩ (opE_six l8s (.c (.v (.string l8s))) (.s 21) .u8 ((x.n : Int)) b52 (by kernel_rfl) (by kernel_rfl) (by kernel_rfl) (by kernel_rfl) (by omega) hb52) ?_
 refine owr 3 ⟨(2, VI (IntKind.i64.wrap (0 + (IntKind.i64.wrap ((UInt8.toNat b52 : Int)))))) :: (24, VI (IntKind.i64.wrap (0 + (IntKind.i64.wrap ((UInt8.toNat b52 : Int)))))) :: (23, VI (IntKind.i64.wrap ((UInt8.toNat b52 : Int)))) :: (Q51 b52 x), []⟩ ?_
 have e53 := wr64 (n := (UInt8.toNat b52 : Int)) (by omega)
 rw [e53]
 have e54 := wr64 (n := 0 + ((UInt8.toNat b52 : Int))) (by omega)
 rw [e54]
 refine owl 0 [2] ⟨[(2, VI (0 + ((UInt8.toNat b52 : Int))))], []⟩ ?_
 refine EL.ret ?_
 refine rqe (VI (0 + ((UInt8.toNat b52 : Int)))) ?_
 rotate_left
 have g43 := of_decide_eq_true h43
 refine cnT ?_
 refine srr 3 ⟨(0, .v (.int .u64 (((x.n : Int)).fdiv (2 ^ (min 8 IntKind.u64.bits))))) :: (16, .v (.int .u64 (((x.n : Int)).fdiv (2 ^ (min 8 IntKind.u64.bits))))) :: (Q44 x), []⟩ ?_
 have e44 : ((x.n : Int)).fdiv (2 ^ (min 8 IntKind.u64.bits)) = ((x.n / 256 : Nat) : Int) := fdn8 (by omega)
 rw [e44]
 refine owl 0 [0, 2] ⟨[(0, .v (.int .u64 ((x.n / 256 : Nat) : Int))), (2, VI 0)], []⟩ ?_
 refine roe 3 ⟨(Q45 x), []⟩ ?_
 refine tN ?_
 refine srr 3 ⟨(21, .v (.int .u8 (IntKind.u8.wrap (((x.n / 256 : Nat) : Int))))) :: (Q46 x), []⟩ ?_
 have e46 : IntKind.u8.wrap (((x.n / 256 : Nat) : Int)) = ((x.n / 256 : Nat) : Int) := wr8 (by omega)
 rw [e46]
 obtain ⟨b47, hb47⟩ : ∃ b, l8s[Int.toNat (((x.n / 256 : Nat) : Int))]? = some b := six_ex ⟨by omega, by omega⟩
 have qb47 := UInt8.toNat_lt b47
 refine ow2 ⟨(Q47 b47 x), []⟩ (opE_six l8s (.c (.v (.string l8s))) (.s 21) .u8 (((x.n / 256 : Nat) : Int)) b47 (by kernel_rfl) (by kernel_rfl) (by kernel_rfl) (by kernel_rfl) (by omega) hb47) ?_
 refine owr 3 ⟨(2, VI (IntKind.i64.wrap (8 + (IntKind.i64.wrap ((UInt8.toNat b47 : Int)))))) :: (24, VI (IntKind.i64.wrap (8 + (IntKind.i64.wrap ((UInt8.toNat b47 : Int)))))) :: (23, VI (IntKind.i64.wrap ((UInt8.toNat b47 : Int)))) :: (Q48 b47 x), []⟩ ?_
 have e48 := wr64 (n := (UInt8.toNat b47 : Int)) (by omega)
 rw [e48]
 have e49 := wr64 (n := 8 + ((UInt8.toNat b47 : Int))) (by omega)
 rw [e49]
 refine owl 0 [2] ⟨[(2, VI (8 + ((UInt8.toNat b47 : Int))))], []⟩ ?_
 refine EL.ret ?_
 refine rqe (VI (8 + ((UInt8.toNat b47 : Int)))) ?_
 rotate_left
 have g29 := of_decide_eq_true h29
 refine cnT ?_
 refine srr 3 ⟨(0, .v (.int .u64 (((x.n : Int)).fdiv (2 ^ (min 16 IntKind.u64.bits))))) :: (10, .v (.int .u64 (((x.n : Int)).fdiv (2 ^ (min 16 IntKind.u64.bits))))) :: (Q34 x), []⟩ ?_
 have e30 : ((x.n : Int)).fdiv (2 ^ (min 16 IntKind.u64.bits)) = ((x.n / 65536 : Nat) : Int) := fdn16 (by omega)
 rw [e30]
 refine owl 0 [0, 2] ⟨[(0, .v (.int .u64 ((x.n / 65536 : Nat) : Int))), (2, VI 0)], []⟩ ?_
 refine roe 3 ⟨(Q35 x), []⟩ ?_
 refine tN ?_
 refine EL.seq ?_
 refine srl 2 [0, 2, 14] ⟨[(14, .v (.bool (decide (((x.n / 65536 : Nat) : Int) ≥ 256)))), (2, VI 16), (0, .v (.int .u64 ((x.n / 65536 : Nat) : Int)))], []⟩ ?_
 cases h31 : (decide (((x.n / 65536 : Nat) : Int) ≥ 256))
 have g31 := of_decide_eq_false h31
 refine cnF ?_
 refine skn ?_
 refine srr 3 ⟨(21, .v (.int .u8 (IntKind.u8.wrap (((x.n / 65536 : Nat) : Int))))) :: (Q41 x), []⟩ ?_
 have e39 : IntKind.u8.wrap (((x.n / 65536 : Nat) : Int)) = ((x.n / 65536 : Nat) : Int) := wr8 (by omega)
 rw [e39]
 obtain ⟨b40, hb40⟩ : ∃ b, l8s[Int.toNat (((x.n / 65536 : Nat) : Int))]? = some b := six_ex ⟨by omega, by omega⟩
 have qb40 := UInt8.toNat_lt b40
 refine ow2 ⟨(Q42 b40 x), []⟩ (opE_six l8s (.c (.v (.string l8s))) (.s 21) .u8 (((x.n / 65536 : Nat) : Int)) b40 (by kernel_rfl) (by kernel_rfl) (by kernel_rfl) (by kernel_rfl) (by omega) hb40) ?_
 refine owr 3 ⟨(2, VI (IntKind.i64.wrap (16 + (IntKind.i64.wrap ((UInt8.toNat b40 : Int)))))) :: (24, VI (IntKind.i64.wrap (16 + (IntKind.i64.wrap ((UInt8.toNat b40 : Int)))))) :: (23, VI (IntKind.i64.wrap ((UInt8.toNat b40 : Int)))) :: (Q43 b40 x), []⟩ ?_
 have e41 := wr64 (n := (UInt8.toNat b40 : Int)) (by omega)
 rw [e41]
 have e42 := wr64 (n := 16 + ((UInt8.toNat b40 : Int))) (by omega)
 rw [e42]
 refine owl 0 [2] ⟨[(2, VI (16 + ((UInt8.toNat b40 : Int))))], []⟩ ?_
 refine EL.ret ?_
 refine rqe (VI (16 + ((UInt8.toNat b40 : Int)))) ?_
 rotate_left
 have g31 := of_decide_eq_true h31
 refine cnT ?_
 refine srr 3 ⟨(0, .v (.int .u64 ((((x.n / 65536 : Nat) : Int)).fdiv (2 ^ (min 8 IntKind.u64.bits))))) :: (16, .v (.int .u64 ((((x.n / 65536 : Nat) : Int)).fdiv (2 ^ (min 8 IntKind.u64.bits))))) :: (Q36 x), []⟩ ?_
 have e32 : (((x.n / 65536 : Nat) : Int)).fdiv (2 ^ (min 8 IntKind.u64.bits)) = (((x.n / 65536 : Nat) / 256 : Nat) : Int) := fdn8 (by omega)
 rw [e32]
 refine owl 0 [0, 2] ⟨[(0, .v (.int .u64 (((x.n / 65536 : Nat) / 256 : Nat) : Int))), (2, VI 16)], []⟩ ?_
 refine roe 3 ⟨(Q37 x), []⟩ ?_
 refine tN ?_
 refine srr 3 ⟨(21, .v (.int .u8 (IntKind.u8.wrap ((((x.n / 65536 : Nat) / 256 : Nat) : Int))))) :: (Q38 x), []⟩ ?_
 have e34 : IntKind.u8.wrap ((((x.n / 65536 : Nat) / 256 : Nat) : Int)) = (((x.n / 65536 : Nat) / 256 : Nat) : Int) := wr8 (by omega)
 rw [e34]
 obtain ⟨b35, hb35⟩ : ∃ b, l8s[Int.toNat ((((x.n / 65536 : Nat) / 256 : Nat) : Int))]? = some b := six_ex ⟨by omega, by omega⟩
 have qb35 := UInt8.toNat_lt b35
 refine ow2 ⟨(Q39 b35 x), []⟩ (opE_six l8s (.c (.v (.string l8s))) (.s 21) .u8 ((((x.n / 65536 : Nat) / 256 : Nat) : Int)) b35 (by kernel_rfl) (by kernel_rfl) (by kernel_rfl) (by kernel_rfl) (by omega) hb35) ?_
 refine owr 3 ⟨(2, VI (IntKind.i64.wrap (24 + (IntKind.i64.wrap ((UInt8.toNat b35 : Int)))))) :: (24, VI (IntKind.i64.wrap (24 + (IntKind.i64.wrap ((UInt8.toNat b35 : Int)))))) :: (23, VI (IntKind.i64.wrap ((UInt8.toNat b35 : Int)))) :: (Q40 b35 x), []⟩ ?_
 have e36 := wr64 (n := (UInt8.toNat b35 : Int)) (by omega)
 rw [e36]
 have e37 := wr64 (n := 24 + ((UInt8.toNat b35 : Int))) (by omega)
 rw [e37]
 refine owl 0 [2] ⟨[(2, VI (24 + ((UInt8.toNat b35 : Int))))], []⟩ ?_
 refine EL.ret ?_
 refine rqe (VI (24 + ((UInt8.toNat b35 : Int)))) ?_
 rotate_left
 have g1 := of_decide_eq_true h1
 refine cnT ?_
 refine srr 3 ⟨(0, .v (.int .u64 (((x.n : Int)).fdiv (2 ^ (min 32 IntKind.u64.bits))))) :: (6, .v (.int .u64 (((x.n : Int)).fdiv (2 ^ (min 32 IntKind.u64.bits))))) :: (Q15 x), []⟩ ?_
 have e2 : ((x.n : Int)).fdiv (2 ^ (min 32 IntKind.u64.bits)) = ((x.n / 4294967296 : Nat) : Int) := fdn32 (by omega)
 rw [e2]
 refine owl 0 [0] ⟨[(0, .v (.int .u64 ((x.n / 4294967296 : Nat) : Int)))], []⟩ ?_
 refine roe 1 ⟨[(2, VI 32), (0, .v (.int .u64 ((x.n / 4294967296 : Nat) : Int)))], []⟩ ?_
 refine tN ?_
 refine EL.seq ?_
 refine srl 2 [0, 2, 8] ⟨[(8, .v (.bool (decide (((x.n / 4294967296 : Nat) : Int) ≥ 65536)))), (2, VI 32), (0, .v (.int .u64 ((x.n / 4294967296 : Nat) : Int)))], []⟩ ?_
 cases h3 : (decide (((x.n / 4294967296 : Nat) : Int) ≥ 65536))
 have g3 := of_decide_eq_false h3
 refine cnF ?_
 refine skn ?_
 refine EL.seq ?_
 refine srl 2 [0, 2, 14] ⟨[(14, .v (.bool (decide (((x.n / 4294967296 : Nat) : Int) ≥ 256)))), (2, VI 32), (0, .v (.int .u64 ((x.n / 4294967296 : Nat) : Int)))], []⟩ ?_
 cases h17 : (decide (((x.n / 4294967296 : Nat) : Int) ≥ 256))
 have g17 := of_decide_eq_false h17
 refine cnF ?_
 refine skn ?_
 refine srr 3 ⟨(21, .v (.int .u8 (IntKind.u8.wrap (((x.n / 4294967296 : Nat) : Int))))) :: (Q31 x), []⟩ ?_
 have e25 : IntKind.u8.wrap (((x.n / 4294967296 : Nat) : Int)) = ((x.n / 4294967296 : Nat) : Int) := wr8 (by omega)
 rw [e25]
 obtain ⟨b26, hb26⟩ : ∃ b, l8s[Int.toNat (((x.n / 4294967296 : Nat) : Int))]? = some b := six_ex ⟨by omega, by omega⟩
 have qb26 := UInt8.toNat_lt b26
 refine ow2 ⟨(Q32 b26 x), []⟩ (opE_six l8s (.c (.v (.string l8s))) (.s 21) .u8 (((x.n / 4294967296 : Nat) : Int)) b26 (by kernel_rfl) (by kernel_rfl) (by kernel_rfl) (by kernel_rfl) (by omega) hb26) ?_
 refine owr 3 ⟨(2, VI (IntKind.i64.wrap (32 + (IntKind.i64.wrap ((UInt8.toNat b26 : Int)))))) :: (24, VI (IntKind.i64.wrap (32 + (IntKind.i64.wrap ((UInt8.toNat b26 : Int)))))) :: (23, VI (IntKind.i64.wrap ((UInt8.toNat b26 : Int)))) :: (Q33 b26 x), []⟩ ?_
 have e27 := wr64 (n := (UInt8.toNat b26 : Int)) (by omega)
 rw [e27]
 have e28 := wr64 (n := 32 + ((UInt8.toNat b26 : Int))) (by omega)
 rw [e28]
 refine owl 0 [2] ⟨[(2, VI (32 + ((UInt8.toNat b26 : Int))))], []⟩ ?_
 refine EL.ret ?_
 refine rqe (VI (32 + ((UInt8.toNat b26 : Int)))) ?_
 rotate_left
 have g17 := of_decide_eq_true h17
 refine cnT ?_
 refine srr 3 ⟨(0, .v (.int .u64 ((((x.n / 4294967296 : Nat) : Int)).fdiv (2 ^ (min 8 IntKind.u64.bits))))) :: (16, .v (.int .u64 ((((x.n / 4294967296 : Nat) : Int)).fdiv (2 ^ (min 8 IntKind.u64.bits))))) :: (Q26 x), []⟩ ?_
 have e18 : (((x.n / 4294967296 : Nat) : Int)).fdiv (2 ^ (min 8 IntKind.u64.bits)) = (((x.n / 4294967296 : Nat) / 256 : Nat) : Int) := fdn8 (by omega)
 rw [e18]
 refine owl 0 [0, 2] ⟨[(0, .v (.int .u64 (((x.n / 4294967296 : Nat) / 256 : Nat) : Int))), (2, VI 32)], []⟩ ?_
 refine roe 3 ⟨(Q27 x), []⟩ ?_
 refine tN ?_
 refine srr 3 ⟨(21, .v (.int .u8 (IntKind.u8.wrap ((((x.n / 4294967296 : Nat) / 256 : Nat) : Int))))) :: (Q28 x), []⟩ ?_
 have e20 : IntKind.u8.wrap ((((x.n / 4294967296 : Nat) / 256 : Nat) : Int)) = (((x.n / 4294967296 : Nat) / 256 : Nat) : Int) := wr8 (by omega)
 rw [e20]
 obtain ⟨b21, hb21⟩ : ∃ b, l8s[Int.toNat ((((x.n / 4294967296 : Nat) / 256 : Nat) : Int))]? = some b := six_ex ⟨by omega, by omega⟩
 have qb21 := UInt8.toNat_lt b21
 refine ow2 ⟨(Q29 b21 x), []⟩ (opE_six l8s (.c (.v (.string l8s))) (.s 21) .u8 ((((x.n / 4294967296 : Nat) / 256 : Nat) : Int)) b21 (by kernel_rfl) (by kernel_rfl) (by kernel_rfl) (by kernel_rfl) (by omega) hb21) ?_
 refine owr 3 ⟨(2, VI (IntKind.i64.wrap (40 + (IntKind.i64.wrap ((UInt8.toNat b21 : Int)))))) :: (24, VI (IntKind.i64.wrap (40 + (IntKind.i64.wrap ((UInt8.toNat b21 : Int)))))) :: (23, VI (IntKind.i64.wrap ((UInt8.toNat b21 : Int)))) :: (Q30 b21 x), []⟩ ?_
 have e22 := wr64 (n := (UInt8.toNat b21 : Int)) (by omega)
 rw [e22]
 have e23 := wr64 (n := 40 + ((UInt8.toNat b21 : Int))) (by omega)
 rw [e23]
 refine owl 0 [2] ⟨[(2, VI (40 + ((UInt8.toNat b21 : Int))))], []⟩ ?_
 refine EL.ret ?_
 refine rqe (VI (40 + ((UInt8.toNat b21 : Int)))) ?_
 rotate_left
 have g3 := of_decide_eq_true h3
 refine cnT ?_
 refine srr 3 ⟨(0, .v (.int .u64 ((((x.n / 4294967296 : Nat) : Int)).fdiv (2 ^ (min 16 IntKind.u64.bits))))) :: (10, .v (.int .u64 ((((x.n / 4294967296 : Nat) : Int)).fdiv (2 ^ (min 16 IntKind.u64.bits))))) :: (Q16 x), []⟩ ?_
 have e4 : (((x.n / 4294967296 : Nat) : Int)).fdiv (2 ^ (min 16 IntKind.u64.bits)) = (((x.n / 4294967296 : Nat) / 65536 : Nat) : Int) := fdn16 (by omega)
 rw [e4]
 refine owl 0 [0, 2] ⟨[(0, .v (.int .u64 (((x.n / 4294967296 : Nat) / 65536 : Nat) : Int))), (2, VI 32)], []⟩ ?_
 refine roe 3 ⟨(Q17 x), []⟩ ?_
 refine tN ?_
 refine EL.seq ?_
 refine srl 2 [0, 2, 14] ⟨[(14, .v (.bool (decide ((((x.n / 4294967296 : Nat) / 65536 : Nat) : Int) ≥ 256)))), (2, VI 48), (0, .v (.int .u64 (((x.n / 4294967296 : Nat) / 65536 : Nat) : Int)))], []⟩ ?_
 cases h5 : (decide ((((x.n / 4294967296 : Nat) / 65536 : Nat) : Int) ≥ 256))
 have g5 := of_decide_eq_false h5
 refine cnF ?_
 refine skn ?_
 refine srr 3 ⟨(21, .v (.int .u8 (IntKind.u8.wrap ((((x.n / 4294967296 : Nat) / 65536 : Nat) : Int))))) :: (Q23 x), []⟩ ?_
 have e13 : IntKind.u8.wrap ((((x.n / 4294967296 : Nat) / 65536 : Nat) : Int)) = (((x.n / 4294967296 : Nat) / 65536 : Nat) : Int) := wr8 (by omega)
 rw [e13]
 obtain ⟨b14, hb14⟩ : ∃ b, l8s[Int.toNat ((((x.n / 4294967296 : Nat) / 65536 : Nat) : Int))]? = some b := six_ex ⟨by omega, by omega⟩
 have qb14 := UInt8.toNat_lt b14
 refine ow2 ⟨(Q24 b14 x), []⟩ (opE_six l8s (.c (.v (.string l8s))) (.s 21) .u8 ((((x.n / 4294967296 : Nat) / 65536 : Nat) : Int)) b14 (by kernel_rfl) (by kernel_rfl) (by kernel_rfl) (by kernel_rfl) (by omega) hb14) ?_
 refine owr 3 ⟨(2, VI (IntKind.i64.wrap (48 + (IntKind.i64.wrap ((UInt8.toNat b14 : Int)))))) :: (24, VI (IntKind.i64.wrap (48 + (IntKind.i64.wrap ((UInt8.toNat b14 : Int)))))) :: (23, VI (IntKind.i64.wrap ((UInt8.toNat b14 : Int)))) :: (Q25 b14 x), []⟩ ?_
 have e15 := wr64 (n := (UInt8.toNat b14 : Int)) (by omega)
 rw [e15]
 have e16 := wr64 (n := 48 + ((UInt8.toNat b14 : Int))) (by omega)
 rw [e16]
 refine owl 0 [2] ⟨[(2, VI (48 + ((UInt8.toNat b14 : Int))))], []⟩ ?_
 refine EL.ret ?_
 refine rqe (VI (48 + ((UInt8.toNat b14 : Int)))) ?_
 rotate_left
 have g5 := of_decide_eq_true h5
 refine cnT ?_
 refine srr 3 ⟨(0, .v (.int .u64 (((((x.n / 4294967296 : Nat) / 65536 : Nat) : Int)).fdiv (2 ^ (min 8 IntKind.u64.bits))))) :: (16, .v (.int .u64 (((((x.n / 4294967296 : Nat) / 65536 : Nat) : Int)).fdiv (2 ^ (min 8 IntKind.u64.bits))))) :: (Q18 x), []⟩ ?_
 have e6 : ((((x.n / 4294967296 : Nat) / 65536 : Nat) : Int)).fdiv (2 ^ (min 8 IntKind.u64.bits)) = ((((x.n / 4294967296 : Nat) / 65536 : Nat) / 256 : Nat) : Int) := fdn8 (by omega)
 rw [e6]
 refine owl 0 [0, 2] ⟨[(0, .v (.int .u64 ((((x.n / 4294967296 : Nat) / 65536 : Nat) / 256 : Nat) : Int))), (2, VI 48)], []⟩ ?_
 refine roe 3 ⟨(Q19 x), []⟩ ?_
 refine tN ?_
 refine srr 3 ⟨(21, .v (.int .u8 (IntKind.u8.wrap (((((x.n / 4294967296 : Nat) / 65536 : Nat) / 256 : Nat) : Int))))) :: (Q20 x), []⟩ ?_
 have e8 : IntKind.u8.wrap (((((x.n / 4294967296 : Nat) / 65536 : Nat) / 256 : Nat) : Int)) = ((((x.n / 4294967296 : Nat) / 65536 : Nat) / 256 : Nat) : Int) := wr8 (by omega)
 rw [e8]
 obtain ⟨b9, hb9⟩ : ∃ b, l8s[Int.toNat (((((x.n / 4294967296 : Nat) / 65536 : Nat) / 256 : Nat) : Int))]? = some b := six_ex ⟨by omega, by omega⟩
 have qb9 := UInt8.toNat_lt b9
 refine ow2 ⟨(Q21 b9 x), []⟩ (opE_six l8s (.c (.v (.string l8s))) (.s 21) .u8 (((((x.n / 4294967296 : Nat) / 65536 : Nat) / 256 : Nat) : Int)) b9 (by kernel_rfl) (by kernel_rfl) (by kernel_rfl) (by kernel_rfl) (by omega) hb9) ?_
 refine owr 3 ⟨(2, VI (IntKind.i64.wrap (56 + (IntKind.i64.wrap ((UInt8.toNat b9 : Int)))))) :: (24, VI (IntKind.i64.wrap (56 + (IntKind.i64.wrap ((UInt8.toNat b9 : Int)))))) :: (23, VI (IntKind.i64.wrap ((UInt8.toNat b9 : Int)))) :: (Q22 b9 x), []⟩ ?_
 have e10 := wr64 (n := (UInt8.toNat b9 : Int)) (by omega)
 rw [e10]
 have e11 := wr64 (n := 56 + ((UInt8.toNat b9 : Int))) (by omega)
 rw [e11]
 refine owl 0 [2] ⟨[(2, VI (56 + ((UInt8.toNat b9 : Int))))], []⟩ ?_
 refine EL.ret ?_
 refine rqe (VI (56 + ((UInt8.toNat b9 : Int)))) ?_
 rotate_left
 all_goals ((refine congrArg (fun n => VI n) ?_; have hlt := x.lt; first | (have h0 := len64_32 (n := x.n) (by omega); have h1 := len64_16 (n := x.n / 4294967296) (by omega); have h2 := len64_s8 (n := x.n / 4294967296 / 65536) (by omega);  have hl := len64_b (n := x.n / 4294967296 / 65536 / 256) (by omega) rfl (by assumption); omega) | (have h0 := len64_32 (n := x.n) (by omega); have h1 := len64_16 (n := x.n / 4294967296) (by omega);  have hl := len64_b (n := x.n / 4294967296 / 65536) (by omega) rfl (by assumption); omega) | (have h0 := len64_32 (n := x.n) (by omega); have h1 := len64_s8 (n := x.n / 4294967296) (by omega);  have hl := len64_b (n := x.n / 4294967296 / 256) (by omega) rfl (by assumption); omega) | (have h0 := len64_32 (n := x.n) (by omega);  have hl := len64_b (n := x.n / 4294967296) (by omega) rfl (by assumption); omega) | (have h0 := len64_16 (n := x.n) (by omega); have h1 := len64_s8 (n := x.n / 65536) (by omega);  have hl := len64_b (n := x.n / 65536 / 256) (by omega) rfl (by assumption); omega) | (have h0 := len64_16 (n := x.n) (by omega);  have hl := len64_b (n := x.n / 65536) (by omega) rfl (by assumption); omega) | (have h0 := len64_s8 (n := x.n) (by omega);  have hl := len64_b (n := x.n / 256) (by omega) rfl (by assumption); omega) | ( have hl := len64_b (n := x.n) (by omega) rfl (by assumption); omega) | trace_state))
theorem pred_w {x : Nat} (h : x ≠ 0 ∧ x < 18446744073709551616) : bits .and .u64 (x : Int) (IntKind.u64.wrap ((x : Int) - 1)) = ((x &&& (x - 1) : Nat) : Int) := pred_bits h.1 h.2
theorem tzN_fn (z : Nat) (h : z < 18446744073709551616) : Fn Tryd.prog 73 [.v (.int .u64 (z : Int))] (VI (tz z : Int)) := tz_fn ⟨z, h⟩
theorem lenN_fn (z : Nat) (h : z < 18446744073709551616) : Fn Tryd.prog 64 [.v (.int .u64 (z : Int))] (VI (len64 z : Int)) := len64_fn ⟨z, h⟩
theorem bsum_bd : ∀ (ws : List Int) (z : Nat), (∀ w, w ∈ ws → 0 ≤ w ∧ w ≤ 100) → 0 ≤ bsum ws z ∧ bsum ws z ≤ 100 * ws.length
  | [], z, _ => by simp [bsum]
  | w :: ws, z, h => by
    have h1 := h w (by simp)
    have h2 := bsum_bd ws (z / 2) fun v hv => h v (by simp [hv])
    simp only [bsum, List.length_cons]
    split <;> omega
def SubS (ws : List Int) (z : Nat) : Prop := z < 2 ^ ws.length
theorem SubS.tz {ws : List Int} {z : Nat} (h : SubS ws z) (h0 : z ≠ 0) : tz z < ws.length := tz_lt ws.length z h0 h
theorem SubS.next {ws : List Int} {z : Nat} (h : SubS ws z) (h0 : z ≠ 0) : SubS ws (z &&& (z - 1)) := Nat.lt_trans (pred_lt h0) h
theorem SubS.low {ws : List Int} {z : Nat} (h : SubS ws z) (h0 : z ≠ 0) {a : Int} (ha : ws[Int.toNat (Proofs.YtligepciannclaaDoor.tz z : Int)]? = some a) : bsum ws z = a + bsum ws (z &&& (z - 1)) ∧ z &&& (z - 1) < z := by
  obtain ⟨w, h1, h2⟩ := bsum_low ws z h0 h
  have h3 := Option.some.inj (h1.symm.trans ha)
  subst h3
  exact ⟨h2, pred_lt h0⟩
theorem SubS.of_len {ws : List Int} {z : Nat} (h : ¬ (len64 z : Int) > ws.length) : SubS ws z := Nat.not_le.1 fun hh => h (by have := len64_gt.2 hh; omega)
theorem sumP_3 {ws : List Int} {z : Nat} (h1 : ¬ (nodesP ws).2 ≠ 0) (h : (len64 z : Int) > ws.length) : sumP ws z = (0, 3) := by
  unfold sumP; rw [if_neg h1, if_pos (len64_gt.1 (by omega))]
theorem sumP_0 {ws : List Int} {z : Nat} (h1 : (nodesP ws).2 = 0) (h : SubS ws z) : sumP ws z = (bsum ws z, 0) := by
  unfold sumP; rw [if_neg (fun hh => hh h1), if_neg (Nat.not_le.2 h)]
section
variable (a5 : Int) (n : Int) (u : U64) (ws : List Int) (z : Nat)
abbrev Q52 : LS := [(4, VI 0), (0, .lst 1 (ws.map cI)), (1, .v (.int .u64 (u.n : Int)))]
abbrev Q53 : LS := (10, .tup [VI ((nodesP ws).1), VI ((nodesP ws).2)]) :: (9, .lst 1 (ws.map cI)) :: (Q52 u ws)
abbrev Q54 : LS := (16, .v (.int .u64 (u.n : Int))) :: (14, .v (.bool false)) :: (7, VI ((nodesP ws).2)) :: (Q52 u ws)
abbrev Q55 : LS := (18, .lst 1 (ws.map cI)) :: (17, VI (len64 u.n : Int)) :: (Q54 u ws)
abbrev Q56 : LS := [(0, .lst 1 (ws.map cI)), (1, .v (.int .u64 (z : Int))), (4, VI n)]
abbrev Q57 : LS := (29, .v (.int .u64 (z : Int))) :: (28, .lst 1 (ws.map cI)) :: (27, VI n) :: (22, .v (.bool true)) :: (Q56 n ws z)
abbrev Q58 : LS := (31, .pim [VI a5] 0) :: (30, VI (tz z : Int)) :: (Q57 n ws z)
abbrev Q59 : LS := [(32, VI a5), (31, .pim [VI a5] 0), (30, VI (tz z : Int)), (29, .v (.int .u64 (z : Int))), (28, .lst 1 (ws.map cI)), (27, VI n), (22, .v (.bool true)), (0, .lst 1 (ws.map cI)), (1, .v (.int .u64 (z : Int)))]
abbrev Q60 : LS := [(24, .v (.int .u64 (z : Int))), (23, .v (.int .u64 (z : Int))), (4, VI (n + a5)), (33, VI (n + a5)), (32, VI a5), (31, .pim [VI a5] 0), (30, VI (tz z : Int)), (29, .v (.int .u64 (z : Int))), (28, .lst 1 (ws.map cI)), (27, VI n), (22, .v (.bool true)), (0, .lst 1 (ws.map cI))]
end
theorem sum_fn (ws : List Int) (u : U64) (hx : ws.length ≤ 9223372036854775807) : Fn Tryd.prog 52 [.lst 1 (ws.map cI), .v (.int .u64 (u.n : Int))] (.tup [VI ((sumP ws u.n).1), VI ((sumP ws u.n).2)]) := by
 have hlt := u.lt
 refine fnw F52_ok ?_
 refine srl 2 [0, 1, 4] ⟨(Q52 u ws), []⟩ ?_
 refine EL.seq ?_
 refine srr 1 ⟨(9, .lst 1 (ws.map cI)) :: (Q52 u ws), []⟩ ?_
 refine owg [.lst 1 (ws.map cI)] ⟨(Q53 u ws), []⟩ (nodes_fn ws (by first | omega | (simp; omega))) ?_
 refine owl 5 [0, 1, 4, 7] ⟨(7, VI ((nodesP ws).2)) :: (Q52 u ws), []⟩ ?_
 refine srl 2 [0, 1, 4, 7, 14] ⟨(14, .v (.bool (((nodesP ws).2) != 0))) :: (7, VI ((nodesP ws).2)) :: (Q52 u ws), []⟩ ?_
 cases h1 : (((nodesP ws).2) != 0)
 have g1 := bnF h1
 refine cnF ?_
 refine skn ?_
 refine EL.seq ?_
 refine srr 1 ⟨(Q54 u ws), []⟩ ?_
 refine owg [.v (.int .u64 (u.n : Int))] ⟨(17, VI (len64 u.n : Int)) :: (Q54 u ws), []⟩ (lenN_fn u.n (by first | omega | exact U64.lt _)) ?_
 refine owr 1 ⟨(Q55 u ws), []⟩ ?_
 refine ow2 ⟨(19, VI (List.length ws : Int)) :: (Q55 u ws), []⟩ (oln cI ws (.s 18) 1) ?_
 refine owl 1 [0, 1, 4, 20] ⟨(20, .v (.bool (decide ((len64 u.n : Int) > (List.length ws : Int))))) :: (Q52 u ws), []⟩ ?_
 cases h2 : (decide ((len64 u.n : Int) > (List.length ws : Int)))
 have g2 := of_decide_eq_false h2
 refine cnF ?_
 refine skn ?_
 refine EL.seq ?_
 refine EL.block ?_
 refine EL.loopN (fun mM xX => ∃ (z : Nat) (n : Int), mM = z + 1 ∧ (SubS ws z ∧ z < 18446744073709551616 ∧ (nodesP ws).2 = 0 ∧ SubS ws u.n ∧ n + bsum ws z = bsum ws u.n) ∧ xX = ⟨(Q56 n ws z), []⟩) (y := (fun (z : Nat) (n : Int) => (⟨(Q56 n ws z), []⟩ : L3)) u.n 0) [0, 1, 4] [] [] (by kernel_rfl) trivial ⟨u.n, 0, rfl, by have i1 := SubS.of_len (ws := ws) (z := u.n) (by assumption); have i3 : (nodesP ws).2 = 0 := (by omega); exact ⟨i1, hlt, i3, i1, Int.zero_add _⟩, rfl⟩ ?_
 rintro _ _ ⟨z, n, rfl, hI3, rfl⟩
 obtain ⟨hz, hz64, hn0, hx2, hs⟩ := hI3
 have hnb := nodes_bd hn0
 have hb1 := bsum_bd ws z hnb.2.2.2.2
 have hb2 := bsum_bd ws u.n hnb.2.2.2.2
 have hpl : z ≠ 0 → z &&& (z - 1) < z := fun hh => pred_lt hh
 refine EL.seq ?_
 refine srl 2 [0, 1, 4, 22] ⟨(22, .v (.bool ((z : Int) != 0))) :: (Q56 n ws z), []⟩ ?_
 cases h4 : ((z : Int) != 0)
 have g4 := bnF h4
 have n4 : ((z) = 0) := by omega
 refine cnF ?_
 refine EL.exit ?_
 refine tX ?_
 refine tX ?_
 refine iH ?_
 refine tN ?_
 refine srl 3 [4, 5] ⟨[(5, VI 0), (4, VI n)], []⟩ ?_
 refine EL.ret ?_
 refine rqe (.tup [VI n, VI 0]) ?_
 rotate_left
 have g4 := bnT h4
 have n4 : ¬ ((z) = 0) := by omega
 refine cnT ?_
 refine skn ?_
 refine EL.seq ?_
 refine EL.block ?_
 refine EL.reg0 ?_
 refine owr 3 ⟨(Q57 n ws z), []⟩ ?_
 refine owg [.v (.int .u64 (z : Int))] ⟨(30, VI (tz z : Int)) :: (Q57 n ws z), []⟩ (tzN_fn z (by omega)) ?_
 obtain ⟨a5, ha5⟩ : ∃ y, ws[((tz z : Int) : Int).toNat]? = some y := idx_ex ⟨by omega, by have ht := hz.tz (by omega); omega⟩
 refine ow2 ⟨(Q58 a5 n ws z), []⟩ (oid cI ws (.s 28) (.s 30) 1 .i64 (tz z : Int) a5 (by omega) ha5) ?_
 refine owr 3 ⟨(4, VI (IntKind.i64.wrap (n + a5))) :: (33, VI (IntKind.i64.wrap (n + a5))) :: (Q59 a5 n ws z), []⟩ ?_
 have e6 := wr64 (n := n + a5) (by have hq := hz.low (by omega) ha5; have hb3 := bsum_bd ws (z &&& (z - 1)) hnb.2.2.2.2; have hq2 := hnb.2.2.2.2 a5 (List.mem_of_getElem? ha5); omega)
 rw [e6]
 clear e6
 refine owe 0 ⟨(4, VI (n + a5)) :: (33, VI (n + a5)) :: (Q59 a5 n ws z), []⟩ ?_
 refine iN ?_
 refine tN ?_
 refine EL.reg0 ?_
 refine owr 5 ⟨(1, .v (.int .u64 (bits .and .u64 (z : Int) (IntKind.u64.wrap ((z : Int) - 1))))) :: (26, .v (.int .u64 (bits .and .u64 (z : Int) (IntKind.u64.wrap ((z : Int) - 1))))) :: (25, .v (.int .u64 (IntKind.u64.wrap ((z : Int) - 1)))) :: (Q60 a5 n ws z), []⟩ ?_
 have e7 : bits .and .u64 (z : Int) (IntKind.u64.wrap ((z : Int) - 1)) = ((z &&& (z - 1) : Nat) : Int) := pred_w (by exact ⟨by omega, hz64⟩)
 rw [e7]
 clear e7
 refine owe 0 ⟨(1, .v (.int .u64 ((z &&& (z - 1) : Nat) : Int))) :: (26, .v (.int .u64 ((z &&& (z - 1) : Nat) : Int))) :: (25, .v (.int .u64 (IntKind.u64.wrap ((z : Int) - 1)))) :: (Q60 a5 n ws z), []⟩ ?_
 refine tN ?_
 refine rE (live := [0, 1, 4]) (src := []) (es := []) (y := (fun (z : Nat) (n : Int) => (⟨(Q56 n ws z), []⟩ : L3)) (z &&& (z - 1)) (n + a5)) ?_ trivial ?_ ⟨(z &&& (z - 1)), (n + a5), rfl, ?_, rfl⟩
 kernel_rfl
 omega
 focus ((have hq := hz.low (by omega) ha5; exact ⟨hz.next (by omega), by omega, hn0, hx2, by omega⟩))
 have g2 := of_decide_eq_true h2
 refine cnT ?_
 refine srl 2 [4, 5] ⟨[(5, VI 3), (4, VI 0)], []⟩ ?_
 refine rtr ?_
 refine rqe (.tup [VI 0, VI 3]) ?_
 rotate_left
 have g1 := bnT h1
 refine cnT ?_
 refine srl 3 [4, 5] ⟨[(5, VI ((nodesP ws).2)), (4, VI 0)], []⟩ ?_
 refine rtr ?_
 refine rqe (.tup [VI 0, VI ((nodesP ws).2)]) ?_
 rotate_left
 all_goals (first | (rw [sumP, if_pos (by assumption)]; done) | (rw [sumP_3 (by omega) (by assumption)]; done) | (rw [sumP_0 hn0 hx2]; have hz0 : z = 0 := (by omega); rw [hz0, bsum_zero] at hs; rw [show bsum ws u.n = n by omega]; done) | trace_state)
section
variable (need : Int) (u : U64) (ws : List Int)
abbrev Q61 : LS := [(0, .lst 1 (ws.map cI)), (1, VI need), (2, .v (.int .u64 (u.n : Int)))]
abbrev Q62 : LS := (13, VI (qcheckP ws need)) :: (12, VI need) :: (11, .lst 1 (ws.map cI)) :: (Q61 need u ws)
abbrev Q63 : LS := (19, .v (.int .u64 (u.n : Int))) :: (18, .lst 1 (ws.map cI)) :: (15, .v (.bool false)) :: (8, VI (qcheckP ws need)) :: (Q61 need u ws)
abbrev Q64 : LS := (20, .tup [VI ((sumP ws u.n).1), VI ((sumP ws u.n).2)]) :: (Q63 need u ws)
abbrev Q65 : LS := [(10, VI ((sumP ws u.n).2)), (9, VI ((sumP ws u.n).1)), (1, VI need)]
end
theorem enough_fn (ws : List Int) (need : Int) (u : U64) (hx : ws.length ≤ 9223372036854775807) : Fn Tryd.prog 25 [.lst 1 (ws.map cI), VI need, .v (.int .u64 (u.n : Int))] (.tup [.v (.bool ((enoughP ws need u.n).1)), VI ((enoughP ws need u.n).2)]) := by
 refine fnw F25_ok ?_
 refine srl 2 [0, 1, 2] ⟨(Q61 need u ws), []⟩ ?_
 refine EL.seq ?_
 refine srr 2 ⟨(12, VI need) :: (11, .lst 1 (ws.map cI)) :: (Q61 need u ws), []⟩ ?_
 refine owg [.lst 1 (ws.map cI), VI need] ⟨(Q62 need u ws), []⟩ (qcheck_fn ws need (by first | omega | (simp; omega))) ?_
 refine owl 1 [0, 1, 2, 8] ⟨(8, VI (qcheckP ws need)) :: (Q61 need u ws), []⟩ ?_
 refine srl 2 [0, 1, 2, 8, 15] ⟨(15, .v (.bool ((qcheckP ws need) != 0))) :: (8, VI (qcheckP ws need)) :: (Q61 need u ws), []⟩ ?_
 cases h1 : ((qcheckP ws need) != 0)
 have g1 := bnF h1
 refine cnF ?_
 refine skn ?_
 refine srr 2 ⟨(Q63 need u ws), []⟩ ?_
 refine owg [.lst 1 (ws.map cI), .v (.int .u64 (u.n : Int))] ⟨(Q64 need u ws), []⟩ (sum_fn ws u (by first | omega | (simp; omega))) ?_
 refine owl 5 [1, 9, 10] ⟨(Q65 need u ws), []⟩ ?_
 refine srr 3 ⟨(25, .v (.bool (((sumP ws u.n).2) == 0))) :: (24, .v (.bool (((sumP ws u.n).2) == 0))) :: (23, VI ((sumP ws u.n).2)) :: (Q65 need u ws), []⟩ ?_
 cases h2 : (((sumP ws u.n).2) == 0)
 have g2 := bqF h2
 refine owl 7 [6, 7] ⟨[(7, VI ((sumP ws u.n).2)), (6, .v (.bool false))], []⟩ ?_
 refine EL.ret ?_
 refine rqe (.tup [.v (.bool false), VI ((sumP ws u.n).2)]) ?_
 rotate_left
 have g2 := bqT h2
 refine owl 7 [6, 7] ⟨[(7, VI ((sumP ws u.n).2)), (6, .v (.bool (decide (((sumP ws u.n).1) ≥ need))))], []⟩ ?_
 refine EL.ret ?_
 refine rqe (.tup [.v (.bool (decide (((sumP ws u.n).1) ≥ need))), VI ((sumP ws u.n).2)]) ?_
 rotate_left
 have g1 := bnT h1
 refine cnT ?_
 refine srl 3 [6, 7] ⟨[(7, VI (qcheckP ws need)), (6, .v (.bool false))], []⟩ ?_
 refine rtr ?_
 refine rqe (.tup [.v (.bool false), VI (qcheckP ws need)]) ?_
 rotate_left
 all_goals (first | rfl | (simp [enoughP, *]; done) | (simp_all [enoughP]; done) | trace_state)
def Bid.checkE (b : Bid) (ws : List Int) (need : Int) : Int :=
  if qcheckP ws need ≠ 0 then qcheckP ws need else if ¬ (1 ≤ b.time ∧ b.time ≤ 1000000) then 3 else if ¬ (1 ≤ b.phase ∧ b.phase ≤ 3) then 7 else if b.own.size > 64 ∨ b.value.size > 64 then 2 else if b.best.checkE ≠ 0 then b.best.checkE else if (len64 b.heard.n : Int) > ws.length then 3 else 0
@[ext] structure Vtr where
  weights : List Int
  need : Int
section
variable (b : Bid) (v : Vtr)
abbrev Q66 : OB := some ⟨2, [[.lst 1 (v.weights.map cI), VI v.need]]⟩
abbrev Q67 : OB := some ⟨8, [[VI b.time, VI b.phase, .v (.string b.own), .v (.string b.value), VI b.best.at_.time, VI b.best.at_.who, .v (.string b.best.data), .v (.int .u64 (b.heard.n : Int))]]⟩
abbrev Q68 : LS := [(10, VI v.need), (9, .ref 0 2 0 1), (8, .lst 1 (v.weights.map cI)), (7, .ref 0 2 0 0), (3, .ref 1 8 0 0), (2, .ref 0 2 0 0)]
abbrev Q69 : LS := [(5, VI (qcheckP v.weights v.need)), (3, .ref 1 8 0 0), (2, .ref 0 2 0 0)]
abbrev Q70 : LS := (17, VI b.time) :: (16, .ref 1 8 0 0) :: (13, .v (.bool false)) :: (Q69 v)
abbrev Q71 : LS := [(22, VI b.phase), (21, .ref 1 8 0 1), (15, .v (.bool false)), (3, .ref 1 8 0 0), (2, .ref 0 2 0 0)]
abbrev Q72 : LS := [(32, VI (ByteArray.size b.value : Int)), (31, .v (.string b.value)), (30, .ref 1 8 0 3), (3, .ref 1 8 0 0), (2, .ref 0 2 0 0)]
abbrev Q73 : AV := .agg [VI b.best.at_.time, VI b.best.at_.who, .v (.string b.best.data)]
abbrev Q74 : LS := (35, (Q73 b)) :: (34, .ref 1 8 0 4) :: (25, .v (.bool false)) :: (33, .v (.bool false)) :: (Q72 b)
abbrev Q75 : LS := [(6, VI b.best.checkE), (3, .ref 1 8 0 0), (2, .ref 0 2 0 0)]
abbrev Q76 : LS := (41, .v (.int .u64 (b.heard.n : Int))) :: (40, .ref 1 8 0 7) :: (39, .v (.bool true)) :: (38, .v (.bool true)) :: (37, VI b.best.checkE) :: (Q75 b)
abbrev Q77 : LS := (44, .lst 1 (v.weights.map cI)) :: (43, .ref 0 2 0 0) :: (42, VI (len64 b.heard.n : Int)) :: (Q76 b)
end
theorem bcheck_fn (v : Vtr) (b : Bid) (hx : v.weights.length ≤ 9223372036854775807) : Fn Tryd.prog 42 [.agg [.lst 1 (v.weights.map cI), VI v.need], .agg [VI b.time, VI b.phase, .v (.string b.own), .v (.string b.value), VI b.best.at_.time, VI b.best.at_.who, .v (.string b.best.data), .v (.int .u64 (b.heard.n : Int))]] (VI (b.checkE v.weights v.need)) := by
 refine fnw F42_ok ?_
 refine srl 3 [2, 3] ⟨[(3, .ref 1 8 0 0), (2, .ref 0 2 0 0)], [(Q66 v), (Q67 b)]⟩ ?_
 refine EL.seq ?_
 refine srr 4 ⟨(Q68 v), [(Q66 v), (Q67 b)]⟩ ?_
 refine owg [.lst 1 (v.weights.map cI), VI v.need] ⟨(11, VI (qcheckP v.weights v.need)) :: (Q68 v), [(Q66 v), (Q67 b)]⟩ (qcheck_fn v.weights v.need (by first | omega | (simp; omega))) ?_
 refine owl 1 [2, 3, 5] ⟨(Q69 v), [(Q66 v), (Q67 b)]⟩ ?_
 refine srl 2 [2, 3, 5, 13] ⟨(13, .v (.bool ((qcheckP v.weights v.need) != 0))) :: (Q69 v), [(Q66 v), (Q67 b)]⟩ ?_
 cases h1 : ((qcheckP v.weights v.need) != 0)
 have g1 := bnF h1
 refine cnF ?_
 refine skn ?_
 refine EL.seq ?_
 refine EL.block ?_
 refine srr 2 ⟨(Q70 b v), [(Q66 v), (Q67 b)]⟩ ?_
 refine owg [VI b.time, VI 1, VI 1000000] ⟨(18, .v (.bool (wi b.time 1 1000000))) :: (Q70 b v), [(Q66 v), (Q67 b)]⟩ (within_fn b.time 1 1000000) ?_
 refine owl 2 [2, 3, 15] ⟨[(15, .v (.bool (!(wi b.time 1 1000000)))), (3, .ref 1 8 0 0), (2, .ref 0 2 0 0)], [(Q66 v), (Q67 b)]⟩ ?_
 cases h2 : (wi b.time 1 1000000)
 have g2 : ¬ ((1 : Int) ≤ b.time ∧ (b.time : Int) ≤ 1000000) := fun hh => Bool.noConfusion ((wi_iff.2 hh).symm.trans h2)
 refine cnT ?_
 refine srl 1 [4] ⟨[(4, VI 3)], [(Q66 v), (Q67 b)]⟩ ?_
 refine EL.ret ?_
 refine iR ?_
 refine tR ?_
 refine rqe (VI 3) ?_
 rotate_left
 have g2 : ((1 : Int) ≤ b.time ∧ (b.time : Int) ≤ 1000000) := wi_iff.1 h2
 refine cnF ?_
 refine srr 2 ⟨(Q71 b), [(Q66 v), (Q67 b)]⟩ ?_
 refine owg [VI b.phase, VI 1, VI 3] ⟨(23, .v (.bool (wi b.phase 1 3))) :: (Q71 b), [(Q66 v), (Q67 b)]⟩ (within_fn b.phase 1 3) ?_
 refine owl 2 [2, 3, 20] ⟨[(20, .v (.bool (!(wi b.phase 1 3)))), (3, .ref 1 8 0 0), (2, .ref 0 2 0 0)], [(Q66 v), (Q67 b)]⟩ ?_
 cases h3 : (wi b.phase 1 3)
 have g3 : ¬ ((1 : Int) ≤ b.phase ∧ (b.phase : Int) ≤ 3) := fun hh => Bool.noConfusion ((wi_iff.2 hh).symm.trans h3)
 refine cnT ?_
 refine srl 1 [4] ⟨[(4, VI 7)], [(Q66 v), (Q67 b)]⟩ ?_
 refine EL.ret ?_
 refine iR ?_
 refine tR ?_
 refine rqe (VI 7) ?_
 rotate_left
 have g3 : ((1 : Int) ≤ b.phase ∧ (b.phase : Int) ≤ 3) := wi_iff.1 h3
 refine cnF ?_
 refine EL.seq ?_
 refine srl 5 [2, 3, 25] ⟨[(25, .v (.bool (decide ((ByteArray.size b.own : Int) > 64)))), (3, .ref 1 8 0 0), (2, .ref 0 2 0 0)], [(Q66 v), (Q67 b)]⟩ ?_
 cases h4 : (decide ((ByteArray.size b.own : Int) > 64))
 have g4 := of_decide_eq_false h4
 have n4 : ¬ ((ByteArray.size b.own) > 64) := by omega
 refine cnF ?_
 refine roe 5 ⟨(25, .v (.bool (decide ((ByteArray.size b.value : Int) > 64)))) :: (33, .v (.bool (decide ((ByteArray.size b.value : Int) > 64)))) :: (Q72 b), [(Q66 v), (Q67 b)]⟩ ?_
 refine tN ?_
 cases h5 : (decide ((ByteArray.size b.value : Int) > 64))
 have g5 := of_decide_eq_false h5
 have n5 : ¬ ((ByteArray.size b.value) > 64) := by omega
 refine cnF ?_
 refine EL.skip ?_
 refine iN ?_
 refine tN ?_
 refine srr 2 ⟨(Q74 b), [(Q66 v), (Q67 b)]⟩ ?_
 refine owg [(Q73 b)] ⟨(36, VI b.best.checkE) :: (Q74 b), [(Q66 v), (Q67 b)]⟩ (ccheck_fn b.best) ?_
 refine owl 1 [2, 3, 6] ⟨(Q75 b), [(Q66 v), (Q67 b)]⟩ ?_
 refine EL.seq ?_
 refine sdr 3 ⟨(39, .v (.bool (b.best.checkE == 0))) :: (38, .v (.bool (b.best.checkE == 0))) :: (37, VI b.best.checkE) :: (Q75 b), [(Q66 v), (Q67 b)]⟩ ?_
 cases h6 : (b.best.checkE == 0)
 have g6 := bqF h6
 refine dwl 8 [6, 47] ⟨[(47, .v (.bool false)), (6, VI b.best.checkE)], [(Q66 v), (Q67 b)]⟩ ?_
 refine cnF ?_
 refine skn ?_
 refine srl 2 [4] ⟨[(4, VI b.best.checkE)], [(Q66 v), (Q67 b)]⟩ ?_
 refine EL.ret ?_
 refine rqe (VI b.best.checkE) ?_
 rotate_left
 have g6 := bqT h6
 refine dwr 2 ⟨(Q76 b), [(Q66 v), (Q67 b)]⟩ ?_
 refine dwg [.v (.int .u64 (b.heard.n : Int))] ⟨(42, VI (len64 b.heard.n : Int)) :: (Q76 b), [(Q66 v), (Q67 b)]⟩ (lenN_fn b.heard.n (by first | omega | exact U64.lt _)) ?_
 refine dwr 2 ⟨(Q77 b v), [(Q66 v), (Q67 b)]⟩ ?_
 refine dw2 ⟨(45, VI (List.length v.weights : Int)) :: (Q77 b v), [(Q66 v), (Q67 b)]⟩ (oln cI v.weights (.s 44) 1) ?_
 refine dwl 2 [6, 47] ⟨[(47, .v (.bool (decide ((len64 b.heard.n : Int) > (List.length v.weights : Int))))), (6, VI b.best.checkE)], [(Q66 v), (Q67 b)]⟩ ?_
 cases h7 : (decide ((len64 b.heard.n : Int) > (List.length v.weights : Int)))
 have g7 := of_decide_eq_false h7
 refine cnF ?_
 refine skn ?_
 refine srl 2 [4] ⟨[(4, VI b.best.checkE)], [(Q66 v), (Q67 b)]⟩ ?_
 refine EL.ret ?_
 refine rqe (VI b.best.checkE) ?_
 rotate_left
 have g7 := of_decide_eq_true h7
 refine cnT ?_
 refine roe 1 ⟨[(6, VI 3), (47, .v (.bool true))], [(Q66 v), (Q67 b)]⟩ ?_
 refine tN ?_
 refine srl 2 [4] ⟨[(4, VI 3)], [(Q66 v), (Q67 b)]⟩ ?_
 refine EL.ret ?_
 refine rqe (VI 3) ?_
 rotate_left
 have g5 := of_decide_eq_true h5
 have n5 : ((ByteArray.size b.value) > 64) := by omega
 refine cnT ?_
 refine srl 1 [4] ⟨[(4, VI 2)], [(Q66 v), (Q67 b)]⟩ ?_
 refine EL.ret ?_
 refine iR ?_
 refine tR ?_
 refine rqe (VI 2) ?_
 rotate_left
 have g4 := of_decide_eq_true h4
 have n4 : ((ByteArray.size b.own) > 64) := by omega
 refine cnT ?_
 refine skn ?_
 refine cnT ?_
 refine srl 1 [4] ⟨[(4, VI 2)], [(Q66 v), (Q67 b)]⟩ ?_
 refine EL.ret ?_
 refine iR ?_
 refine tR ?_
 refine rqe (VI 2) ?_
 rotate_left
 have g1 := bnT h1
 refine cnT ?_
 refine srl 2 [4] ⟨[(4, VI (qcheckP v.weights v.need))], [(Q66 v), (Q67 b)]⟩ ?_
 refine rtr ?_
 refine rqe (VI (qcheckP v.weights v.need)) ?_
 rotate_left
 all_goals ((refine congrArg (fun n => VI n) ?_; (try simp only [wi_iff] at *); simp only [Bid.checkE]; (repeat' split) <;> first | rfl | omega | (exfalso; omega) | contradiction | (simp_all; done) | (simp_all; omega) | trace_state))
def toAllP (n : Nat) (m : Vote) : List Vote := (List.range n).map fun (i : Nat) => (⟨m.kind, m.bid, (i : Int), m.copy⟩ : Vote)
def Bid.zero : Bid := ⟨0, 0, ⟨#[]⟩, ⟨#[]⟩, ⟨⟨0, 0⟩, ⟨#[]⟩⟩, ⟨0, by decide⟩⟩
def Bid.new (time : Int) (own : ByteArray) : Bid := ⟨time, 1, own, ⟨#[]⟩, ⟨⟨0, 0⟩, ⟨#[]⟩⟩, ⟨0, by decide⟩⟩
def beginP (v : Vtr) (no time : Int) (own : ByteArray) : Bid × List Vote × Int :=
  if ¬ (0 ≤ no ∧ no ≤ 30) then (Bid.zero, [], 3)
  else if (Bid.new time own).checkE v.weights v.need ≠ 0 then (Bid.zero, [], (Bid.new time own).checkE v.weights v.need)
  else (Bid.new time own, toAllP v.weights.length ⟨1, no, 0, ⟨⟨time, no⟩, ⟨#[]⟩⟩⟩, 0)
theorem bid_len {v : Vtr} {b : Bid} (h : b.checkE v.weights v.need = 0) : v.weights.length ≤ 12 := by
  unfold Bid.checkE at h
  by_cases hq : qcheckP v.weights v.need = 0
  · have h0 : (nodesP v.weights).2 = 0 := by
      by_cases hn : (nodesP v.weights).2 = 0
      · exact hn
      · unfold qcheckP at hq; rw [if_pos hn] at hq; exact absurd hq hn
    exact (nodes_bd h0).2.2.2.1
  · rw [if_pos hq] at h; exact absurd h hq
section
variable (k : Nat) (m : Vote) (out : List Vote) (p : Vote) (v : Vtr)
abbrev C0 : OB := some ⟨2, [[.lst 1 (v.weights.map cI), VI v.need]]⟩
abbrev C1 : OB := some ⟨6, [[VI m.kind, VI m.bid, VI m.node, VI m.copy.at_.time, VI m.copy.at_.who, .v (.string m.copy.data)]]⟩
abbrev C2 : LS := [(4, .emp), (3, .ref 1 6 0 0), (2, .ref 0 2 0 0)]
abbrev C3 : LS := (6, .lst 1 (v.weights.map cI)) :: (5, .ref 0 2 0 0) :: C2
abbrev C4 : LS := [(8, VI 0), (7, VI (List.length v.weights : Int)), (4, .emp), (3, .ref 1 6 0 0)]
abbrev C5 : OB := some ⟨6, [[VI p.kind, VI p.bid, VI p.node, VI p.copy.at_.time, VI p.copy.at_.who, .v (.string p.copy.data)]]⟩
abbrev C6 : LB := [some ⟨6, (out.map Vote.cs)⟩, (C5 p)]
abbrev C7 : LS := [(3, .ref 1 6 0 0), (4, .own 0 6 0 (List.length out)), (7, VI (List.length v.weights : Int)), (8, VI (k : Int))]
abbrev C8 : OB := some ⟨6, [[VI p.kind, VI p.bid, VI (k : Int), VI p.copy.at_.time, VI p.copy.at_.who, .v (.string p.copy.data)]]⟩
abbrev C9 : LB := [some ⟨6, (out.map Vote.cs)⟩, (C8 k p)]
abbrev C10 : AV := .agg [VI p.kind, VI p.bid, VI (k : Int), VI p.copy.at_.time, VI p.copy.at_.who, .v (.string p.copy.data)]
abbrev C11 : LB := [some ⟨6, (out.map Vote.cs)⟩, (C8 k p), (C8 k p)]
abbrev C12 : LS := (14, .own 2 6 0 1) :: (13, (C10 k p)) :: (12, .own 0 6 0 (List.length out)) :: (C7 k out v)
abbrev C13 : OB := some ⟨6, ((out ++ ([(⟨p.kind, p.bid, (k : Int), p.copy⟩ : Vote)])).map Vote.cs)⟩
abbrev C14 : LB := [none, (C8 k p), (C8 k p), (C13 k out p)]
abbrev C15 : LS := (15, .own 3 6 0 (List.length (out ++ ([(⟨p.kind, p.bid, (k : Int), p.copy⟩ : Vote)])))) :: (C12 k out p v)
abbrev C16 : LS := [(4, .own 3 6 0 (List.length (out ++ ([(⟨p.kind, p.bid, (k : Int), p.copy⟩ : Vote)])))), (15, .own 3 6 0 (List.length (out ++ ([(⟨p.kind, p.bid, (k : Int), p.copy⟩ : Vote)])))), (14, .own 2 6 0 1), (13, (C10 k p)), (12, .own 0 6 0 (List.length out)), (3, .ref 1 6 0 0), (7, VI (List.length v.weights : Int)), (8, VI (k : Int))]
abbrev C17 : LS := [(4, .own 3 6 0 (List.length (out ++ ([(⟨p.kind, p.bid, (k : Int), p.copy⟩ : Vote)])))), (15, .own 3 6 0 (List.length (out ++ ([(⟨p.kind, p.bid, (k : Int), p.copy⟩ : Vote)])))), (14, .own 2 6 0 1), (13, (C10 k p)), (12, .own 0 6 0 (List.length out)), (3, .ref 1 6 0 0), (7, VI (List.length v.weights : Int))]
abbrev C18 : LS := (8, VI ((k : Int) + 1)) :: (16, VI ((k : Int) + 1)) :: (C17 k out p v)
end
theorem toAll_fn (v : Vtr) (m : Vote) (hx : v.weights.length ≤ 12) : Fn Tryd.prog 88 [.agg [.lst 1 (v.weights.map cI), VI v.need], .agg [VI m.kind, VI m.bid, VI m.node, VI m.copy.at_.time, VI m.copy.at_.who, .v (.string m.copy.data)]] (.lst 6 ((toAllP v.weights.length m).map Vote.cs)) := by
 refine fnw F88_ok ?_
 refine srl 3 [2, 3, 4] ⟨C2, [(C0 v), (C1 m)]⟩ ?_
 refine EL.seq ?_
 refine srr 2 ⟨(C3 v), [(C0 v), (C1 m)]⟩ ?_
 refine ow2 ⟨(7, VI (List.length v.weights : Int)) :: (C3 v), [(C0 v), (C1 m)]⟩ (oln cI v.weights (.s 6) 1) ?_
 refine owl 1 [3, 4, 7, 8] ⟨(C4 v), [(C0 v), (C1 m)]⟩ ?_
 refine EL.block ?_
 refine EL.loopN (fun mM xX => ∃ (k : Nat) (p : Vote) (out : List Vote), mM = v.weights.length - k ∧ (k ≤ v.weights.length ∧ (p.kind = m.kind ∧ p.bid = m.bid ∧ p.copy = m.copy) ∧ out = toAllP k m) ∧ xX = ⟨(C7 k out v), (C6 out p)⟩) (y := (fun (k : Nat) (p : Vote) (out : List Vote) => (⟨(C7 k out v), (C6 out p)⟩ : L3)) 0 m []) [3, 4, 7, 8] [.new 6, uf 1] [(4, 0)] (by kernel_rfl) trivial ⟨0, m, [], rfl, by exact ⟨by omega, ⟨rfl, rfl, rfl⟩, rfl⟩, rfl⟩ ?_
 rintro _ _ ⟨k, p, out, rfl, hI1, rfl⟩
 obtain ⟨hk, ⟨e1', e2', e3'⟩, ho⟩ := hI1
 have hol : out.length = k := by rw [ho]; simp [toAllP]
 refine srl 1 [3, 4, 7, 8, 9] ⟨(9, .v (.bool (decide ((k : Int) < (List.length v.weights : Int))))) :: (C7 k out v), (C6 out p)⟩ ?_
 refine EL.seq ?_
 cases h2 : (decide ((k : Int) < (List.length v.weights : Int)))
 have g2 := of_decide_eq_false h2
 have n2 : ¬ ((k) < (List.length v.weights)) := by omega
 refine cnF ?_
 refine EL.exit ?_
 refine tX ?_
 refine tX ?_
 refine iH ?_
 refine tN ?_
 refine srl 2 [4] ⟨[(4, .own 0 6 0 (List.length out))], (C6 out p)⟩ ?_
 refine EL.ret ?_
 refine rqs (.lst 6 (out.map Vote.cs)) (.own 0 6 0 (List.length out)) (snapA_map Vote.cs out (by kernel_rfl) (by intro y; kernel_rfl) (by simp)) ?_
 focus (first | (rw [ho, show k = v.weights.length by omega]; done) | trace_state)
 have g2 := of_decide_eq_true h2
 have n2 : ((k) < (List.length v.weights)) := by omega
 refine cnT ?_
 refine skn ?_
 refine EL.seq ?_
 refine EL.block ?_
 refine srl 3 [3, 4, 7, 8] ⟨(C7 k out v), (C9 k out p)⟩ ?_
 refine EL.reg0 ?_
 refine owr 3 ⟨(C12 k out p v), (C11 k out p)⟩ ?_
 refine ow2 ⟨(C15 k out p v), (C14 k out p)⟩ (oap Vote.cs out ([(⟨p.kind, p.bid, (k : Int), p.copy⟩ : Vote)]) (.s 12) (.s 14) 6 56 0 (.own 2 6 0 1) (.own (els := [[VI p.kind, VI p.bid, VI (k : Int), VI p.copy.at_.time, VI p.copy.at_.who, .v (.string p.copy.data)]]) (by kernel_rfl) (by kernel_rfl) (of_decide_eq_true (by kernel_rfl))) (by simp; omega)) ?_
 refine owe 1 ⟨(C16 k out p v), (C14 k out p)⟩ ?_
 refine iN ?_
 refine tN ?_
 refine EL.reg0 ?_
 refine owr 2 ⟨(8, VI (IntKind.i64.wrap ((k : Int) + 1))) :: (16, VI (IntKind.i64.wrap ((k : Int) + 1))) :: (C17 k out p v), (C14 k out p)⟩ ?_
 have e3 := wr64 (n := (k : Int) + 1) (by omega)
 rw [e3]
 refine owe 0 ⟨(C18 k out p v), (C14 k out p)⟩ ?_
 refine tN ?_
 refine rE (live := [3, 4, 7, 8]) (src := [ut 3, uf 1]) (es := []) (y := (fun (k : Nat) (p : Vote) (out : List Vote) => (⟨(C7 k out v), (C6 out p)⟩ : L3)) (k + 1) (⟨p.kind, p.bid, (k : Int), p.copy⟩ : Vote) (out ++ ([(⟨p.kind, p.bid, (k : Int), p.copy⟩ : Vote)]))) ?_ ⟨pq 6 Vote.cs (out ++ ([(⟨p.kind, p.bid, (k : Int), p.copy⟩ : Vote)])), trivial⟩ ?_ ⟨(k + 1), (⟨p.kind, p.bid, (k : Int), p.copy⟩ : Vote), (out ++ ([(⟨p.kind, p.bid, (k : Int), p.copy⟩ : Vote)])), rfl, ?_, rfl⟩
 kernel_rfl
 omega
 focus ((refine ⟨by omega, ⟨e1', e2', e3'⟩, ?_⟩; rw [ho, e1', e2', e3']; simp [toAllP, List.range_succ]))
section
variable (b : Bid) (no : Int)
abbrev C19 : OB := some ⟨2, [[.pim [VI b.time, VI b.phase, .v (.string b.own), .v (.string b.value), VI b.best.at_.time, VI b.best.at_.who, .v (.string b.best.data), .v (.int .u64 (b.heard.n : Int))] 0, VI no]]⟩
abbrev C20 : LB := [(C19 b no), some ⟨2, [[VI 0, VI 0]]⟩]
abbrev C21 : OB := some ⟨2, [[VI b.time, VI no]]⟩
end
theorem at_fn (b : Bid) (no : Int) : Fn Tryd.prog 89 [.agg [.pim [VI b.time, VI b.phase, .v (.string b.own), .v (.string b.value), VI b.best.at_.time, VI b.best.at_.who, .v (.string b.best.data), .v (.int .u64 (b.heard.n : Int))] 0, VI no]] (.agg [VI ((⟨b.time, no⟩ : Stp).time), VI ((⟨b.time, no⟩ : Stp).who)]) := by
 refine fnw F89_ok ?_
 refine srl 2 [1, 2] ⟨[(2, .ref 1 2 0 0), (1, .ref 0 2 0 0)], (C20 b no)⟩ ?_
 refine sdl 9 [2] ⟨[(2, .ref 1 2 0 0)], [(C19 b no), (C21 b no)]⟩ ?_
 refine EL.ret ?_
 refine rqe (.agg [VI b.time, VI no]) ?_
 focus (rfl)
section
variable (no : Int) (own : ByteArray) (time : Int) (v : Vtr)
abbrev C22 : OB := some ⟨8, [[VI 0, VI 0, .v (.string (⟨#[]⟩)), .v (.string (⟨#[]⟩)), VI 0, VI 0, .v (.string (⟨#[]⟩)), .v (.int .u64 0)]]⟩
abbrev C23 : LS := [(8, .ref 1 8 0 0), (4, .ref 0 2 0 0), (1, VI no), (2, VI time), (3, .v (.string own))]
abbrev C24 : OB := some ⟨8, [[VI time, VI 1, .v (.string own), .v (.string (⟨#[]⟩)), VI 0, VI 0, .v (.string (⟨#[]⟩)), .v (.int .u64 0)]]⟩
abbrev C25 : LS := [(11, .ref 2 8 0 0), (8, .ref 1 8 0 0), (4, .ref 0 2 0 0), (1, VI no)]
abbrev C26 : AV := .agg [VI time, VI 1, .v (.string own), .v (.string (⟨#[]⟩)), VI 0, VI 0, .v (.string (⟨#[]⟩)), .v (.int .u64 0)]
abbrev C27 : AV := .agg [.lst 1 (v.weights.map cI), VI v.need]
abbrev C28 : AV := .agg [VI 0, VI 0, .v (.string (⟨#[]⟩)), .v (.string (⟨#[]⟩)), VI 0, VI 0, .v (.string (⟨#[]⟩)), .v (.int .u64 0)]
abbrev C29 : LB := [(C0 v), (C24 own time), (C24 own time)]
end
theorem begin_fn (v : Vtr) (no : Int) (time : Int) (own : ByteArray) (hx : v.weights.length ≤ 9223372036854775807) : Fn Tryd.prog 84 [.agg [.lst 1 (v.weights.map cI), VI v.need], VI no, VI time, .v (.string own)] (.tup [.agg [VI (((beginP v no time own).1).time), VI (((beginP v no time own).1).phase), .v (.string (((beginP v no time own).1).own)), .v (.string (((beginP v no time own).1).value)), VI (((((beginP v no time own).1).best).at_).time), VI (((((beginP v no time own).1).best).at_).who), .v (.string ((((beginP v no time own).1).best).data)), .v (.int .u64 (((beginP v no time own).1).heard.n : Int))], .lst 6 (((beginP v no time own).2.1).map Vote.cs), VI ((beginP v no time own).2.2)]) := by
 refine fnw F84_ok ?_
 refine srl 4 [1, 2, 3, 4, 8] ⟨(C23 no own time), [(C0 v), C22]⟩ ?_
 refine srl 5 [1, 4, 8, 11] ⟨(C25 no), [(C0 v), C22, (C24 own time)]⟩ ?_
 refine srr 2 ⟨(17, (C26 own time)) :: (16, (C27 v)) :: (C25 no), [(C0 v), C22, (C24 own time)]⟩ ?_
 refine owg [(C27 v), (C26 own time)] ⟨(18, VI ((⟨time, 1, own, ⟨#[]⟩, (⟨(⟨0, 0⟩ : Stp), ⟨#[]⟩⟩ : Copy), (⟨0, by decide⟩ : U64)⟩ : Bid).checkE v.weights v.need)) :: (17, (C26 own time)) :: (16, (C27 v)) :: (C25 no), [(C0 v), C22, (C24 own time)]⟩ (bcheck_fn v (⟨time, 1, own, ⟨#[]⟩, (⟨(⟨0, 0⟩ : Stp), ⟨#[]⟩⟩ : Copy), (⟨0, by decide⟩ : U64)⟩ : Bid) hx) ?_
 refine owl 1 [1, 4, 8, 11, 12] ⟨(12, VI ((⟨time, 1, own, ⟨#[]⟩, (⟨(⟨0, 0⟩ : Stp), ⟨#[]⟩⟩ : Copy), (⟨0, by decide⟩ : U64)⟩ : Bid).checkE v.weights v.need)) :: (C25 no), [(C0 v), C22, (C24 own time)]⟩ ?_
 refine EL.seq ?_
 refine srr 1 ⟨(19, VI no) :: (12, VI ((⟨time, 1, own, ⟨#[]⟩, (⟨(⟨0, 0⟩ : Stp), ⟨#[]⟩⟩ : Copy), (⟨0, by decide⟩ : U64)⟩ : Bid).checkE v.weights v.need)) :: (C25 no), [(C0 v), C22, (C24 own time)]⟩ ?_
 refine owg [VI no] ⟨(20, .v (.bool (wi no 0 30))) :: (19, VI no) :: (12, VI ((⟨time, 1, own, ⟨#[]⟩, (⟨(⟨0, 0⟩ : Stp), ⟨#[]⟩⟩ : Copy), (⟨0, by decide⟩ : U64)⟩ : Bid).checkE v.weights v.need)) :: (C25 no), [(C0 v), C22, (C24 own time)]⟩ (number_fn no) ?_
 refine owl 1 [1, 4, 8, 11, 12, 21] ⟨(21, .v (.bool (!(wi no 0 30)))) :: (12, VI ((⟨time, 1, own, ⟨#[]⟩, (⟨(⟨0, 0⟩ : Stp), ⟨#[]⟩⟩ : Copy), (⟨0, by decide⟩ : U64)⟩ : Bid).checkE v.weights v.need)) :: (C25 no), [(C0 v), C22, (C24 own time)]⟩ ?_
 cases h1 : (wi no 0 30)
 have g1 : ¬ ((0 : Int) ≤ no ∧ (no : Int) ≤ 30) := fun hh => Bool.noConfusion ((wi_iff.2 hh).symm.trans h1)
 refine cnT ?_
 refine roe 1 ⟨(12, VI 3) :: (21, .v (.bool true)) :: (C25 no), [(C0 v), C22, (C24 own time)]⟩ ?_
 refine tN ?_
 refine EL.seq ?_
 refine srl 2 [1, 4, 8, 11, 12, 23] ⟨(23, .v (.bool true)) :: (12, VI 3) :: (C25 no), [(C0 v), C22, (C24 own time)]⟩ ?_
 refine cnT ?_
 refine srl 5 [8, 9, 10] ⟨[(10, VI 3), (9, .emp), (8, .ref 1 8 0 0)], [(C0 v), C22, (C24 own time)]⟩ ?_
 refine rtr ?_
 refine rqa (.tup [C28, .emp, VI 3]) (Ale.tup (aR (aE 6 (aR .nil)))) ?_
 rotate_left
 have g1 : ((0 : Int) ≤ no ∧ (no : Int) ≤ 30) := wi_iff.1 h1
 refine cnF ?_
 refine skn ?_
 refine EL.seq ?_
 refine srl 2 [1, 4, 8, 11, 12, 23] ⟨(23, .v (.bool (((⟨time, 1, own, ⟨#[]⟩, (⟨(⟨0, 0⟩ : Stp), ⟨#[]⟩⟩ : Copy), (⟨0, by decide⟩ : U64)⟩ : Bid).checkE v.weights v.need) != 0))) :: (12, VI ((⟨time, 1, own, ⟨#[]⟩, (⟨(⟨0, 0⟩ : Stp), ⟨#[]⟩⟩ : Copy), (⟨0, by decide⟩ : U64)⟩ : Bid).checkE v.weights v.need)) :: (C25 no), [(C0 v), C22, (C24 own time)]⟩ ?_
 cases h2 : (((⟨time, 1, own, ⟨#[]⟩, (⟨(⟨0, 0⟩ : Stp), ⟨#[]⟩⟩ : Copy), (⟨0, by decide⟩ : U64)⟩ : Bid).checkE v.weights v.need) != 0)
 have g2 := bnF h2
 refine cnF ?_
 refine skn ?_
 refine sdr 5 ⟨(30, .agg [.ref 2 8 0 0, VI no]) :: (29, VI no) :: (28, VI no) :: (27, (C27 v)) :: (26, (C26 own time)) :: (23, .v (.bool false)) :: (12, VI ((⟨time, 1, own, ⟨#[]⟩, (⟨(⟨0, 0⟩ : Stp), ⟨#[]⟩⟩ : Copy), (⟨0, by decide⟩ : U64)⟩ : Bid).checkE v.weights v.need)) :: (C25 no), [(C0 v), C22, (C24 own time)]⟩ ?_
 refine dwg [.agg [.ref 2 8 0 0, VI no]] ⟨(31, .agg [VI ((⟨(⟨time, 1, own, ⟨#[]⟩, (⟨(⟨0, 0⟩ : Stp), ⟨#[]⟩⟩ : Copy), (⟨0, by decide⟩ : U64)⟩ : Bid).time, no⟩ : Stp).time), VI ((⟨(⟨time, 1, own, ⟨#[]⟩, (⟨(⟨0, 0⟩ : Stp), ⟨#[]⟩⟩ : Copy), (⟨0, by decide⟩ : U64)⟩ : Bid).time, no⟩ : Stp).who)]) :: (30, .agg [.ref 2 8 0 0, VI no]) :: (29, VI no) :: (28, VI no) :: (27, (C27 v)) :: (26, (C26 own time)) :: (23, .v (.bool false)) :: (12, VI ((⟨time, 1, own, ⟨#[]⟩, (⟨(⟨0, 0⟩ : Stp), ⟨#[]⟩⟩ : Copy), (⟨0, by decide⟩ : U64)⟩ : Bid).checkE v.weights v.need)) :: (C25 no), [(C0 v), C22, (C24 own time)]⟩ (at_fn (⟨time, 1, own, ⟨#[]⟩, (⟨(⟨0, 0⟩ : Stp), ⟨#[]⟩⟩ : Copy), (⟨0, by decide⟩ : U64)⟩ : Bid) no) ?_
 refine dwr 2 ⟨(33, .agg [VI 1, VI no, VI 0, VI ((⟨(⟨time, 1, own, ⟨#[]⟩, (⟨(⟨0, 0⟩ : Stp), ⟨#[]⟩⟩ : Copy), (⟨0, by decide⟩ : U64)⟩ : Bid).time, no⟩ : Stp).time), VI ((⟨(⟨time, 1, own, ⟨#[]⟩, (⟨(⟨0, 0⟩ : Stp), ⟨#[]⟩⟩ : Copy), (⟨0, by decide⟩ : U64)⟩ : Bid).time, no⟩ : Stp).who), .v (.string (⟨#[]⟩))]) :: (32, .agg [VI ((⟨(⟨time, 1, own, ⟨#[]⟩, (⟨(⟨0, 0⟩ : Stp), ⟨#[]⟩⟩ : Copy), (⟨0, by decide⟩ : U64)⟩ : Bid).time, no⟩ : Stp).time), VI ((⟨(⟨time, 1, own, ⟨#[]⟩, (⟨(⟨0, 0⟩ : Stp), ⟨#[]⟩⟩ : Copy), (⟨0, by decide⟩ : U64)⟩ : Bid).time, no⟩ : Stp).who), .v (.string (⟨#[]⟩))]) :: (31, .agg [VI ((⟨(⟨time, 1, own, ⟨#[]⟩, (⟨(⟨0, 0⟩ : Stp), ⟨#[]⟩⟩ : Copy), (⟨0, by decide⟩ : U64)⟩ : Bid).time, no⟩ : Stp).time), VI ((⟨(⟨time, 1, own, ⟨#[]⟩, (⟨(⟨0, 0⟩ : Stp), ⟨#[]⟩⟩ : Copy), (⟨0, by decide⟩ : U64)⟩ : Bid).time, no⟩ : Stp).who)]) :: (30, .agg [.ref 2 8 0 0, VI no]) :: (29, VI no) :: (28, VI no) :: (27, (C27 v)) :: (26, (C26 own time)) :: (23, .v (.bool false)) :: (12, VI ((⟨time, 1, own, ⟨#[]⟩, (⟨(⟨0, 0⟩ : Stp), ⟨#[]⟩⟩ : Copy), (⟨0, by decide⟩ : U64)⟩ : Bid).checkE v.weights v.need)) :: (C25 no), [(C0 v), C22, (C24 own time)]⟩ ?_
 refine dwg [(C27 v), .agg [VI 1, VI no, VI 0, VI ((⟨(⟨time, 1, own, ⟨#[]⟩, (⟨(⟨0, 0⟩ : Stp), ⟨#[]⟩⟩ : Copy), (⟨0, by decide⟩ : U64)⟩ : Bid).time, no⟩ : Stp).time), VI ((⟨(⟨time, 1, own, ⟨#[]⟩, (⟨(⟨0, 0⟩ : Stp), ⟨#[]⟩⟩ : Copy), (⟨0, by decide⟩ : U64)⟩ : Bid).time, no⟩ : Stp).who), .v (.string (⟨#[]⟩))]] ⟨(34, .lst 6 ((toAllP v.weights.length (⟨1, no, 0, (⟨(⟨(⟨time, 1, own, ⟨#[]⟩, (⟨(⟨0, 0⟩ : Stp), ⟨#[]⟩⟩ : Copy), (⟨0, by decide⟩ : U64)⟩ : Bid).time, no⟩ : Stp), ⟨#[]⟩⟩ : Copy)⟩ : Vote)).map Vote.cs)) :: (33, .agg [VI 1, VI no, VI 0, VI ((⟨(⟨time, 1, own, ⟨#[]⟩, (⟨(⟨0, 0⟩ : Stp), ⟨#[]⟩⟩ : Copy), (⟨0, by decide⟩ : U64)⟩ : Bid).time, no⟩ : Stp).time), VI ((⟨(⟨time, 1, own, ⟨#[]⟩, (⟨(⟨0, 0⟩ : Stp), ⟨#[]⟩⟩ : Copy), (⟨0, by decide⟩ : U64)⟩ : Bid).time, no⟩ : Stp).who), .v (.string (⟨#[]⟩))]) :: (32, .agg [VI ((⟨(⟨time, 1, own, ⟨#[]⟩, (⟨(⟨0, 0⟩ : Stp), ⟨#[]⟩⟩ : Copy), (⟨0, by decide⟩ : U64)⟩ : Bid).time, no⟩ : Stp).time), VI ((⟨(⟨time, 1, own, ⟨#[]⟩, (⟨(⟨0, 0⟩ : Stp), ⟨#[]⟩⟩ : Copy), (⟨0, by decide⟩ : U64)⟩ : Bid).time, no⟩ : Stp).who), .v (.string (⟨#[]⟩))]) :: (31, .agg [VI ((⟨(⟨time, 1, own, ⟨#[]⟩, (⟨(⟨0, 0⟩ : Stp), ⟨#[]⟩⟩ : Copy), (⟨0, by decide⟩ : U64)⟩ : Bid).time, no⟩ : Stp).time), VI ((⟨(⟨time, 1, own, ⟨#[]⟩, (⟨(⟨0, 0⟩ : Stp), ⟨#[]⟩⟩ : Copy), (⟨0, by decide⟩ : U64)⟩ : Bid).time, no⟩ : Stp).who)]) :: (30, .agg [.ref 2 8 0 0, VI no]) :: (29, VI no) :: (28, VI no) :: (27, (C27 v)) :: (26, (C26 own time)) :: (23, .v (.bool false)) :: (12, VI ((⟨time, 1, own, ⟨#[]⟩, (⟨(⟨0, 0⟩ : Stp), ⟨#[]⟩⟩ : Copy), (⟨0, by decide⟩ : U64)⟩ : Bid).checkE v.weights v.need)) :: (C25 no), [(C0 v), C22, (C24 own time)]⟩ (toAll_fn v (⟨1, no, 0, (⟨(⟨(⟨time, 1, own, ⟨#[]⟩, (⟨(⟨0, 0⟩ : Stp), ⟨#[]⟩⟩ : Copy), (⟨0, by decide⟩ : U64)⟩ : Bid).time, no⟩ : Stp), ⟨#[]⟩⟩ : Copy)⟩ : Vote) (by first | omega | exact bid_len (by assumption))) ?_
 refine dwl 3 [8, 9, 10] ⟨[(10, VI 0), (9, .lst 6 ((toAllP v.weights.length (⟨1, no, 0, (⟨(⟨(⟨time, 1, own, ⟨#[]⟩, (⟨(⟨0, 0⟩ : Stp), ⟨#[]⟩⟩ : Copy), (⟨0, by decide⟩ : U64)⟩ : Bid).time, no⟩ : Stp), ⟨#[]⟩⟩ : Copy)⟩ : Vote)).map Vote.cs)), (8, .ref 1 8 0 0)], (C29 own time v)⟩ ?_
 refine EL.ret ?_
 refine rqe (.tup [(C26 own time), .lst 6 ((toAllP v.weights.length (⟨1, no, 0, (⟨(⟨(⟨time, 1, own, ⟨#[]⟩, (⟨(⟨0, 0⟩ : Stp), ⟨#[]⟩⟩ : Copy), (⟨0, by decide⟩ : U64)⟩ : Bid).time, no⟩ : Stp), ⟨#[]⟩⟩ : Copy)⟩ : Vote)).map Vote.cs), VI 0]) ?_
 rotate_left
 have g2 := bnT h2
 refine cnT ?_
 refine srl 5 [8, 9, 10] ⟨[(10, VI ((⟨time, 1, own, ⟨#[]⟩, (⟨(⟨0, 0⟩ : Stp), ⟨#[]⟩⟩ : Copy), (⟨0, by decide⟩ : U64)⟩ : Bid).checkE v.weights v.need)), (9, .emp), (8, .ref 1 8 0 0)], [(C0 v), C22, (C24 own time)]⟩ ?_
 refine rtr ?_
 refine rqa (.tup [C28, .emp, VI ((⟨time, 1, own, ⟨#[]⟩, (⟨(⟨0, 0⟩ : Stp), ⟨#[]⟩⟩ : Copy), (⟨0, by decide⟩ : U64)⟩ : Bid).checkE v.weights v.need)]) (Ale.tup (aR (aE 6 (aR .nil)))) ?_
 rotate_left
 all_goals (first | rfl | (simp [beginP, Bid.zero, Bid.new, *]; done) | (simp_all [beginP, Bid.zero, Bid.new]; done) | (exfalso; simp_all; omega) | trace_state)
def orU (a : U64) (k : Nat) : U64 := ⟨(a.n ||| 2 ^ k) % 18446744073709551616, Nat.mod_lt _ (by decide)⟩
def andU (a : U64) (k : Nat) : U64 := ⟨(a.n &&& 2 ^ k) % 18446744073709551616, Nat.mod_lt _ (by decide)⟩
theorem pow_lt64 {k : Nat} (h : k < 64) : 2 ^ k < 18446744073709551616 := by
  have := Nat.pow_lt_pow_right (a := 2) (by decide) h; simpa using this
theorem orU_bits {a : U64} {k : Nat} (h : k < 64) : bits .or .u64 (a.n : Int) ((2 ^ k : Nat) : Int) = ((orU a k).n : Int) := by
  rw [bits_or_u64_nat a.n (2 ^ k) a.lt (pow_lt64 h)]
  have hl : a.n ||| 2 ^ k < 18446744073709551616 := by
    have := Nat.or_lt_two_pow (n := 64) (by simpa using a.lt) (by simpa using pow_lt64 h); simpa using this
  show ((a.n ||| 2 ^ k : Nat) : Int) = (((a.n ||| 2 ^ k) % 18446744073709551616 : Nat) : Int)
  rw [Nat.mod_eq_of_lt hl]
theorem andU_bits {a : U64} {k : Nat} (h : k < 64) : bits .and .u64 (a.n : Int) ((2 ^ k : Nat) : Int) = ((andU a k).n : Int) := by
  rw [bits_and_u64_nat a.n (2 ^ k) a.lt (pow_lt64 h)]
  have hl : a.n &&& 2 ^ k < 18446744073709551616 := Nat.lt_of_le_of_lt Nat.and_le_left a.lt
  show ((a.n &&& 2 ^ k : Nat) : Int) = (((a.n &&& 2 ^ k) % 18446744073709551616 : Nat) : Int)
  rw [Nat.mod_eq_of_lt hl]
theorem shl1 {d : Int} (h : 0 ≤ d ∧ d < 64) : IntKind.u64.wrap (1 * 2 ^ (min (Int.toNat d) IntKind.u64.bits)) = ((2 ^ (Int.toNat d) : Nat) : Int) := by
  have e : min (Int.toNat d) IntKind.u64.bits = Int.toNat d := by
    have : IntKind.u64.bits = 64 := rfl
    omega
  have hp := pow_lt64 (k := Int.toNat d) (by omega)
  rw [e, Int.one_mul, show ((2 : Int) ^ (Int.toNat d)) = ((2 ^ (Int.toNat d) : Nat) : Int) by push_cast; rfl, IntKind.wrap_u64]
  generalize (2 : Nat) ^ (Int.toNat d) = p at *
  omega
def fitsP (b : Bid) (no : Int) (m : Vote) : Bool := if b.phase = 1 then decide (m.kind = 2) else if b.phase = 2 then decide (m.kind = 4 ∧ m.copy.at_.time = b.time ∧ m.copy.at_.who = no) else false
section
variable (b : Bid) (m : Vote) (no : Int)
abbrev C30 : LS := [(9, VI b.phase), (3, .ref 1 6 0 0), (2, .ref 0 2 0 0)]
abbrev C31 : LS := [(18, VI m.kind), (17, .ref 1 6 0 0), (15, .v (.bool true)), (3, .ref 1 6 0 0), (2, .ref 0 2 0 0)]
abbrev C32 : AV := .agg [.pim [VI b.time, VI b.phase, .v (.string b.own), .v (.string b.value), VI b.best.at_.time, VI b.best.at_.who, .v (.string b.best.data), .v (.int .u64 (b.heard.n : Int))] 0, VI no]
abbrev C33 : AV := .agg [VI m.copy.at_.time, VI m.copy.at_.who]
abbrev C34 : LS := (24, (C32 b no)) :: (23, (C33 m)) :: (22, .ref 1 6 0 3) :: (21, .ref 1 6 0 3) :: (20, .v (.bool true)) :: (19, .v (.bool true)) :: (C31 m)
abbrev C35 : AV := .agg [VI ((⟨b.time, no⟩ : Stp).time), VI ((⟨b.time, no⟩ : Stp).who)]
end
theorem fits_fn (b : Bid) (no : Int) (m : Vote) : Fn Tryd.prog 90 [.agg [.pim [VI b.time, VI b.phase, .v (.string b.own), .v (.string b.value), VI b.best.at_.time, VI b.best.at_.who, .v (.string b.best.data), .v (.int .u64 (b.heard.n : Int))] 0, VI no], .agg [VI m.kind, VI m.bid, VI m.node, VI m.copy.at_.time, VI m.copy.at_.who, .v (.string m.copy.data)]] (.v (.bool (fitsP b no m))) := by
 refine fnw F90_ok ?_
 refine srl 3 [2, 3] ⟨[(3, .ref 1 6 0 0), (2, .ref 0 2 0 0)], [(C19 b no), (C1 m)]⟩ ?_
 refine EL.seq ?_
 refine srl 5 [2, 3, 9] ⟨(C30 b), [(C19 b no), (C1 m)]⟩ ?_
 refine EL.block ?_
 refine srl 2 [2, 3, 9, 10] ⟨(10, .v (.bool (b.phase == 1))) :: (C30 b), [(C19 b no), (C1 m)]⟩ ?_
 cases h1 : (b.phase == 1)
 have g1 := bqF h1
 refine cnF ?_
 refine srl 2 [2, 3, 15] ⟨[(15, .v (.bool (b.phase == 2))), (3, .ref 1 6 0 0), (2, .ref 0 2 0 0)], [(C19 b no), (C1 m)]⟩ ?_
 cases h2 : (b.phase == 2)
 have g2 := bqF h2
 refine cnF ?_
 refine EL.skip ?_
 refine iN ?_
 refine tN ?_
 refine srl 1 [4] ⟨[(4, .v (.bool false))], [(C19 b no), (C1 m)]⟩ ?_
 refine EL.ret ?_
 refine rqe (.v (.bool false)) ?_
 rotate_left
 have g2 := bqT h2
 refine cnT ?_
 refine sdr 4 ⟨(20, .v (.bool (m.kind == 4))) :: (19, .v (.bool (m.kind == 4))) :: (C31 m), [(C19 b no), (C1 m)]⟩ ?_
 cases h3 : (m.kind == 4)
 have g3 := bqF h3
 refine dwl 8 [4] ⟨[(4, .v (.bool false))], [(C19 b no), (C1 m)]⟩ ?_
 refine EL.ret ?_
 refine iR ?_
 refine tR ?_
 refine rqe (.v (.bool false)) ?_
 rotate_left
 have g3 := bqT h3
 refine dwr 4 ⟨(C34 b m no), [(C19 b no), (C1 m)]⟩ ?_
 refine dwg [(C32 b no)] ⟨(25, (C35 b no)) :: (C34 b m no), [(C19 b no), (C1 m)]⟩ (at_fn b no) ?_
 refine dwl 3 [4] ⟨[(4, .v (.bool ((m.copy.at_.time == (⟨b.time, no⟩ : Stp).time) && ((m.copy.at_.who == (⟨b.time, no⟩ : Stp).who) && true))))], [(C19 b no), (C1 m)]⟩ ?_
 refine EL.ret ?_
 refine iR ?_
 refine tR ?_
 refine rqe (.v (.bool ((m.copy.at_.time == (⟨b.time, no⟩ : Stp).time) && ((m.copy.at_.who == (⟨b.time, no⟩ : Stp).who) && true)))) ?_
 rotate_left
 have g1 := bqT h1
 refine cnT ?_
 refine srl 4 [4] ⟨[(4, .v (.bool (m.kind == 2)))], [(C19 b no), (C1 m)]⟩ ?_
 refine EL.ret ?_
 refine iR ?_
 refine tR ?_
 refine rqe (.v (.bool (m.kind == 2))) ?_
 rotate_left
 all_goals ((refine congrArg (fun b => AV.v (Value.bool b)) ?_; first | (simp [fitsP, *]; done) | (simp_all [fitsP]; done) | (rw [Bool.eq_iff_iff]; simp [fitsP, *]; done) | (rw [Bool.eq_iff_iff]; simp_all [fitsP]; done) | trace_state))
def Copy.raw (c o : Copy) : Copy := if c.at_.lt o.at_ then o else c
section
variable (c : Copy) (o : Copy)
abbrev C36 : OB := some ⟨3, [[VI c.at_.time, VI c.at_.who, .v (.string c.data)]]⟩
abbrev C37 : OB := some ⟨3, [[VI o.at_.time, VI o.at_.who, .v (.string o.data)]]⟩
abbrev C38 : OB := some ⟨3, [[VI 0, VI 0, .v (.string (⟨#[]⟩))]]⟩
abbrev C39 : LS := [(4, .ref 2 3 0 0), (3, .ref 1 3 0 0), (2, .ref 0 3 0 0)]
abbrev C40 : AV := .agg [VI o.at_.time, VI o.at_.who]
abbrev C41 : AV := .agg [VI c.at_.time, VI c.at_.who]
abbrev C42 : LS := (8, (C40 o)) :: (7, .ref 1 3 0 0) :: (6, (C41 c)) :: (5, .ref 0 3 0 0) :: C39
abbrev C43 : AV := .agg [VI o.at_.time, VI o.at_.who, .v (.string o.data)]
abbrev C44 : AV := .agg [VI c.at_.time, VI c.at_.who, .v (.string c.data)]
end
theorem raw_fn (c : Copy) (o : Copy) : Fn Tryd.prog 91 [.agg [VI c.at_.time, VI c.at_.who, .v (.string c.data)], .agg [VI o.at_.time, VI o.at_.who, .v (.string o.data)]] (.agg [VI (((c.raw o).at_).time), VI (((c.raw o).at_).who), .v (.string ((c.raw o).data))]) := by
 refine fnw F91_ok ?_
 refine srl 3 [2, 3, 4] ⟨C39, [(C36 c), (C37 o), C38]⟩ ?_
 refine EL.seq ?_
 refine srr 4 ⟨(C42 c o), [(C36 c), (C37 o), C38]⟩ ?_
 refine owg [(C41 c), (C40 o)] ⟨(9, .v (.bool (decide (c.at_.lt o.at_)))) :: (C42 c o), [(C36 c), (C37 o), C38]⟩ (less_fn c.at_ o.at_) ?_
 refine owl 0 [2, 3, 4, 9] ⟨(9, .v (.bool (decide (c.at_.lt o.at_)))) :: C39, [(C36 c), (C37 o), C38]⟩ ?_
 cases h1 : (decide (c.at_.lt o.at_))
 have g1 := of_decide_eq_false h1
 refine cnF ?_
 refine skn ?_
 refine srl 2 [4] ⟨[(4, .ref 2 3 0 0)], [(C36 c), (C37 o), (C36 c)]⟩ ?_
 refine EL.ret ?_
 refine rqe (C44 c) ?_
 rotate_left
 have g1 := of_decide_eq_true h1
 refine cnT ?_
 refine srl 2 [4] ⟨[(4, .ref 2 3 0 0)], [(C36 c), (C37 o), (C37 o)]⟩ ?_
 refine rtr ?_
 refine rqe (C43 o) ?_
 rotate_left
 all_goals (first | rfl | (simp [Copy.raw, *]; done) | (simp_all [Copy.raw]; done) | trace_state)
end Go.Proofs.YtligepciannclaaDoor
