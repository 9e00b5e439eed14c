/- Small lemmas that every seat's texts use: bytes as UInt8 in the walk's spelling. No condition. -/
import Derived.WalkKit
import Derived.Lib.Hide
import Derived.Lib.QuietBelow
import Derived.BigQuiet
namespace Go.Proofs.Ytdoaefekbbgcmaa
set_option linter.unusedSimpArgs false
set_option linter.unusedVariables false
open Go.RowKit Go.Sort

/-- A byte as the model's value. -/
abbrev B (x : UInt8) : Value := .int .u8 x.toNat
abbrev I (x : Int) : Value := .int .i64 x

theorem B_xor (x y : UInt8) : bits .xor .u8 (x.toNat : Int) (y.toNat : Int) = ((x ^^^ y).toNat : Int) := by
  rw [u8_xor_nat _ _ x.toNat_lt y.toNat_lt, UInt8.toNat_xor]
theorem B_and (x y : UInt8) : bits .and .u8 (x.toNat : Int) (y.toNat : Int) = ((x &&& y).toNat : Int) := by
  rw [u8_and_nat _ _ x.toNat_lt y.toNat_lt, UInt8.toNat_and]
theorem B_or (x y : UInt8) : bits .or .u8 (x.toNat : Int) (y.toNat : Int) = ((x ||| y).toNat : Int) := by
  rw [u8_or_nat _ _ x.toNat_lt y.toNat_lt, UInt8.toNat_or]
theorem B_inj {x y : UInt8} : ((x.toNat : Int) = (y.toNat : Int)) ↔ x = y := by
  constructor
  · intro h; exact UInt8.toNat_inj.1 (by omega)
  · rintro rfl; rfl
theorem B_eq_iff {x y : UInt8} : B x = B y ↔ x = y := by
  constructor
  · intro h; injection h with _ h; exact B_inj.1 h
  · rintro rfl; rfl
theorem B_zero (x : UInt8) : ((x.toNat : Int) == 0) = (x == 0) := by
  rw [Bool.eq_iff_iff]; simp only [beq_iff_eq]; exact ⟨fun h => by apply UInt8.toNat_inj.1; simpa using h, by rintro rfl; rfl⟩
theorem B_lt (x : UInt8) : (0 : Int) ≤ (x.toNat : Int) ∧ (x.toNat : Int) < 256 := ⟨by omega, by have := x.toNat_lt; omega⟩
/-- Two calls one behind the other: what lay below the first world's size is as it was. -/
theorem bt {w a b : World} (h : Below w.heap.size w a) (k : Below a.heap.size a b) : Below w.heap.size w b := h.trans (k.mono h.size)
theorem ofInt_i64 (a : Nat) (ha : a < 9223372036854775808) : (BitVec.ofInt 64 (a : Int)).toNat = a := by
  rw [BitVec.ofInt_natCast, BitVec.toNat_ofNat]; exact Nat.mod_eq_of_lt (by omega)
theorem i64_and_nat (a b : Nat) (ha : a < 9223372036854775808) (hb : b < 9223372036854775808) : bits .and .i64 (a : Int) (b : Int) = ((a &&& b : Nat) : Int) := by
  have hx : a &&& b < 2 ^ 63 := Nat.and_lt_two_pow _ (by omega)
  show IntKind.i64.wrap ((BitVec.ofInt 64 (a : Int) &&& BitVec.ofInt 64 (b : Int)).toNat : Int) = _
  rw [BitVec.toNat_and, ofInt_i64 a ha, ofInt_i64 b hb, IntKind.wrap_i64]
  omega
theorem i64_or_nat (a b : Nat) (ha : a < 9223372036854775808) (hb : b < 9223372036854775808) : bits .or .i64 (a : Int) (b : Int) = ((a ||| b : Nat) : Int) := by
  have hx : a ||| b < 2 ^ 63 := Nat.or_lt_two_pow (by omega) (by omega)
  show IntKind.i64.wrap ((BitVec.ofInt 64 (a : Int) ||| BitVec.ofInt 64 (b : Int)).toNat : Int) = _
  rw [BitVec.toNat_or, ofInt_i64 a ha, ofInt_i64 b hb, IntKind.wrap_i64]
  omega
theorem i64_xor_nat (a b : Nat) (ha : a < 9223372036854775808) (hb : b < 9223372036854775808) : bits .xor .i64 (a : Int) (b : Int) = ((a ^^^ b : Nat) : Int) := by
  have hx : a ^^^ b < 2 ^ 63 := Nat.xor_lt_two_pow (by omega) (by omega)
  show IntKind.i64.wrap ((BitVec.ofInt 64 (a : Int) ^^^ BitVec.ofInt 64 (b : Int)).toNat : Int) = _
  rw [BitVec.toNat_xor, ofInt_i64 a ha, ofInt_i64 b hb, IntKind.wrap_i64]
  omega
theorem u8_of_wf {n : Int} (h : (Lit.int .u8 n).wf = true) : ∃ x : UInt8, n = (x.toNat : Int) := by
  simp only [Lit.wf, Bool.and_eq_true, decide_eq_true_eq] at h
  have h1 : IntKind.u8.min = 0 := rfl
  have h2 : IntKind.u8.max = 255 := rfl
  refine ⟨UInt8.ofNat n.toNat, ?_⟩
  rw [UInt8.toNat_ofNat', Nat.mod_eq_of_lt (by omega)]
  omega
theorem i64_bd {n : Int} (h : (Lit.int .i64 n).wf = true) : -9223372036854775808 ≤ n ∧ n ≤ 9223372036854775807 := by
  simp only [Lit.wf, Bool.and_eq_true, decide_eq_true_eq] at h
  have h1 : IntKind.i64.min = -9223372036854775808 := rfl
  have h2 : IntKind.i64.max = 9223372036854775807 := rfl
  omega
/-! ### A region that draws its order, whose operations read and whose callees make memory -/
@[go_sem] theorem cell_grow {w : World} {a : Addr} {d : Nat} {os : Array Obj} (h : (w.cell? a).isSome = true) : (grow (redrawn w d) os).cell? a = w.cell? a := by
  obtain ⟨v, hv⟩ := Option.isSome_iff_exists.1 h
  rw [hv]; exact cell_regrown hv d os
theorem below_of_regrown {w w' : World} (h : ∃ p : Regrown, w' = grow (redrawn w p.d) p.os) : Below w.heap.size w w' := by
  obtain ⟨p, rfl⟩ := h
  exact below_regrown w p.d p.os
theorem Calls.regrown_same {P : Program} {f : FuncId} {args : Array Value} {w : World} {d : Nat} {os : Array Obj} {v : Value}
    (h : Calls P f args (grow (redrawn w d) os) fun e w' => e = .returned v ∧ grow (redrawn w d) os = w') : Calls P f args (grow (redrawn w d) os) fun e w'' => e = .returned v ∧ ∃ p : Regrown, w'' = grow (redrawn w p.d) p.os :=
  h.mono fun _ _ ⟨he, hb⟩ => ⟨he, ⟨d, os⟩, hb.symm⟩
theorem bcell {W w1 : World} (hb : Below W.heap.size W w1) : (∀ b o, b < W.heap.size → w1.cell? ⟨b, o, none⟩ = W.cell? ⟨b, o, none⟩) ∧ (∀ b o, b < W.heap.size → w1.frozen? ⟨b, o, none⟩ = W.frozen? ⟨b, o, none⟩) :=
  ⟨fun b o h => hb.cell (p := ⟨b, o, none⟩) h, fun b o h => hb.frozen (p := ⟨b, o, none⟩) h⟩
/-! ### Below, step by step from the world in which the call began -/
theorem ba {w a : World} (h : Below w.heap.size w a) (o : Obj) : Below w.heap.size w (a.alloc o) := h.alloc h.size o
theorem bdr {w a : World} (h : Below w.heap.size w a) : Below w.heap.size w a.drew := h.drew
theorem bset {w a : World} (h : Below w.heap.size w a) (p : Addr) (hp : w.heap.size ≤ p.block) (u : Value) : Below w.heap.size w (a.setCell p u) := h.setCell hp u
theorem bvia {m a b c : World} (_ : Below m.heap.size m a) (h : Below m.heap.size m b) (k : Below b.heap.size b c) : Below m.heap.size m c := bt h k
theorem below_rg {w a : World} (h : Below w.heap.size w a) (d : Nat) (os : Array Obj) : Below w.heap.size w (grow (redrawn a d) os) := bt h (below_regrown a d os)
theorem bgr {w a b : World} {row : Option Nat} (h : Below w.heap.size w a) (hg : a.grownBy b row) (hr : ∀ k, row = some k → w.heap.size ≤ k) : Below w.heap.size w b := h.grown hg h.size hr
/-! ### What was returned, number by number -/
theorem r2 {x : Int × Int} {a b : Int} (h : x = (a, b)) : Ending.returned (.tuple #[.int .i64 a, .int .i64 b]) = .returned (.tuple #[.int .i64 x.1, .int .i64 x.2]) := by subst h; rfl
theorem ru2 {x : Nat × Int} {a : Nat} {b : Int} (h : x = (a, b)) : Ending.returned (.tuple #[.int .u64 (a : Int), .int .i64 b]) = .returned (.tuple #[.int .u64 (x.1 : Int), .int .i64 x.2]) := by subst h; rfl
theorem ri {k : IntKind} {a b : Int} (h : a = b) : Ending.returned (.int k a) = Ending.returned (.int k b) := by rw [h]
theorem rb {a b : Bool} (h : a = b) : Ending.returned (.bool a) = Ending.returned (.bool b) := by rw [h]
theorem and_tt {a b : Bool} (h : a = true) (k : b = true) : (a && b) = true := by rw [h, k]; rfl
theorem bodyPost_K {P : Program} {fn : Func} {R : Ending → World → Prop} {a : Act} {w : World} (hd : a.defers = [])
    (h : ∀ K : Value → Prop, Hid (∀ v, R (.returned v) w → K v) → ∃ v, (results fn a.tmps).run P w = .ok v w ∧ K v) : bodyPost P fn R .ret a w := by
  obtain ⟨v, hr, hR⟩ := h (fun v => R (.returned v) w) (Lib.hid fun _ h => h)
  exact bodyPost_ret hr hd hR
/-! ### Blocks whose cells are known -/
/-- Block b of world w holds just the cells vs, none of them frozen. -/
def Blk (w : World) (b : Nat) (vs : List Value) : Prop := b < w.heap.size ∧ (∀ o, w.cell? ⟨b, o, none⟩ = vs[o]?) ∧ ∀ o, w.frozen? ⟨b, o, none⟩ = false
def NeAll (b : Nat) : List (Nat × List Value) → Prop
  | [] => True
  | (b', _) :: L => (b ≠ b' ∧ b' ≠ b) ∧ NeAll b L
def Known (w : World) : List (Nat × List Value) → Prop
  | [] => True
  | (b, vs) :: L => (b < w.heap.size ∧ (∀ o, w.cell? ⟨b, o, none⟩ = vs[o]?) ∧ ∀ o, w.frozen? ⟨b, o, none⟩ = false) ∧ NeAll b L ∧ Known w L
theorem Known.nil (w : World) : Known w [] := True.intro
theorem Known.step {w w' : World} (hb : Below w.heap.size w w') : ∀ {L : List (Nat × List Value)}, Known w L → Known w' L
  | [], _ => True.intro
  | (b, vs) :: L, ⟨⟨h1, h2, h3⟩, h4, h5⟩ => ⟨⟨Nat.lt_of_lt_of_le h1 hb.size, fun o => (hb.cell (p := ⟨b, o, none⟩) h1).trans (h2 o), fun o => (hb.frozen (p := ⟨b, o, none⟩) h1).trans (h3 o)⟩, h4, Known.step hb h5⟩
theorem Known.lt {w : World} {n : Nat} (hn : w.heap.size ≤ n) : ∀ {L : List (Nat × List Value)}, Known w L → NeAll n L
  | [], _ => True.intro
  | (b, vs) :: L, ⟨⟨h1, _, _⟩, _, h5⟩ => ⟨⟨by omega, by omega⟩, Known.lt hn h5⟩
theorem Known.allocO {w : World} {L : List (Nat × List Value)} (h : Known w L) (o : Obj) : Known (w.alloc o) L := h.step ((Below.refl _ _).alloc (Nat.le_refl _) o)
theorem Known.drew {w : World} {L : List (Nat × List Value)} (h : Known w L) : Known w.drew L := h.step (Below.refl _ _).drew
theorem Known.alloc {w : World} {L : List (Nat × List Value)} (h : Known w L) (xs : Array Value) (t : TypeId) : Known (w.alloc (.cells xs t)) ((w.heap.size, xs.toList) :: L) :=
  ⟨⟨by simp, fun o => by rw [World.cell?_alloc_new]; simp, fun o => World.frozen?_alloc_new w xs t o⟩, Known.lt (Nat.le_refl _) h, h.allocO _⟩
/-- The list with cell i of block b set. -/
def setL (b i : Nat) (v : Value) : List (Nat × List Value) → List (Nat × List Value)
  | [] => []
  | (b', vs) :: L => (b', if b' = b then vs.set i v else vs) :: setL b i v L
theorem NeAll.setL {n b i : Nat} {v : Value} : ∀ {L : List (Nat × List Value)}, NeAll n L → NeAll n (setL b i v L)
  | [], _ => True.intro
  | (b', vs) :: L, ⟨h1, h2⟩ => ⟨h1, NeAll.setL h2⟩
theorem cell_setCell (w : World) (b i : Nat) (v : Value) (vs : List Value) (h : ∀ o, w.cell? ⟨b, o, none⟩ = vs[o]?) (o : Nat) : (w.setCell ⟨b, i, none⟩ v).cell? ⟨b, o, none⟩ = (vs.set i v)[o]? := by
  by_cases ho : i = o
  · subst ho
    by_cases hl : i < vs.length
    · rw [World.cell?_setCell_same w ⟨b, i, none⟩ v (u := vs[i]) (by rw [h]; simp [hl])]
      simp [hl]
    · have h1 : w.cell? ⟨b, i, none⟩ = none := by rw [h]; simp; omega
      have h2 : (w.setCell ⟨b, i, none⟩ v).cell? ⟨b, i, none⟩ = none := by
        unfold World.cell? World.setCell at *
        simp only [Array.getElem?_modify, ↓reduceIte] at *
        cases hh : w.heap[b]? with
        | none => simp
        | some x =>
          cases x with
          | cells c e f =>
            simp only [hh] at h
            have h3 := h i
            rw [List.getElem?_eq_none (by omega)] at h3
            simp at h3
            simp; omega
          | _ => simp
      rw [h2]; simp; omega
  · rw [World.cell?_setCell_other w ⟨b, i, none⟩ ⟨b, o, none⟩ v (by simp [ho]), h]
    simp [List.getElem?_set, ho]
theorem Known.setCell {w : World} (b i : Nat) (v : Value) : ∀ {L : List (Nat × List Value)}, Known w L → Known (w.setCell ⟨b, i, none⟩ v) (setL b i v L)
  | [], _ => True.intro
  | (b', vs) :: L, ⟨⟨h1, h2, h3⟩, h4, h5⟩ => by
    refine ⟨⟨by simpa [World.setCell] using h1, fun o => ?_, fun o => by rw [World.frozen?_setCell]; exact h3 o⟩, h4.setL, h5.setCell b i v⟩
    by_cases hb : b' = b
    · subst hb
      rw [if_pos rfl]
      exact cell_setCell w b' i v vs h2 o
    · rw [if_neg hb, World.cell?_setCell_other w ⟨b, i, none⟩ ⟨b', o, none⟩ v (fun h => hb (congrArg Addr.block h).symm), h2]
theorem Known.to {w : World} {L L' : List (Nat × List Value)} (h : Known w L) (e : L = L') : Known w L' := e ▸ h
theorem Known.via {w : World} {L L' : List (Nat × List Value)} (h : Known w L) (k : Known w L → Known w L') : Known w L' := k h
theorem Known.bw {w a b : World} {L : List (Nat × List Value)} (_ : Known w L) (h1 : Below w.heap.size w a) (h2 : Below a.heap.size a b) : Below w.heap.size w b := bt h1 h2
theorem Known.bwg {w a b : World} {L : List (Nat × List Value)} {row : Option Nat} (_ : Known w L) (h1 : Below w.heap.size w a) (hg : a.grownBy b row) (hr : ∀ k, row = some k → w.heap.size ≤ k) : Below w.heap.size w b := bgr h1 hg hr
theorem know_here {P : Program} {c : Code} {Q : Exit → Act → World → Prop} {a : Act} {w0 w : World} {L : List (Nat × List Value)} (h : Known w L) (hb : Below w0.heap.size w0 w) (k : Known w L → Below w0.heap.size w0 w → c.wp P Q a w) : c.wp P Q a w := k h hb
/-! ### Between two bounds -/
def wi (n lo hi : Int) : Bool := decide (lo ≤ n ∧ n ≤ hi)
theorem wi_yes {n lo hi : Int} (h : lo ≤ n ∧ n ≤ hi) : wi n lo hi = true := by simp [wi, h]
theorem wi_no {n lo hi : Int} (h : ¬ (lo ≤ n ∧ n ≤ hi)) : wi n lo hi = false := by unfold wi; exact decide_eq_false h
theorem wi_bd {n lo hi : Int} (h : wi n lo hi = true) : lo ≤ n ∧ n ≤ hi := by simpa [wi] using h
theorem wi_iff {n lo hi : Int} : wi n lo hi = true ↔ lo ≤ n ∧ n ≤ hi := by simp [wi]
theorem wi_iffF {n lo hi : Int} : wi n lo hi = false ↔ n < lo ∨ hi < n := by
  simp only [wi, decide_eq_false_iff_not]; omega
theorem wi_not {n lo hi : Int} (h : wi n lo hi = false) : n < lo ∨ hi < n := by
  have h1 := of_decide_eq_false h
  omega
end Go.Proofs.Ytdoaefekbbgcmaa
