/- Small lemmas that every seat's texts use: bytes as UInt8 in the walk's spelling. No condition. -/
import Derived.WalkKit
import Derived.Lib.Hide
import Derived.Lib.QuietBelow
import Derived.BigQuiet
namespace Go.Proofs.YtgepadjkegfokaaDoor
set_option linter.unusedSimpArgs false
set_option linter.unusedVariables false
open Go.RowKit Go.Sort
/-- A byte as the model's value. -/
abbrev B (x : UInt8) : Value := .int .u8 x.toNat
abbrev I (x : Int) : Value := .int .i64 x
/-- Two calls one behind the other: what lay below the first world's size is as it was. -/
theorem bt {w a b : World} (h : Below w.heap.size w a) (k : Below a.heap.size a b) : Below w.heap.size w b := h.trans (k.mono h.size)
theorem i64_bd {n : Int} (h : (Lit.int .i64 n).wf = true) : -9223372036854775808 ≤ n ∧ n ≤ 9223372036854775807 := by
  simp only [Lit.wf, Bool.and_eq_true, decide_eq_true_eq] at h
  have h1 : IntKind.i64.min = -9223372036854775808 := rfl
  have h2 : IntKind.i64.max = 9223372036854775807 := rfl
  omega
@[go_sem] theorem cell_grow {w : World} {a : Addr} {d : Nat} {os : Array Obj} (h : (w.cell? a).isSome = true) : (grow (redrawn w d) os).cell? a = w.cell? a := by
  obtain ⟨v, hv⟩ := Option.isSome_iff_exists.1 h
  rw [hv]; exact cell_regrown hv d os
theorem r2 {x : Int × Int} {a b : Int} (h : x = (a, b)) : Ending.returned (.tuple #[.int .i64 a, .int .i64 b]) = .returned (.tuple #[.int .i64 x.1, .int .i64 x.2]) := by subst h; rfl
theorem ri {k : IntKind} {a b : Int} (h : a = b) : Ending.returned (.int k a) = Ending.returned (.int k b) := by rw [h]
def NeAll (b : Nat) : List (Nat × List Value) → Prop
  | [] => True
  | (b', _) :: L => (b ≠ b' ∧ b' ≠ b) ∧ NeAll b L
def Known (w : World) : List (Nat × List Value) → Prop
  | [] => True
  | (b, vs) :: L => (b < w.heap.size ∧ (∀ o, w.cell? ⟨b, o, none⟩ = vs[o]?) ∧ ∀ o, w.frozen? ⟨b, o, none⟩ = false) ∧ NeAll b L ∧ Known w L
theorem Known.nil (w : World) : Known w [] := True.intro
theorem Known.step {w w' : World} (hb : Below w.heap.size w w') : ∀ {L : List (Nat × List Value)}, Known w L → Known w' L
  | [], _ => True.intro
  | (b, vs) :: L, ⟨⟨h1, h2, h3⟩, h4, h5⟩ => ⟨⟨Nat.lt_of_lt_of_le h1 hb.size, fun o => (hb.cell (p := ⟨b, o, none⟩) h1).trans (h2 o), fun o => (hb.frozen (p := ⟨b, o, none⟩) h1).trans (h3 o)⟩, h4, Known.step hb h5⟩
theorem Known.lt {w : World} {n : Nat} (hn : w.heap.size ≤ n) : ∀ {L : List (Nat × List Value)}, Known w L → NeAll n L
  | [], _ => True.intro
  | (b, vs) :: L, ⟨⟨h1, _, _⟩, _, h5⟩ => ⟨⟨by omega, by omega⟩, Known.lt hn h5⟩
theorem Known.allocO {w : World} {L : List (Nat × List Value)} (h : Known w L) (o : Obj) : Known (w.alloc o) L := h.step ((Below.refl _ _).alloc (Nat.le_refl _) o)
theorem Known.drew {w : World} {L : List (Nat × List Value)} (h : Known w L) : Known w.drew L := h.step (Below.refl _ _).drew
theorem Known.alloc {w : World} {L : List (Nat × List Value)} (h : Known w L) (xs : Array Value) (t : TypeId) : Known (w.alloc (.cells xs t)) ((w.heap.size, xs.toList) :: L) :=
  ⟨⟨by simp, fun o => by rw [World.cell?_alloc_new]; simp, fun o => World.frozen?_alloc_new w xs t o⟩, Known.lt (Nat.le_refl _) h, h.allocO _⟩
theorem Known.to {w : World} {L L' : List (Nat × List Value)} (h : Known w L) (e : L = L') : Known w L' := e ▸ h
theorem Known.via {w : World} {L L' : List (Nat × List Value)} (h : Known w L) (k : Known w L → Known w L') : Known w L' := k h
def wi (n lo hi : Int) : Bool := decide (lo ≤ n ∧ n ≤ hi)
theorem wi_iff {n lo hi : Int} : wi n lo hi = true ↔ lo ≤ n ∧ n ≤ hi := by simp [wi]
theorem wi_iffF {n lo hi : Int} : wi n lo hi = false ↔ n < lo ∨ hi < n := by
  simp only [wi, decide_eq_false_iff_not]; omega
end Go.Proofs.YtgepadjkegfokaaDoor
