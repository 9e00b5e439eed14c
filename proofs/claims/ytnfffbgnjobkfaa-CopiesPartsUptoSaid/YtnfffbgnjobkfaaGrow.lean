/- A list that a loop makes by append, beside blocks whose cells are known. No condition. -/
import Derived.Test.YtnfffbgnjobkfaaApp
import Derived.Deep.AppendLies
import Derived.Deep.Onto
import Derived.Deep.RegionLaw
namespace Go.Proofs.Ytnfffbgnjobkfaa
set_option linter.unusedSimpArgs false
set_option linter.unusedVariables false
open Go.ChangeShapes Go.WideShapes Go.ChangeAt Go.RowKit
open Go.ChangeMaps (open_string shut_string)
theorem Row.step {w w' : World} {base : Nat} {e : TypeId} {size : Nat} {v : Value} {n : Nat} {xs : List Value} (hb : Below w.heap.size w w') (h : w.ownsRow base e size v n xs) : w'.ownsRow base e size v n xs :=
  h.kept (row := none) ⟨hb.os, hb.tape, hb.output, hb.size, fun k hk _ => hb.block k hk⟩ (by cases v.ownBlock <;> simp)
theorem Row.set {w : World} {base : Nat} {e : TypeId} {size : Nat} {v : Value} {n : Nat} {xs : List Value} (b i : Nat) (u : Value) (hne : v.ownBlock ≠ some b) (h : w.ownsRow base e size v n xs) : (w.setCell ⟨b, i, none⟩ u).ownsRow base e size v n xs :=
  h.kept (row := some b) ⟨rfl, rfl, rfl, by simp, fun k _ hk => by
    simp only [World.setCell, Array.getElem?_modify]
    rw [if_neg (fun e => hk (by rw [e]))]⟩ (.inr hne)
theorem setL_far {b i : Nat} {v : Value} : ∀ {L : List (Nat × List Value)}, NeAll b L → setL b i v L = L
  | [], _ => rfl
  | (b', vs) :: L, ⟨h1, h2⟩ => by rw [setL, if_neg h1.2, setL_far h2]
theorem Known.setHead {w : World} {b i : Nat} {v : Value} {vs : List Value} {L : List (Nat × List Value)} (h : Known w ((b, vs) :: L)) : Known (w.setCell ⟨b, i, none⟩ v) ((b, vs.set i v) :: L) := by
  have h2 := Known.setCell b i v h
  rw [setL, if_pos rfl, setL_far h.2.1] at h2
  exact h2
theorem Known.grow {w w' : World} {row : Option Nat} (hg : w.grownBy w' row) : ∀ {L : List (Nat × List Value)}, Known w L → (∀ b vs, (b, vs) ∈ L → row ≠ some b) → Known w' L
  | [], _, _ => True.intro
  | (b, vs) :: L, ⟨⟨h1, h2, h3⟩, h4, h5⟩, hne => by
    have hn : some b ≠ row := fun e => hne b vs (by simp) e.symm
    exact ⟨⟨Nat.lt_of_lt_of_le h1 hg.size, fun o => (hg.cell_far ⟨b, o, none⟩ h1 hn).trans (h2 o), fun o => (hg.frozen_far ⟨b, o, none⟩ h1 hn).trans (h3 o)⟩, h4, Known.grow hg h5 fun c vs hm => hne c vs (by simp [hm])⟩
/-- One element in its new block, as append's source. -/
theorem src_one {α : Type} [GoT α] (F : Flat α) {w : World} {b b' : Nat} {L : List (Nat × List Value)} (y : α) {vs : List Value} (h : Known w ((b', vs) :: L)) (hb : b' = b) (hv : vs = F.enc y) : SrcAt F w (some ⟨b, 0, none⟩) 1 [y] := by
  subst hv
  subst hb
  refine ⟨rfl, by simp, fun ad hA j u hj => ?_⟩
  injection hA with hA
  subst hA
  rw [addr_add, Nat.zero_add, h.1.2.1]
  simpa using hj
theorem news_one {α : Type} [GoT α] (F : Flat α) {w : World} {b b' : Nat} {L : List (Nat × List Value)} (y : α) {vs : List Value} (h : Known w ((b', vs) :: L)) (hb : b' = b) (hv : vs = F.enc y) : ∀ j u, (F.enc y)[j]? = some u → w.cell? ((⟨b, 0, none⟩ : Addr).add j) = some u := by
  have := (src_one F y h hb hv).2.2 _ rfl
  simpa using this
theorem lit_base {P : Program} {ops : Array Oper} {rest : List Oper} {a : Act} {Q : Exit → Act → World → Prop} {W : World} {e : TypeId} (size : Nat)
    (k : ∀ bs, bs = W.heap.size → (W.alloc (.cells #[] e)).ownsRow bs e size (.slice (some ⟨W.heap.size, 0, none⟩) 0 0) 0 [] → wpList P ops Q rest a (W.alloc (.cells #[] e))) : wpList P ops Q rest a (W.alloc (.cells #[] e)) :=
  lit_here size (fun h => k _ rfl h)
theorem Known.lt_all {w : World} : ∀ {L : List (Nat × List Value)}, Known w L → ∀ b vs, (b, vs) ∈ L → b < w.heap.size
  | [], _, b, vs, hm => by cases hm
  | (b', vs') :: L, ⟨⟨h1, _, _⟩, _, h5⟩, b, vs, hm => by
    rcases List.mem_cons.1 hm with e | hm
    · cases e; exact h1
    · exact Known.lt_all h5 b vs hm
theorem grown_lit {W w' : World} {o : Obj} {g : Nat} (e : g = W.heap.size) (hg : (W.alloc o).grownBy w' (Value.slice (some ⟨g, 0, none⟩) 0 0).ownBlock) {L : List (Nat × List Value)} (h : Known W L) : Known w' L ∧ Below W.heap.size W w' ∧ ∀ b vs, (b, vs) ∈ L → b < W.heap.size :=
  have h2 := (Known.app hg (fun k hk => by cases hk; exact Nat.le_of_eq e.symm) h).2
  ⟨h2.1, h2.2, Known.lt_all h⟩
theorem row_snoc {α : Type} [GoT α] (F : Flat α) {w : World} {base : Nat} {e : TypeId} {size : Nat} {v : Value} {l : List α} {y : α} (h : w.ownsRow base e size v (l.length + 1) (l.flatMap F.enc ++ F.enc y)) : w.ownsRow base e size v (l ++ [y]).length ((l ++ [y]).flatMap F.enc) := by
  simpa using h
theorem grow_here {w : World} {base : Nat} {e : TypeId} {size : Nat} {v : Value} {n : Nat} {xs : List Value} (h : w.ownsRow base e size v n xs) : ∀ k, v.ownBlock = some k → base ≤ k ∧ k < w.heap.size := h.lt
end Go.Proofs.Ytnfffbgnjobkfaa
