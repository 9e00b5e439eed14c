/- How the laws of quorums take their arguments apart; the table of the library, out of what the row lists. No condition. -/
import Derived.Test.YtfgjfghljhldfaaDoorPAvLaw
import Derived.Test.YtfgjfghljhldfaaDoorPQuorA
import Derived.Test.YtfgjfghljhldfaaDoorTie
import Derived.Test.YtfgjfghljhldfaaDoorCards
import Derived.Lib.LaidTab
import Derived.LaidMore
import Derived.Stop.Joined
namespace Go.Proofs.YtfgjfghljhldfaaDoor
set_option linter.unusedSimpArgs false
set_option linter.unusedVariables false
theorem opens_i64 : Opens Tryd.prog 3 Int := GoT_i64 Tryd.underlying3 (by kernel_rfl)
theorem opens_Li64 : Opens Tryd.prog 22 (List Int) := opens_slice Tryd.underlying22 (by kernel_rfl) opens_i64 (by decide)
theorem gl_gN : Tryd.prog.globalNamed "math/bits.deBruijn64tab" = some 0 := by kernel_rfl
theorem gl_cells {W : World} (h : laidMetH Tryd.prog [("math/bits.deBruijn64tab", Rows.laid_math_bits_deBruijn64tab)] W) : ∀ (i : Nat) v, glT[i]? = some v → W.cell? ⟨0, i, none⟩ = some v := by
  rw [MakeChecks.laidMetH_plain _ _ _ (by kernel_rfl)] at h
  have hT := Lib.tabIs_of_head (k := .u8) (zs := glZ) gl_gN (by kernel_rfl) Tryd.underlying41 Tryd.underlying5 (by kernel_rfl) (by kernel_rfl) h
  intro i v hv
  have hi : i < glZ.length := by
    have := (List.getElem?_eq_some_iff.1 hv).1; simpa [glT] using this
  have := hT.cell gl_gN i hi
  rw [this]
  simp only [glT, List.getElem?_map, Option.map_eq_some_iff] at hv
  obtain ⟨z, hz, rfl⟩ := hv
  simp [List.getD, hz]
theorem glE_of {W : World} (h : laidMetH Tryd.prog [("math/bits.deBruijn64tab", Rows.laid_math_bits_deBruijn64tab)] W) : GlE (E0 W fun b => b < W.heap.size) :=
  ⟨cell_lt (gl_cells h 0 _ rfl), gl_cells h⟩
end Go.Proofs.YtfgjfghljhldfaaDoor
