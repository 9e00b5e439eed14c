/- How the laws of operations take their arguments apart; the table of the library, out of what the row lists. No condition. -/
import Derived.Test.YtgepadjkegfokaaDoorPAvLaw
import Derived.Test.YtgepadjkegfokaaDoorPAskB
import Derived.Test.YtgepadjkegfokaaDoorTie
import Derived.Test.YtgepadjkegfokaaDoorCards
import Derived.Lib.LaidTab
import Derived.LaidMore
import Derived.Stop.Joined
namespace Go.Proofs.YtgepadjkegfokaaDoor
set_option linter.unusedSimpArgs false
set_option linter.unusedVariables false
instance : GoT Voters := GoT.via (fun x => (x.weights, x.need))
theorem opens_i64 : Opens Tryd.prog 3 Int := GoT_i64 Tryd.underlying3 (by kernel_rfl)
theorem opens_Stamp : Opens Tryd.prog 26 Stamp := Opens.via (opens_struct Tryd.underlying26 rfl (by kernel_rfl) (opens_cons opens_i64 rfl (opens_last opens_i64 rfl))) _ (fun p => ⟨p.1, p.2⟩) (fun _ => rfl)
theorem opens_str : Opens Tryd.prog 9 ByteArray := GoT_str Tryd.underlying9 (by kernel_rfl)
theorem opens_Copy : Opens Tryd.prog 28 Copy := Opens.via (opens_struct Tryd.underlying28 rfl (by kernel_rfl) (opens_cons opens_Stamp rfl (opens_last opens_str rfl))) _ (fun p => ⟨p.1, p.2⟩) (fun _ => rfl)
theorem opens_Msg : Opens Tryd.prog 33 Msg := Opens.via (opens_struct Tryd.underlying33 rfl (by kernel_rfl) (opens_cons opens_i64 rfl (opens_cons opens_i64 rfl (opens_cons opens_i64 rfl (opens_last opens_Copy rfl))))) _ (fun p => ⟨p.1, p.2.1, p.2.2.1, p.2.2.2⟩) (fun _ => rfl)
theorem gl_gN : Tryd.prog.globalNamed "math/bits.deBruijn64tab" = some 0 := by kernel_rfl
theorem gl_cells {W : World} (h : laidMetH Tryd.prog [("math/bits.deBruijn64tab", Rows.laid_math_bits_deBruijn64tab)] W) : ∀ (i : Nat) v, glT[i]? = some v → W.cell? ⟨0, i, none⟩ = some v := by
  rw [MakeChecks.laidMetH_plain _ _ _ (by kernel_rfl)] at h
  have hT := Lib.tabIs_of_head (k := .u8) (zs := glZ) gl_gN (by kernel_rfl) Tryd.underlying86 Tryd.underlying5 (by kernel_rfl) (by kernel_rfl) h
  intro i v hv
  have hi : i < glZ.length := by
    have := (List.getElem?_eq_some_iff.1 hv).1; simpa [glT] using this
  have := hT.cell gl_gN i hi
  rw [this]
  simp only [glT, List.getElem?_map, Option.map_eq_some_iff] at hv
  obtain ⟨z, hz, rfl⟩ := hv
  simp [List.getD, hz]
theorem glE_of {W : World} (h : laidMetH Tryd.prog [("math/bits.deBruijn64tab", Rows.laid_math_bits_deBruijn64tab)] W) : GlE (E0 W fun b => b < W.heap.size) :=
  ⟨cell_lt (gl_cells h 0 _ rfl), gl_cells h⟩
end Go.Proofs.YtgepadjkegfokaaDoor
