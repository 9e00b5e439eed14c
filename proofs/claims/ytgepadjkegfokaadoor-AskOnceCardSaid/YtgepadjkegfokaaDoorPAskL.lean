/- How the laws of operations take their arguments apart; the table of the library, out of what the row lists. No condition. -/
import Derived.Test.YtgepadjkegfokaaDoorPAvLaw
import Derived.Test.YtgepadjkegfokaaDoorPAskB
import Derived.Test.YtgepadjkegfokaaDoorTie
import Derived.Test.YtgepadjkegfokaaDoorCards
import Derived.Lib.LaidTab
import Derived.LaidMore
import Derived.Stop.Joined
namespace Go.Proofs.YtgepadjkegfokaaDoor
set_option linter.unusedSimpArgs false
set_option linter.unusedVariables false
instance : GoT Voters := GoT.via (fun x => (x.weights, x.need))
theorem opens_i64 : Opens Tryd.prog 3 Int := GoT_i64 Tryd.underlying3 (by kernel_rfl)
theorem opens_Stamp : Opens Tryd.prog 26 Stamp := Opens.via (opens_struct Tryd.underlying26 rfl (by kernel_rfl) (opens_cons opens_i64 rfl (opens_last opens_i64 rfl))) _ (fun p => ⟨p.1, p.2⟩) (fun _ => rfl)
theorem opens_str : Opens Tryd.prog 9 ByteArray := GoT_str Tryd.underlying9 (by kernel_rfl)
theorem opens_Copy : Opens Tryd.prog 28 Copy := Opens.via (opens_struct Tryd.underlying28 rfl (by kernel_rfl) (opens_cons opens_Stamp rfl (opens_last opens_str rfl))) _ (fun p => ⟨p.1, p.2⟩) (fun _ => rfl)
theorem opens_Msg : Opens Tryd.prog 33 Msg := Opens.via (opens_struct Tryd.underlying33 rfl (by kernel_rfl) (opens_cons opens_i64 rfl (opens_cons opens_i64 rfl (opens_cons opens_i64 rfl (opens_last opens_Copy rfl))))) _ (fun p => ⟨p.1, p.2.1, p.2.2.1, p.2.2.2⟩) (fun _ => rfl)
theorem opens_u64 : Opens Tryd.prog 29 U64 := GoT_u64 Tryd.underlying29 (by kernel_rfl)
theorem opens_Ask : Opens Tryd.prog 31 Ask := Opens.via (opens_struct Tryd.underlying31 rfl (by kernel_rfl) (opens_cons opens_i64 rfl (opens_cons opens_i64 rfl (opens_cons opens_i64 rfl (opens_cons opens_str rfl (opens_cons opens_Copy rfl (opens_last opens_u64 rfl))))))) _ (fun p => ⟨p.1, p.2.1, p.2.2.1, p.2.2.2.1, p.2.2.2.2.1, p.2.2.2.2.2⟩) (fun _ => rfl)
theorem opens_Li64 : Opens Tryd.prog 22 (List Int) := opens_slice Tryd.underlying22 (by kernel_rfl) opens_i64 (by decide)
theorem opens_Voters : Opens Tryd.prog 24 Voters := Opens.via (opens_struct Tryd.underlying24 rfl (by kernel_rfl) (opens_cons opens_Li64 rfl (opens_last opens_i64 rfl))) _ (fun p => ⟨p.1, p.2⟩) (fun _ => rfl)
theorem rep_ints {w : World} {A : Option Addr} {n c : Nat} {xs : List Int} (h : GoT.rep w w.heap.size [.slice A n c] xs) : Rep (E0 w fun b => b < w.heap.size) (.slice A n c) (.lst 1 (xs.map cI)) :=
  rep_list (fun x : Int => [I x]) (fun x => -9223372036854775808 ≤ x ∧ x ≤ 9223372036854775807) (fun h => h) (fun _ => rfl) (by intro x v hv; simp at hv; subst hv; exact ⟨rfl, rfl⟩) h
theorem Voters.av {w : World} {cs : List Value} {v : Voters} (h : GoT.rep w w.heap.size cs v) :
    Rep (E0 w fun b => b < w.heap.size) (.agg cs.toArray) (.agg [.lst 1 (v.weights.map cI), VI v.need]) ∧ v.weights.length ≤ 9223372036854775807 := by
  obtain ⟨c0, r0, rfl, h0, h1⟩ := h
  obtain ⟨A0, n0, k0, rfl, g0⟩ := h0
  obtain ⟨rfl, _⟩ := h1
  refine ⟨R2.agg (.cons (rep_ints ⟨_, _, _, rfl, g0⟩) (.cons (.v rfl) .nil)), ?_⟩
  have := g0.1; have := g0.2.1; have := g0.2.2.1
  dsimp only at *
  omega
theorem gl_gN : Tryd.prog.globalNamed "math/bits.deBruijn64tab" = some 0 := by kernel_rfl
theorem gl_cells {W : World} (h : laidMetH Tryd.prog [("math/bits.deBruijn64tab", Rows.laid_math_bits_deBruijn64tab)] W) : ∀ (i : Nat) v, glT[i]? = some v → W.cell? ⟨0, i, none⟩ = some v := by
  rw [MakeChecks.laidMetH_plain _ _ _ (by kernel_rfl)] at h
  have hT := Lib.tabIs_of_head (k := .u8) (zs := glZ) gl_gN (by kernel_rfl) Tryd.underlying86 Tryd.underlying5 (by kernel_rfl) (by kernel_rfl) h
  intro i v hv
  have hi : i < glZ.length := by
    have := (List.getElem?_eq_some_iff.1 hv).1; simpa [glT] using this
  have := hT.cell gl_gN i hi
  rw [this]
  simp only [glT, List.getElem?_map, Option.map_eq_some_iff] at hv
  obtain ⟨z, hz, rfl⟩ := hv
  simp [List.getD, hz]
theorem glE_of {W : World} (h : laidMetH Tryd.prog [("math/bits.deBruijn64tab", Rows.laid_math_bits_deBruijn64tab)] W) : GlE (E0 W fun b => b < W.heap.size) :=
  ⟨cell_lt (gl_cells h 0 _ rfl), gl_cells h⟩
end Go.Proofs.YtgepadjkegfokaaDoor
