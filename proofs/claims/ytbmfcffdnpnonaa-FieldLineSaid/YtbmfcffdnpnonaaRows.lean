/-
  No cell of these rows narrows 'for every input' (looked for: loops, veiled, ifaces, maps, wideKeys, modest, calm, conditions, laid).
  DERIVED. THE GIVEN ROWS OF THIS SEAT. 6 by the template 'for every input the law returns true; each argument reads behind the call as it read before'; 0 by the template 'total and deterministic' (their statements: YtbmfcffdnpnonaaTotals.lean).
  GIVEN WITH THE SEED: the statements are not yours to turn. If you find one false, say at which input.
  Laid BY PROGRAM, IN A SANDBOX (cutbox-rows.mjs): the forced cells as the released guide's own fill.sh prints them over the translation f84f98d9ae9835bf… (all of the seat's roots in one cut). By AI agents, Wed Nov 11 2026. No macro, syntax, notation, axiom, sorry.
-/
import Derived.Test.YtbmfcffdnpnonaaChecked
import GoSem.Claim
import GoSem.ClaimJoined
import GoSem.ClaimMapViews
import Derived.JoinedTies
import Derived.KernelRfl
namespace Go.Proofs.Ytbmfcffdnpnonaa
/- THE CELL 'sum', in the pinned program and in every row, IS THE sha256 OF THE DUMP (.gsa) THAT YtbmfcffdnpnonaaProg.lean LOADS. Nothing in Lean hashes anything: it is a label: what it is worth is what the hold of that sum in a sandbox is worth. -/
noncomputable def Try.pinned : Pinned := { name := "ytbmfcffdnpnonaa", sum := "f84f98d9ae9835bf2f94b0879d7f5735ccce086af1c8144a78a0ba31176e3aaa", checked := Try.checked }
namespace Rows
def none {H : Type} : Left H := { results := [], args := [] }

/-- 'supercargolaw.FieldTells': WHATEVER THE INPUT: true; the input reads as it did. -/
def fieldTellsSpec : ChangeSpec := { name := "fieldTells", fn := fun _ => fun
  | [d1, d2, d3] => { results := [.lit (.bool true)], args := [d1, d2, d3] }
  | _ => none }
def fieldTellsRow : OpenClaim := { program := "ytbmfcffdnpnonaa", sum := "f84f98d9ae9835bf2f94b0879d7f5735ccce086af1c8144a78a0ba31176e3aaa", func := "supercargo/supercargolaw.FieldTells", spec := "fieldTells", apart := false }
def FieldTellsSaid : Prop := fieldTellsRow.holds Try.pinned (OpenSpec.ofChange fieldTellsSpec)

/-- ITS FALSE NEIGHBOUR: 'it returns false'. Refute it at one input. -/
def fieldTellsWrong : ChangeSpec := { name := "fieldTells", fn := fun _ => fun
  | [d1, d2, d3] => { results := [.lit (.bool false)], args := [d1, d2, d3] }
  | _ => none }
def FieldTellsWrongFalsely : Prop := fieldTellsRow.holds Try.pinned (OpenSpec.ofChange fieldTellsWrong)

/-- 'supercargolaw.FieldRing': WHATEVER THE INPUT: true; the input reads as it did. -/
def fieldRingSpec : ChangeSpec := { name := "fieldRing", fn := fun _ => fun
  | [d1, d2, d3] => { results := [.lit (.bool true)], args := [d1, d2, d3] }
  | _ => none }
def fieldRingRow : OpenClaim := { program := "ytbmfcffdnpnonaa", sum := "f84f98d9ae9835bf2f94b0879d7f5735ccce086af1c8144a78a0ba31176e3aaa", func := "supercargo/supercargolaw.FieldRing", spec := "fieldRing", apart := false }
def FieldRingSaid : Prop := fieldRingRow.holds Try.pinned (OpenSpec.ofChange fieldRingSpec)

/-- ITS FALSE NEIGHBOUR: 'it returns false'. Refute it at one input. -/
def fieldRingWrong : ChangeSpec := { name := "fieldRing", fn := fun _ => fun
  | [d1, d2, d3] => { results := [.lit (.bool false)], args := [d1, d2, d3] }
  | _ => none }
def FieldRingWrongFalsely : Prop := fieldRingRow.holds Try.pinned (OpenSpec.ofChange fieldRingWrong)

/-- 'supercargolaw.FieldInverse': WHATEVER THE INPUT: true; the input reads as it did. -/
def fieldInverseSpec : ChangeSpec := { name := "fieldInverse", fn := fun _ => fun
  | [d1, d2] => { results := [.lit (.bool true)], args := [d1, d2] }
  | _ => none }
def fieldInverseRow : OpenClaim := { program := "ytbmfcffdnpnonaa", sum := "f84f98d9ae9835bf2f94b0879d7f5735ccce086af1c8144a78a0ba31176e3aaa", func := "supercargo/supercargolaw.FieldInverse", spec := "fieldInverse", apart := false }
def FieldInverseSaid : Prop := fieldInverseRow.holds Try.pinned (OpenSpec.ofChange fieldInverseSpec)

/-- ITS FALSE NEIGHBOUR: 'it returns false'. Refute it at one input. -/
def fieldInverseWrong : ChangeSpec := { name := "fieldInverse", fn := fun _ => fun
  | [d1, d2] => { results := [.lit (.bool false)], args := [d1, d2] }
  | _ => none }
def FieldInverseWrongFalsely : Prop := fieldInverseRow.holds Try.pinned (OpenSpec.ofChange fieldInverseWrong)

/-- 'supercargolaw.FieldPower': WHATEVER THE INPUT: true; the input reads as it did. -/
def fieldPowerSpec : ChangeSpec := { name := "fieldPower", fn := fun _ => fun
  | [d1, d2, d3] => { results := [.lit (.bool true)], args := [d1, d2, d3] }
  | _ => none }
def fieldPowerRow : OpenClaim := { program := "ytbmfcffdnpnonaa", sum := "f84f98d9ae9835bf2f94b0879d7f5735ccce086af1c8144a78a0ba31176e3aaa", func := "supercargo/supercargolaw.FieldPower", spec := "fieldPower", apart := false }
def FieldPowerSaid : Prop := fieldPowerRow.holds Try.pinned (OpenSpec.ofChange fieldPowerSpec)

/-- ITS FALSE NEIGHBOUR: 'it returns false'. Refute it at one input. -/
def fieldPowerWrong : ChangeSpec := { name := "fieldPower", fn := fun _ => fun
  | [d1, d2, d3] => { results := [.lit (.bool false)], args := [d1, d2, d3] }
  | _ => none }
def FieldPowerWrongFalsely : Prop := fieldPowerRow.holds Try.pinned (OpenSpec.ofChange fieldPowerWrong)

/-- 'supercargolaw.FieldSquare': WHATEVER THE INPUT: true; the input reads as it did. -/
def fieldSquareSpec : ChangeSpec := { name := "fieldSquare", fn := fun _ => fun
  | [d1, d2] => { results := [.lit (.bool true)], args := [d1, d2] }
  | _ => none }
def fieldSquareRow : OpenClaim := { program := "ytbmfcffdnpnonaa", sum := "f84f98d9ae9835bf2f94b0879d7f5735ccce086af1c8144a78a0ba31176e3aaa", func := "supercargo/supercargolaw.FieldSquare", spec := "fieldSquare", apart := false }
def FieldSquareSaid : Prop := fieldSquareRow.holds Try.pinned (OpenSpec.ofChange fieldSquareSpec)

/-- ITS FALSE NEIGHBOUR: 'it returns false'. Refute it at one input. -/
def fieldSquareWrong : ChangeSpec := { name := "fieldSquare", fn := fun _ => fun
  | [d1, d2] => { results := [.lit (.bool false)], args := [d1, d2] }
  | _ => none }
def FieldSquareWrongFalsely : Prop := fieldSquareRow.holds Try.pinned (OpenSpec.ofChange fieldSquareWrong)

/-- 'supercargolaw.FieldLine': WHATEVER THE INPUT: true; the input reads as it did. -/
def fieldLineSpec : ChangeSpec := { name := "fieldLine", fn := fun _ => fun
  | [d1, d2, d3] => { results := [.lit (.bool true)], args := [d1, d2, d3] }
  | _ => none }
def fieldLineRow : OpenClaim := { program := "ytbmfcffdnpnonaa", sum := "f84f98d9ae9835bf2f94b0879d7f5735ccce086af1c8144a78a0ba31176e3aaa", func := "supercargo/supercargolaw.FieldLine", spec := "fieldLine", apart := false }
def FieldLineSaid : Prop := fieldLineRow.holds Try.pinned (OpenSpec.ofChange fieldLineSpec)

/-- ITS FALSE NEIGHBOUR: 'it returns false'. Refute it at one input. -/
def fieldLineWrong : ChangeSpec := { name := "fieldLine", fn := fun _ => fun
  | [d1, d2, d3] => { results := [.lit (.bool false)], args := [d1, d2, d3] }
  | _ => none }
def FieldLineWrongFalsely : Prop := fieldLineRow.holds Try.pinned (OpenSpec.ofChange fieldLineWrong)

/- THE SECOND FORM. 'bulk': how many values and letters a reading holds, each counted each time it is reached (what is shared counts as often as it is met; a slice's spare places count too). A statement '..UptoSaid' is the law's where the arguments, and the package variables that the reading takes, are together of bulk at most 1048576: NARROWER than '..Said'. Prove '..Said' where nothing that the law and all that it calls make is longer than what came in: it says more and counts as full. Else prove '..UptoSaid'. A law counts once. -/
mutual
def uptoBulk {H : Type} : DataW H → Nat
  | .lit (.string bytes) => bytes.length + 1
  | .lit _ => 1
  | .nil => 1
  | .ptr d => uptoBulk d + 1
  | .slice elems spare => uptoBulkAll elems + uptoBulkAll spare + 1
  | .agg parts => uptoBulkAll parts + 1
  | .iface _ d => uptoBulk d + 1
  | .map entries => uptoBulkEntries entries + 1
  | .held _ => 1
def uptoBulkAll {H : Type} : List (DataW H) → Nat
  | [] => 0
  | d :: r => uptoBulk d + uptoBulkAll r
def uptoBulkEntries {H : Type} : List (Lit × DataW H) → Nat
  | [] => 0
  | x :: r => uptoBulkEntry x + uptoBulkEntries r
def uptoBulkEntry {H : Type} : Lit × DataW H → Nat
  | (.string bytes, d) => bytes.length + uptoBulk d + 1
  | (_, d) => uptoBulk d + 1
 end
def uptoSmall : (H : Type) → List (DataW H) → Bool := fun _ ds => decide (uptoBulkAll ds ≤ 1048576)
def OpenSpec.upto (s : _root_.Go.ChangeSpec) : _root_.Go.OpenSpec := { _root_.Go.OpenSpec.ofChange s with cond := some uptoSmall }

/-- 'supercargolaw.FieldTells', WHERE WHAT IT READS IS OF BULK AT MOST 1048576: true; the input reads as it did. -/
def fieldTellsUptoRow : OpenClaim := { program := "ytbmfcffdnpnonaa", sum := "f84f98d9ae9835bf2f94b0879d7f5735ccce086af1c8144a78a0ba31176e3aaa", func := "supercargo/supercargolaw.FieldTells", spec := "fieldTells", apart := false, narrowed := true }
def FieldTellsUptoSaid : Prop := fieldTellsUptoRow.holds Try.pinned (OpenSpec.upto fieldTellsSpec)

/-- 'supercargolaw.FieldRing', WHERE WHAT IT READS IS OF BULK AT MOST 1048576: true; the input reads as it did. -/
def fieldRingUptoRow : OpenClaim := { program := "ytbmfcffdnpnonaa", sum := "f84f98d9ae9835bf2f94b0879d7f5735ccce086af1c8144a78a0ba31176e3aaa", func := "supercargo/supercargolaw.FieldRing", spec := "fieldRing", apart := false, narrowed := true }
def FieldRingUptoSaid : Prop := fieldRingUptoRow.holds Try.pinned (OpenSpec.upto fieldRingSpec)

/-- 'supercargolaw.FieldInverse', WHERE WHAT IT READS IS OF BULK AT MOST 1048576: true; the input reads as it did. -/
def fieldInverseUptoRow : OpenClaim := { program := "ytbmfcffdnpnonaa", sum := "f84f98d9ae9835bf2f94b0879d7f5735ccce086af1c8144a78a0ba31176e3aaa", func := "supercargo/supercargolaw.FieldInverse", spec := "fieldInverse", apart := false, narrowed := true }
def FieldInverseUptoSaid : Prop := fieldInverseUptoRow.holds Try.pinned (OpenSpec.upto fieldInverseSpec)

/-- 'supercargolaw.FieldPower', WHERE WHAT IT READS IS OF BULK AT MOST 1048576: true; the input reads as it did. -/
def fieldPowerUptoRow : OpenClaim := { program := "ytbmfcffdnpnonaa", sum := "f84f98d9ae9835bf2f94b0879d7f5735ccce086af1c8144a78a0ba31176e3aaa", func := "supercargo/supercargolaw.FieldPower", spec := "fieldPower", apart := false, narrowed := true }
def FieldPowerUptoSaid : Prop := fieldPowerUptoRow.holds Try.pinned (OpenSpec.upto fieldPowerSpec)

/-- 'supercargolaw.FieldSquare', WHERE WHAT IT READS IS OF BULK AT MOST 1048576: true; the input reads as it did. -/
def fieldSquareUptoRow : OpenClaim := { program := "ytbmfcffdnpnonaa", sum := "f84f98d9ae9835bf2f94b0879d7f5735ccce086af1c8144a78a0ba31176e3aaa", func := "supercargo/supercargolaw.FieldSquare", spec := "fieldSquare", apart := false, narrowed := true }
def FieldSquareUptoSaid : Prop := fieldSquareUptoRow.holds Try.pinned (OpenSpec.upto fieldSquareSpec)

/-- 'supercargolaw.FieldLine', WHERE WHAT IT READS IS OF BULK AT MOST 1048576: true; the input reads as it did. -/
def fieldLineUptoRow : OpenClaim := { program := "ytbmfcffdnpnonaa", sum := "f84f98d9ae9835bf2f94b0879d7f5735ccce086af1c8144a78a0ba31176e3aaa", func := "supercargo/supercargolaw.FieldLine", spec := "fieldLine", apart := false, narrowed := true }
def FieldLineUptoSaid : Prop := fieldLineUptoRow.holds Try.pinned (OpenSpec.upto fieldLineSpec)

end Rows
end Go.Proofs.Ytbmfcffdnpnonaa
