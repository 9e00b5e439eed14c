/-
  No cell of these rows narrows 'for every input' (looked for: loops, veiled, ifaces, maps, wideKeys, modest, calm, conditions, laid).
  DERIVED. THE GIVEN ROWS OF THIS SEAT. 8 by the template 'for every input the law returns true; each argument reads behind the call as it read before'; 0 by the template 'total and deterministic' (their statements: YtjfakndleagacaaTotals.lean).
  GIVEN WITH THE SEED: the statements are not yours to turn. If you find one false, say at which input.
  Laid BY PROGRAM, IN A SANDBOX (cutbox-rows.mjs): the forced cells as the released guide's own fill.sh prints them over the translation 0cb88621e3c73840… (all of the seat's roots in one cut). By AI agents, Wed Nov 11 2026. No macro, syntax, notation, axiom, sorry.
-/
import Derived.Test.YtjfakndleagacaaChecked
import GoSem.Claim
import GoSem.ClaimJoined
import GoSem.ClaimMapViews
import Derived.JoinedTies
import Derived.KernelRfl
namespace Go.Proofs.Ytjfakndleagacaa
/- THE CELL 'sum', in the pinned program and in every row, IS THE sha256 OF THE DUMP (.gsa) THAT YtjfakndleagacaaProg.lean LOADS. Nothing in Lean hashes anything: it is a label: what it is worth is what the hold of that sum in a sandbox is worth. -/
noncomputable def Try.pinned : Pinned := { name := "ytjfakndleagacaa", sum := "0cb88621e3c738406886b6838800ce225985c0f3b546cab71d246326472efc57", checked := Try.checked }
namespace Rows
def none {H : Type} : Left H := { results := [], args := [] }

/-- 'supercargolaw.MatrixTells': WHATEVER THE INPUT: true; the input reads as it did. -/
def matrixTellsSpec : ChangeSpec := { name := "matrixTells", fn := fun _ => fun
  | [d1, d2, d3] => { results := [.lit (.bool true)], args := [d1, d2, d3] }
  | _ => none }
def matrixTellsRow : OpenClaim := { program := "ytjfakndleagacaa", sum := "0cb88621e3c738406886b6838800ce225985c0f3b546cab71d246326472efc57", func := "supercargo/supercargolaw.MatrixTells", spec := "matrixTells", unfollowed := true, recurses := true, apart := false }
def MatrixTellsSaid : Prop := matrixTellsRow.holds Try.pinned (OpenSpec.ofChange matrixTellsSpec)

/-- ITS FALSE NEIGHBOUR: 'it returns false'. Refute it at one input. -/
def matrixTellsWrong : ChangeSpec := { name := "matrixTells", fn := fun _ => fun
  | [d1, d2, d3] => { results := [.lit (.bool false)], args := [d1, d2, d3] }
  | _ => none }
def MatrixTellsWrongFalsely : Prop := matrixTellsRow.holds Try.pinned (OpenSpec.ofChange matrixTellsWrong)

/-- 'supercargolaw.CauchyTells': WHATEVER THE INPUT: true; the input reads as it did. -/
def cauchyTellsSpec : ChangeSpec := { name := "cauchyTells", fn := fun _ => fun
  | [d1, d2, d3, d4] => { results := [.lit (.bool true)], args := [d1, d2, d3, d4] }
  | _ => none }
def cauchyTellsRow : OpenClaim := { program := "ytjfakndleagacaa", sum := "0cb88621e3c738406886b6838800ce225985c0f3b546cab71d246326472efc57", func := "supercargo/supercargolaw.CauchyTells", spec := "cauchyTells", unfollowed := true, recurses := true, apart := false }
def CauchyTellsSaid : Prop := cauchyTellsRow.holds Try.pinned (OpenSpec.ofChange cauchyTellsSpec)

/-- ITS FALSE NEIGHBOUR: 'it returns false'. Refute it at one input. -/
def cauchyTellsWrong : ChangeSpec := { name := "cauchyTells", fn := fun _ => fun
  | [d1, d2, d3, d4] => { results := [.lit (.bool false)], args := [d1, d2, d3, d4] }
  | _ => none }
def CauchyTellsWrongFalsely : Prop := cauchyTellsRow.holds Try.pinned (OpenSpec.ofChange cauchyTellsWrong)

/-- 'supercargolaw.MatrixRing': WHATEVER THE INPUT: true; the input reads as it did. -/
def matrixRingSpec : ChangeSpec := { name := "matrixRing", fn := fun _ => fun
  | [d1, d2, d3] => { results := [.lit (.bool true)], args := [d1, d2, d3] }
  | _ => none }
def matrixRingRow : OpenClaim := { program := "ytjfakndleagacaa", sum := "0cb88621e3c738406886b6838800ce225985c0f3b546cab71d246326472efc57", func := "supercargo/supercargolaw.MatrixRing", spec := "matrixRing", unfollowed := true, recurses := true, apart := false }
def MatrixRingSaid : Prop := matrixRingRow.holds Try.pinned (OpenSpec.ofChange matrixRingSpec)

/-- ITS FALSE NEIGHBOUR: 'it returns false'. Refute it at one input. -/
def matrixRingWrong : ChangeSpec := { name := "matrixRing", fn := fun _ => fun
  | [d1, d2, d3] => { results := [.lit (.bool false)], args := [d1, d2, d3] }
  | _ => none }
def MatrixRingWrongFalsely : Prop := matrixRingRow.holds Try.pinned (OpenSpec.ofChange matrixRingWrong)

/-- 'supercargolaw.MatrixInverse': WHATEVER THE INPUT: true; the input reads as it did. -/
def matrixInverseSpec : ChangeSpec := { name := "matrixInverse", fn := fun _ => fun
  | [d1, d2] => { results := [.lit (.bool true)], args := [d1, d2] }
  | _ => none }
def matrixInverseRow : OpenClaim := { program := "ytjfakndleagacaa", sum := "0cb88621e3c738406886b6838800ce225985c0f3b546cab71d246326472efc57", func := "supercargo/supercargolaw.MatrixInverse", spec := "matrixInverse", unfollowed := true, recurses := true, apart := false }
def MatrixInverseSaid : Prop := matrixInverseRow.holds Try.pinned (OpenSpec.ofChange matrixInverseSpec)

/-- ITS FALSE NEIGHBOUR: 'it returns false'. Refute it at one input. -/
def matrixInverseWrong : ChangeSpec := { name := "matrixInverse", fn := fun _ => fun
  | [d1, d2] => { results := [.lit (.bool false)], args := [d1, d2] }
  | _ => none }
def MatrixInverseWrongFalsely : Prop := matrixInverseRow.holds Try.pinned (OpenSpec.ofChange matrixInverseWrong)

/-- 'supercargolaw.MatrixRank': WHATEVER THE INPUT: true; the input reads as it did. -/
def matrixRankSpec : ChangeSpec := { name := "matrixRank", fn := fun _ => fun
  | [d1, d2] => { results := [.lit (.bool true)], args := [d1, d2] }
  | _ => none }
def matrixRankRow : OpenClaim := { program := "ytjfakndleagacaa", sum := "0cb88621e3c738406886b6838800ce225985c0f3b546cab71d246326472efc57", func := "supercargo/supercargolaw.MatrixRank", spec := "matrixRank", unfollowed := true, recurses := true, apart := false }
def MatrixRankSaid : Prop := matrixRankRow.holds Try.pinned (OpenSpec.ofChange matrixRankSpec)

/-- ITS FALSE NEIGHBOUR: 'it returns false'. Refute it at one input. -/
def matrixRankWrong : ChangeSpec := { name := "matrixRank", fn := fun _ => fun
  | [d1, d2] => { results := [.lit (.bool false)], args := [d1, d2] }
  | _ => none }
def MatrixRankWrongFalsely : Prop := matrixRankRow.holds Try.pinned (OpenSpec.ofChange matrixRankWrong)

/-- 'supercargolaw.MatrixParts': WHATEVER THE INPUT: true; the input reads as it did. -/
def matrixPartsSpec : ChangeSpec := { name := "matrixParts", fn := fun _ => fun
  | [d1, d2, d3] => { results := [.lit (.bool true)], args := [d1, d2, d3] }
  | _ => none }
def matrixPartsRow : OpenClaim := { program := "ytjfakndleagacaa", sum := "0cb88621e3c738406886b6838800ce225985c0f3b546cab71d246326472efc57", func := "supercargo/supercargolaw.MatrixParts", spec := "matrixParts", unfollowed := true, recurses := true, apart := false }
def MatrixPartsSaid : Prop := matrixPartsRow.holds Try.pinned (OpenSpec.ofChange matrixPartsSpec)

/-- ITS FALSE NEIGHBOUR: 'it returns false'. Refute it at one input. -/
def matrixPartsWrong : ChangeSpec := { name := "matrixParts", fn := fun _ => fun
  | [d1, d2, d3] => { results := [.lit (.bool false)], args := [d1, d2, d3] }
  | _ => none }
def MatrixPartsWrongFalsely : Prop := matrixPartsRow.holds Try.pinned (OpenSpec.ofChange matrixPartsWrong)

/-- 'supercargolaw.CauchyWhole': WHATEVER THE INPUT: true; the input reads as it did. -/
def cauchyWholeSpec : ChangeSpec := { name := "cauchyWhole", fn := fun _ => fun
  | [d1, d2, d3, d4] => { results := [.lit (.bool true)], args := [d1, d2, d3, d4] }
  | _ => none }
def cauchyWholeRow : OpenClaim := { program := "ytjfakndleagacaa", sum := "0cb88621e3c738406886b6838800ce225985c0f3b546cab71d246326472efc57", func := "supercargo/supercargolaw.CauchyWhole", spec := "cauchyWhole", unfollowed := true, recurses := true, apart := false }
def CauchyWholeSaid : Prop := cauchyWholeRow.holds Try.pinned (OpenSpec.ofChange cauchyWholeSpec)

/-- ITS FALSE NEIGHBOUR: 'it returns false'. Refute it at one input. -/
def cauchyWholeWrong : ChangeSpec := { name := "cauchyWhole", fn := fun _ => fun
  | [d1, d2, d3, d4] => { results := [.lit (.bool false)], args := [d1, d2, d3, d4] }
  | _ => none }
def CauchyWholeWrongFalsely : Prop := cauchyWholeRow.holds Try.pinned (OpenSpec.ofChange cauchyWholeWrong)

/-- 'supercargolaw.MatrixTurned': WHATEVER THE INPUT: true; the input reads as it did. -/
def matrixTurnedSpec : ChangeSpec := { name := "matrixTurned", fn := fun _ => fun
  | [d1, d2] => { results := [.lit (.bool true)], args := [d1, d2] }
  | _ => none }
def matrixTurnedRow : OpenClaim := { program := "ytjfakndleagacaa", sum := "0cb88621e3c738406886b6838800ce225985c0f3b546cab71d246326472efc57", func := "supercargo/supercargolaw.MatrixTurned", spec := "matrixTurned", unfollowed := true, recurses := true, apart := false }
def MatrixTurnedSaid : Prop := matrixTurnedRow.holds Try.pinned (OpenSpec.ofChange matrixTurnedSpec)

/-- ITS FALSE NEIGHBOUR: 'it returns false'. Refute it at one input. -/
def matrixTurnedWrong : ChangeSpec := { name := "matrixTurned", fn := fun _ => fun
  | [d1, d2] => { results := [.lit (.bool false)], args := [d1, d2] }
  | _ => none }
def MatrixTurnedWrongFalsely : Prop := matrixTurnedRow.holds Try.pinned (OpenSpec.ofChange matrixTurnedWrong)

/- THE SECOND FORM. 'bulk': how many values and letters a reading holds, each counted each time it is reached (what is shared counts as often as it is met; a slice's spare places count too). A statement '..UptoSaid' is the law's where the arguments, and the package variables that the reading takes, are together of bulk at most 1048576: NARROWER than '..Said'. Prove '..Said' where nothing that the law and all that it calls make is longer than what came in: it says more and counts as full. Else prove '..UptoSaid'. A law counts once. -/
mutual
def uptoBulk {H : Type} : DataW H → Nat
  | .lit (.string bytes) => bytes.length + 1
  | .lit _ => 1
  | .nil => 1
  | .ptr d => uptoBulk d + 1
  | .slice elems spare => uptoBulkAll elems + uptoBulkAll spare + 1
  | .agg parts => uptoBulkAll parts + 1
  | .iface _ d => uptoBulk d + 1
  | .map entries => uptoBulkEntries entries + 1
  | .held _ => 1
def uptoBulkAll {H : Type} : List (DataW H) → Nat
  | [] => 0
  | d :: r => uptoBulk d + uptoBulkAll r
def uptoBulkEntries {H : Type} : List (Lit × DataW H) → Nat
  | [] => 0
  | x :: r => uptoBulkEntry x + uptoBulkEntries r
def uptoBulkEntry {H : Type} : Lit × DataW H → Nat
  | (.string bytes, d) => bytes.length + uptoBulk d + 1
  | (_, d) => uptoBulk d + 1
 end
def uptoSmall : (H : Type) → List (DataW H) → Bool := fun _ ds => decide (uptoBulkAll ds ≤ 1048576)
def OpenSpec.upto (s : _root_.Go.ChangeSpec) : _root_.Go.OpenSpec := { _root_.Go.OpenSpec.ofChange s with cond := some uptoSmall }

/-- 'supercargolaw.MatrixTells', WHERE WHAT IT READS IS OF BULK AT MOST 1048576: true; the input reads as it did. -/
def matrixTellsUptoRow : OpenClaim := { program := "ytjfakndleagacaa", sum := "0cb88621e3c738406886b6838800ce225985c0f3b546cab71d246326472efc57", func := "supercargo/supercargolaw.MatrixTells", spec := "matrixTells", unfollowed := true, recurses := true, apart := false, narrowed := true }
def MatrixTellsUptoSaid : Prop := matrixTellsUptoRow.holds Try.pinned (OpenSpec.upto matrixTellsSpec)

/-- 'supercargolaw.CauchyTells', WHERE WHAT IT READS IS OF BULK AT MOST 1048576: true; the input reads as it did. -/
def cauchyTellsUptoRow : OpenClaim := { program := "ytjfakndleagacaa", sum := "0cb88621e3c738406886b6838800ce225985c0f3b546cab71d246326472efc57", func := "supercargo/supercargolaw.CauchyTells", spec := "cauchyTells", unfollowed := true, recurses := true, apart := false, narrowed := true }
def CauchyTellsUptoSaid : Prop := cauchyTellsUptoRow.holds Try.pinned (OpenSpec.upto cauchyTellsSpec)

/-- 'supercargolaw.MatrixRing', WHERE WHAT IT READS IS OF BULK AT MOST 1048576: true; the input reads as it did. -/
def matrixRingUptoRow : OpenClaim := { program := "ytjfakndleagacaa", sum := "0cb88621e3c738406886b6838800ce225985c0f3b546cab71d246326472efc57", func := "supercargo/supercargolaw.MatrixRing", spec := "matrixRing", unfollowed := true, recurses := true, apart := false, narrowed := true }
def MatrixRingUptoSaid : Prop := matrixRingUptoRow.holds Try.pinned (OpenSpec.upto matrixRingSpec)

/-- 'supercargolaw.MatrixInverse', WHERE WHAT IT READS IS OF BULK AT MOST 1048576: true; the input reads as it did. -/
def matrixInverseUptoRow : OpenClaim := { program := "ytjfakndleagacaa", sum := "0cb88621e3c738406886b6838800ce225985c0f3b546cab71d246326472efc57", func := "supercargo/supercargolaw.MatrixInverse", spec := "matrixInverse", unfollowed := true, recurses := true, apart := false, narrowed := true }
def MatrixInverseUptoSaid : Prop := matrixInverseUptoRow.holds Try.pinned (OpenSpec.upto matrixInverseSpec)

/-- 'supercargolaw.MatrixRank', WHERE WHAT IT READS IS OF BULK AT MOST 1048576: true; the input reads as it did. -/
def matrixRankUptoRow : OpenClaim := { program := "ytjfakndleagacaa", sum := "0cb88621e3c738406886b6838800ce225985c0f3b546cab71d246326472efc57", func := "supercargo/supercargolaw.MatrixRank", spec := "matrixRank", unfollowed := true, recurses := true, apart := false, narrowed := true }
def MatrixRankUptoSaid : Prop := matrixRankUptoRow.holds Try.pinned (OpenSpec.upto matrixRankSpec)

/-- 'supercargolaw.MatrixParts', WHERE WHAT IT READS IS OF BULK AT MOST 1048576: true; the input reads as it did. -/
def matrixPartsUptoRow : OpenClaim := { program := "ytjfakndleagacaa", sum := "0cb88621e3c738406886b6838800ce225985c0f3b546cab71d246326472efc57", func := "supercargo/supercargolaw.MatrixParts", spec := "matrixParts", unfollowed := true, recurses := true, apart := false, narrowed := true }
def MatrixPartsUptoSaid : Prop := matrixPartsUptoRow.holds Try.pinned (OpenSpec.upto matrixPartsSpec)

/-- 'supercargolaw.CauchyWhole', WHERE WHAT IT READS IS OF BULK AT MOST 1048576: true; the input reads as it did. -/
def cauchyWholeUptoRow : OpenClaim := { program := "ytjfakndleagacaa", sum := "0cb88621e3c738406886b6838800ce225985c0f3b546cab71d246326472efc57", func := "supercargo/supercargolaw.CauchyWhole", spec := "cauchyWhole", unfollowed := true, recurses := true, apart := false, narrowed := true }
def CauchyWholeUptoSaid : Prop := cauchyWholeUptoRow.holds Try.pinned (OpenSpec.upto cauchyWholeSpec)

/-- 'supercargolaw.MatrixTurned', WHERE WHAT IT READS IS OF BULK AT MOST 1048576: true; the input reads as it did. -/
def matrixTurnedUptoRow : OpenClaim := { program := "ytjfakndleagacaa", sum := "0cb88621e3c738406886b6838800ce225985c0f3b546cab71d246326472efc57", func := "supercargo/supercargolaw.MatrixTurned", spec := "matrixTurned", unfollowed := true, recurses := true, apart := false, narrowed := true }
def MatrixTurnedUptoSaid : Prop := matrixTurnedUptoRow.holds Try.pinned (OpenSpec.upto matrixTurnedSpec)

end Rows
end Go.Proofs.Ytjfakndleagacaa
