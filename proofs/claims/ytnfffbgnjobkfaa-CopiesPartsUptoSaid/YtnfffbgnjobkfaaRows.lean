/-
  No cell of these rows narrows 'for every input' (looked for: loops, veiled, ifaces, maps, wideKeys, modest, calm, conditions, laid).
  DERIVED. THE GIVEN ROWS OF THIS SEAT. 6 by the template 'for every input the law returns true; each argument reads behind the call as it read before'; 0 by the template 'total and deterministic' (their statements: YtnfffbgnjobkfaaTotals.lean).
  GIVEN WITH THE SEED: the statements are not yours to turn. If you find one false, say at which input.
  Laid BY PROGRAM, IN A SANDBOX (cutbox-rows.mjs): the forced cells as the released guide's own fill.sh prints them over the translation 38b4ea0fc39e7d57… (all of the seat's roots in one cut). By AI agents, Wed Nov 11 2026. No macro, syntax, notation, axiom, sorry.
-/
import Derived.Test.YtnfffbgnjobkfaaChecked
import GoSem.Claim
import GoSem.ClaimJoined
import GoSem.ClaimMapViews
import Derived.JoinedTies
import Derived.KernelRfl
namespace Go.Proofs.Ytnfffbgnjobkfaa
/- THE CELL 'sum', in the pinned program and in every row, IS THE sha256 OF THE DUMP (.gsa) THAT YtnfffbgnjobkfaaProg.lean LOADS. Nothing in Lean hashes anything: it is a label: what it is worth is what the hold of that sum in a sandbox is worth. -/
noncomputable def Try.pinned : Pinned := { name := "ytnfffbgnjobkfaa", sum := "38b4ea0fc39e7d57625951808fd8164ceecfeb1d57b3a0c3a347705da4725cc0", checked := Try.checked }
namespace Rows
def none {H : Type} : Left H := { results := [], args := [] }

/-- 'supercargolaw.CopiesTell': WHATEVER THE INPUT: true; the input reads as it did. -/
def copiesTellSpec : ChangeSpec := { name := "copiesTell", fn := fun _ => fun
  | [d1, d2, d3] => { results := [.lit (.bool true)], args := [d1, d2, d3] }
  | _ => none }
def copiesTellRow : OpenClaim := { program := "ytnfffbgnjobkfaa", sum := "38b4ea0fc39e7d57625951808fd8164ceecfeb1d57b3a0c3a347705da4725cc0", func := "supercargo/supercargolaw.CopiesTell", spec := "copiesTell", apart := false }
def CopiesTellSaid : Prop := copiesTellRow.holds Try.pinned (OpenSpec.ofChange copiesTellSpec)

/-- ITS FALSE NEIGHBOUR: 'it returns false'. Refute it at one input. -/
def copiesTellWrong : ChangeSpec := { name := "copiesTell", fn := fun _ => fun
  | [d1, d2, d3] => { results := [.lit (.bool false)], args := [d1, d2, d3] }
  | _ => none }
def CopiesTellWrongFalsely : Prop := copiesTellRow.holds Try.pinned (OpenSpec.ofChange copiesTellWrong)

/-- 'supercargolaw.CopiesOrder': WHATEVER THE INPUT: true; the input reads as it did. -/
def copiesOrderSpec : ChangeSpec := { name := "copiesOrder", fn := fun _ => fun
  | [d1, d2, d3] => { results := [.lit (.bool true)], args := [d1, d2, d3] }
  | _ => none }
def copiesOrderRow : OpenClaim := { program := "ytnfffbgnjobkfaa", sum := "38b4ea0fc39e7d57625951808fd8164ceecfeb1d57b3a0c3a347705da4725cc0", func := "supercargo/supercargolaw.CopiesOrder", spec := "copiesOrder", apart := false }
def CopiesOrderSaid : Prop := copiesOrderRow.holds Try.pinned (OpenSpec.ofChange copiesOrderSpec)

/-- ITS FALSE NEIGHBOUR: 'it returns false'. Refute it at one input. -/
def copiesOrderWrong : ChangeSpec := { name := "copiesOrder", fn := fun _ => fun
  | [d1, d2, d3] => { results := [.lit (.bool false)], args := [d1, d2, d3] }
  | _ => none }
def CopiesOrderWrongFalsely : Prop := copiesOrderRow.holds Try.pinned (OpenSpec.ofChange copiesOrderWrong)

/-- 'supercargolaw.CopiesRise': WHATEVER THE INPUT: true; the input reads as it did. -/
def copiesRiseSpec : ChangeSpec := { name := "copiesRise", fn := fun _ => fun
  | [d1, d2] => { results := [.lit (.bool true)], args := [d1, d2] }
  | _ => none }
def copiesRiseRow : OpenClaim := { program := "ytnfffbgnjobkfaa", sum := "38b4ea0fc39e7d57625951808fd8164ceecfeb1d57b3a0c3a347705da4725cc0", func := "supercargo/supercargolaw.CopiesRise", spec := "copiesRise", apart := false }
def CopiesRiseSaid : Prop := copiesRiseRow.holds Try.pinned (OpenSpec.ofChange copiesRiseSpec)

/-- ITS FALSE NEIGHBOUR: 'it returns false'. Refute it at one input. -/
def copiesRiseWrong : ChangeSpec := { name := "copiesRise", fn := fun _ => fun
  | [d1, d2] => { results := [.lit (.bool false)], args := [d1, d2] }
  | _ => none }
def CopiesRiseWrongFalsely : Prop := copiesRiseRow.holds Try.pinned (OpenSpec.ofChange copiesRiseWrong)

/-- 'supercargolaw.CopiesMerge': WHATEVER THE INPUT: true; the input reads as it did. -/
def copiesMergeSpec : ChangeSpec := { name := "copiesMerge", fn := fun _ => fun
  | [d] => { results := [.lit (.bool true)], args := [d] }
  | _ => none }
def copiesMergeRow : OpenClaim := { program := "ytnfffbgnjobkfaa", sum := "38b4ea0fc39e7d57625951808fd8164ceecfeb1d57b3a0c3a347705da4725cc0", func := "supercargo/supercargolaw.CopiesMerge", spec := "copiesMerge", apart := false }
def CopiesMergeSaid : Prop := copiesMergeRow.holds Try.pinned (OpenSpec.ofChange copiesMergeSpec)

/-- ITS FALSE NEIGHBOUR: 'it returns false'. Refute it at one input. -/
def copiesMergeWrong : ChangeSpec := { name := "copiesMerge", fn := fun _ => fun
  | [d] => { results := [.lit (.bool false)], args := [d] }
  | _ => none }
def CopiesMergeWrongFalsely : Prop := copiesMergeRow.holds Try.pinned (OpenSpec.ofChange copiesMergeWrong)

/-- 'supercargolaw.CopiesStale': WHATEVER THE INPUT: true; the input reads as it did. -/
def copiesStaleSpec : ChangeSpec := { name := "copiesStale", fn := fun _ => fun
  | [d1, d2] => { results := [.lit (.bool true)], args := [d1, d2] }
  | _ => none }
def copiesStaleRow : OpenClaim := { program := "ytnfffbgnjobkfaa", sum := "38b4ea0fc39e7d57625951808fd8164ceecfeb1d57b3a0c3a347705da4725cc0", func := "supercargo/supercargolaw.CopiesStale", spec := "copiesStale", apart := false }
def CopiesStaleSaid : Prop := copiesStaleRow.holds Try.pinned (OpenSpec.ofChange copiesStaleSpec)

/-- ITS FALSE NEIGHBOUR: 'it returns false'. Refute it at one input. -/
def copiesStaleWrong : ChangeSpec := { name := "copiesStale", fn := fun _ => fun
  | [d1, d2] => { results := [.lit (.bool false)], args := [d1, d2] }
  | _ => none }
def CopiesStaleWrongFalsely : Prop := copiesStaleRow.holds Try.pinned (OpenSpec.ofChange copiesStaleWrong)

/-- 'supercargolaw.CopiesParts': WHATEVER THE INPUT: true; the input reads as it did. -/
def copiesPartsSpec : ChangeSpec := { name := "copiesParts", fn := fun _ => fun
  | [d1, d2] => { results := [.lit (.bool true)], args := [d1, d2] }
  | _ => none }
def copiesPartsRow : OpenClaim := { program := "ytnfffbgnjobkfaa", sum := "38b4ea0fc39e7d57625951808fd8164ceecfeb1d57b3a0c3a347705da4725cc0", func := "supercargo/supercargolaw.CopiesParts", spec := "copiesParts", apart := false }
def CopiesPartsSaid : Prop := copiesPartsRow.holds Try.pinned (OpenSpec.ofChange copiesPartsSpec)

/-- ITS FALSE NEIGHBOUR: 'it returns false'. Refute it at one input. -/
def copiesPartsWrong : ChangeSpec := { name := "copiesParts", fn := fun _ => fun
  | [d1, d2] => { results := [.lit (.bool false)], args := [d1, d2] }
  | _ => none }
def CopiesPartsWrongFalsely : Prop := copiesPartsRow.holds Try.pinned (OpenSpec.ofChange copiesPartsWrong)

/- THE SECOND FORM. 'bulk': how many values and letters a reading holds, each counted each time it is reached (what is shared counts as often as it is met; a slice's spare places count too). A statement '..UptoSaid' is the law's where the arguments, and the package variables that the reading takes, are together of bulk at most 1048576: NARROWER than '..Said'. Prove '..Said' where nothing that the law and all that it calls make is longer than what came in: it says more and counts as full. Else prove '..UptoSaid'. A law counts once. -/
mutual
def uptoBulk {H : Type} : DataW H → Nat
  | .lit (.string bytes) => bytes.length + 1
  | .lit _ => 1
  | .nil => 1
  | .ptr d => uptoBulk d + 1
  | .slice elems spare => uptoBulkAll elems + uptoBulkAll spare + 1
  | .agg parts => uptoBulkAll parts + 1
  | .iface _ d => uptoBulk d + 1
  | .map entries => uptoBulkEntries entries + 1
  | .held _ => 1
def uptoBulkAll {H : Type} : List (DataW H) → Nat
  | [] => 0
  | d :: r => uptoBulk d + uptoBulkAll r
def uptoBulkEntries {H : Type} : List (Lit × DataW H) → Nat
  | [] => 0
  | x :: r => uptoBulkEntry x + uptoBulkEntries r
def uptoBulkEntry {H : Type} : Lit × DataW H → Nat
  | (.string bytes, d) => bytes.length + uptoBulk d + 1
  | (_, d) => uptoBulk d + 1
 end
def uptoSmall : (H : Type) → List (DataW H) → Bool := fun _ ds => decide (uptoBulkAll ds ≤ 1048576)
def OpenSpec.upto (s : _root_.Go.ChangeSpec) : _root_.Go.OpenSpec := { _root_.Go.OpenSpec.ofChange s with cond := some uptoSmall }

/-- 'supercargolaw.CopiesTell', WHERE WHAT IT READS IS OF BULK AT MOST 1048576: true; the input reads as it did. -/
def copiesTellUptoRow : OpenClaim := { program := "ytnfffbgnjobkfaa", sum := "38b4ea0fc39e7d57625951808fd8164ceecfeb1d57b3a0c3a347705da4725cc0", func := "supercargo/supercargolaw.CopiesTell", spec := "copiesTell", apart := false, narrowed := true }
def CopiesTellUptoSaid : Prop := copiesTellUptoRow.holds Try.pinned (OpenSpec.upto copiesTellSpec)

/-- 'supercargolaw.CopiesOrder', WHERE WHAT IT READS IS OF BULK AT MOST 1048576: true; the input reads as it did. -/
def copiesOrderUptoRow : OpenClaim := { program := "ytnfffbgnjobkfaa", sum := "38b4ea0fc39e7d57625951808fd8164ceecfeb1d57b3a0c3a347705da4725cc0", func := "supercargo/supercargolaw.CopiesOrder", spec := "copiesOrder", apart := false, narrowed := true }
def CopiesOrderUptoSaid : Prop := copiesOrderUptoRow.holds Try.pinned (OpenSpec.upto copiesOrderSpec)

/-- 'supercargolaw.CopiesRise', WHERE WHAT IT READS IS OF BULK AT MOST 1048576: true; the input reads as it did. -/
def copiesRiseUptoRow : OpenClaim := { program := "ytnfffbgnjobkfaa", sum := "38b4ea0fc39e7d57625951808fd8164ceecfeb1d57b3a0c3a347705da4725cc0", func := "supercargo/supercargolaw.CopiesRise", spec := "copiesRise", apart := false, narrowed := true }
def CopiesRiseUptoSaid : Prop := copiesRiseUptoRow.holds Try.pinned (OpenSpec.upto copiesRiseSpec)

/-- 'supercargolaw.CopiesMerge', WHERE WHAT IT READS IS OF BULK AT MOST 1048576: true; the input reads as it did. -/
def copiesMergeUptoRow : OpenClaim := { program := "ytnfffbgnjobkfaa", sum := "38b4ea0fc39e7d57625951808fd8164ceecfeb1d57b3a0c3a347705da4725cc0", func := "supercargo/supercargolaw.CopiesMerge", spec := "copiesMerge", apart := false, narrowed := true }
def CopiesMergeUptoSaid : Prop := copiesMergeUptoRow.holds Try.pinned (OpenSpec.upto copiesMergeSpec)

/-- 'supercargolaw.CopiesStale', WHERE WHAT IT READS IS OF BULK AT MOST 1048576: true; the input reads as it did. -/
def copiesStaleUptoRow : OpenClaim := { program := "ytnfffbgnjobkfaa", sum := "38b4ea0fc39e7d57625951808fd8164ceecfeb1d57b3a0c3a347705da4725cc0", func := "supercargo/supercargolaw.CopiesStale", spec := "copiesStale", apart := false, narrowed := true }
def CopiesStaleUptoSaid : Prop := copiesStaleUptoRow.holds Try.pinned (OpenSpec.upto copiesStaleSpec)

/-- 'supercargolaw.CopiesParts', WHERE WHAT IT READS IS OF BULK AT MOST 1048576: true; the input reads as it did. -/
def copiesPartsUptoRow : OpenClaim := { program := "ytnfffbgnjobkfaa", sum := "38b4ea0fc39e7d57625951808fd8164ceecfeb1d57b3a0c3a347705da4725cc0", func := "supercargo/supercargolaw.CopiesParts", spec := "copiesParts", apart := false, narrowed := true }
def CopiesPartsUptoSaid : Prop := copiesPartsUptoRow.holds Try.pinned (OpenSpec.upto copiesPartsSpec)

end Rows
end Go.Proofs.Ytnfffbgnjobkfaa
