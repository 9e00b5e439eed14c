/-
  No cell of these rows narrows 'for every input' (looked for: loops, veiled, ifaces, maps, wideKeys, modest, calm, conditions, laid).
  DERIVED. THE GIVEN ROWS OF THIS SEAT. 8 by the template 'for every input the law returns true; each argument reads behind the call as it read before'; 0 by the template 'total and deterministic' (their statements: YtnbgbknocijjlaaTotals.lean).
  GIVEN WITH THE SEED: the statements are not yours to turn. If you find one false, say at which input.
  Laid BY PROGRAM, IN A SANDBOX (cutbox-rows.mjs): the forced cells as the released guide's own fill.sh prints them over the translation 74a387fa841e349f… (all of the seat's roots in one cut). By AI agents, Wed Nov 11 2026. No macro, syntax, notation, axiom, sorry.
-/
import Derived.Test.YtnbgbknocijjlaaChecked
import GoSem.Claim
import GoSem.ClaimJoined
import GoSem.ClaimMapViews
import Derived.JoinedTies
import Derived.KernelRfl
namespace Go.Proofs.Ytnbgbknocijjlaa
/- THE CELL 'sum', in the pinned program and in every row, IS THE sha256 OF THE DUMP (.gsa) THAT YtnbgbknocijjlaaProg.lean LOADS. Nothing in Lean hashes anything: it is a label: what it is worth is what the hold of that sum in a sandbox is worth. -/
noncomputable def Try.pinned : Pinned := { name := "ytnbgbknocijjlaa", sum := "74a387fa841e349f8466883bb1522001325297df4be41703e79d6f8fd98422f6", checked := Try.checked }
namespace Rows
def none {H : Type} : Left H := { results := [], args := [] }

/-- 'supercargolaw.CodeTells': WHATEVER THE INPUT: true; the input reads as it did. -/
def codeTellsSpec : ChangeSpec := { name := "codeTells", fn := fun _ => fun
  | [d1, d2, d3, d4, d5] => { results := [.lit (.bool true)], args := [d1, d2, d3, d4, d5] }
  | _ => none }
def codeTellsRow : OpenClaim := { program := "ytnbgbknocijjlaa", sum := "74a387fa841e349f8466883bb1522001325297df4be41703e79d6f8fd98422f6", func := "supercargo/supercargolaw.CodeTells", spec := "codeTells", unfollowed := true, recurses := true, apart := false }
def CodeTellsSaid : Prop := codeTellsRow.holds Try.pinned (OpenSpec.ofChange codeTellsSpec)

/-- ITS FALSE NEIGHBOUR: 'it returns false'. Refute it at one input. -/
def codeTellsWrong : ChangeSpec := { name := "codeTells", fn := fun _ => fun
  | [d1, d2, d3, d4, d5] => { results := [.lit (.bool false)], args := [d1, d2, d3, d4, d5] }
  | _ => none }
def CodeTellsWrongFalsely : Prop := codeTellsRow.holds Try.pinned (OpenSpec.ofChange codeTellsWrong)

/-- 'supercargolaw.CodeChecks': WHATEVER THE INPUT: true; the input reads as it did. -/
def codeChecksSpec : ChangeSpec := { name := "codeChecks", fn := fun _ => fun
  | [d1, d2, d3, d4, d5, d6] => { results := [.lit (.bool true)], args := [d1, d2, d3, d4, d5, d6] }
  | _ => none }
def codeChecksRow : OpenClaim := { program := "ytnbgbknocijjlaa", sum := "74a387fa841e349f8466883bb1522001325297df4be41703e79d6f8fd98422f6", func := "supercargo/supercargolaw.CodeChecks", spec := "codeChecks", unfollowed := true, recurses := true, apart := false }
def CodeChecksSaid : Prop := codeChecksRow.holds Try.pinned (OpenSpec.ofChange codeChecksSpec)

/-- ITS FALSE NEIGHBOUR: 'it returns false'. Refute it at one input. -/
def codeChecksWrong : ChangeSpec := { name := "codeChecks", fn := fun _ => fun
  | [d1, d2, d3, d4, d5, d6] => { results := [.lit (.bool false)], args := [d1, d2, d3, d4, d5, d6] }
  | _ => none }
def CodeChecksWrongFalsely : Prop := codeChecksRow.holds Try.pinned (OpenSpec.ofChange codeChecksWrong)

/-- 'supercargolaw.CodeRebuilds': WHATEVER THE INPUT: true; the input reads as it did. -/
def codeRebuildsSpec : ChangeSpec := { name := "codeRebuilds", fn := fun _ => fun
  | [d1, d2, d3] => { results := [.lit (.bool true)], args := [d1, d2, d3] }
  | _ => none }
def codeRebuildsRow : OpenClaim := { program := "ytnbgbknocijjlaa", sum := "74a387fa841e349f8466883bb1522001325297df4be41703e79d6f8fd98422f6", func := "supercargo/supercargolaw.CodeRebuilds", spec := "codeRebuilds", unfollowed := true, recurses := true, apart := false }
def CodeRebuildsSaid : Prop := codeRebuildsRow.holds Try.pinned (OpenSpec.ofChange codeRebuildsSpec)

/-- ITS FALSE NEIGHBOUR: 'it returns false'. Refute it at one input. -/
def codeRebuildsWrong : ChangeSpec := { name := "codeRebuilds", fn := fun _ => fun
  | [d1, d2, d3] => { results := [.lit (.bool false)], args := [d1, d2, d3] }
  | _ => none }
def CodeRebuildsWrongFalsely : Prop := codeRebuildsRow.holds Try.pinned (OpenSpec.ofChange codeRebuildsWrong)

/-- 'supercargolaw.CodeLinear': WHATEVER THE INPUT: true; the input reads as it did. -/
def codeLinearSpec : ChangeSpec := { name := "codeLinear", fn := fun _ => fun
  | [d1, d2, d3] => { results := [.lit (.bool true)], args := [d1, d2, d3] }
  | _ => none }
def codeLinearRow : OpenClaim := { program := "ytnbgbknocijjlaa", sum := "74a387fa841e349f8466883bb1522001325297df4be41703e79d6f8fd98422f6", func := "supercargo/supercargolaw.CodeLinear", spec := "codeLinear", unfollowed := true, recurses := true, apart := false }
def CodeLinearSaid : Prop := codeLinearRow.holds Try.pinned (OpenSpec.ofChange codeLinearSpec)

/-- ITS FALSE NEIGHBOUR: 'it returns false'. Refute it at one input. -/
def codeLinearWrong : ChangeSpec := { name := "codeLinear", fn := fun _ => fun
  | [d1, d2, d3] => { results := [.lit (.bool false)], args := [d1, d2, d3] }
  | _ => none }
def CodeLinearWrongFalsely : Prop := codeLinearRow.holds Try.pinned (OpenSpec.ofChange codeLinearWrong)

/-- 'supercargolaw.CodeChanges': WHATEVER THE INPUT: true; the input reads as it did. -/
def codeChangesSpec : ChangeSpec := { name := "codeChanges", fn := fun _ => fun
  | [d1, d2, d3, d4] => { results := [.lit (.bool true)], args := [d1, d2, d3, d4] }
  | _ => none }
def codeChangesRow : OpenClaim := { program := "ytnbgbknocijjlaa", sum := "74a387fa841e349f8466883bb1522001325297df4be41703e79d6f8fd98422f6", func := "supercargo/supercargolaw.CodeChanges", spec := "codeChanges", unfollowed := true, recurses := true, apart := false }
def CodeChangesSaid : Prop := codeChangesRow.holds Try.pinned (OpenSpec.ofChange codeChangesSpec)

/-- ITS FALSE NEIGHBOUR: 'it returns false'. Refute it at one input. -/
def codeChangesWrong : ChangeSpec := { name := "codeChanges", fn := fun _ => fun
  | [d1, d2, d3, d4] => { results := [.lit (.bool false)], args := [d1, d2, d3, d4] }
  | _ => none }
def CodeChangesWrongFalsely : Prop := codeChangesRow.holds Try.pinned (OpenSpec.ofChange codeChangesWrong)

/-- 'supercargolaw.CodeSees': WHATEVER THE INPUT: true; the input reads as it did. -/
def codeSeesSpec : ChangeSpec := { name := "codeSees", fn := fun _ => fun
  | [d1, d2, d3] => { results := [.lit (.bool true)], args := [d1, d2, d3] }
  | _ => none }
def codeSeesRow : OpenClaim := { program := "ytnbgbknocijjlaa", sum := "74a387fa841e349f8466883bb1522001325297df4be41703e79d6f8fd98422f6", func := "supercargo/supercargolaw.CodeSees", spec := "codeSees", unfollowed := true, recurses := true, apart := false }
def CodeSeesSaid : Prop := codeSeesRow.holds Try.pinned (OpenSpec.ofChange codeSeesSpec)

/-- ITS FALSE NEIGHBOUR: 'it returns false'. Refute it at one input. -/
def codeSeesWrong : ChangeSpec := { name := "codeSees", fn := fun _ => fun
  | [d1, d2, d3] => { results := [.lit (.bool false)], args := [d1, d2, d3] }
  | _ => none }
def CodeSeesWrongFalsely : Prop := codeSeesRow.holds Try.pinned (OpenSpec.ofChange codeSeesWrong)

/-- 'supercargolaw.CodeOrder': WHATEVER THE INPUT: true; the input reads as it did. -/
def codeOrderSpec : ChangeSpec := { name := "codeOrder", fn := fun _ => fun
  | [d1, d2, d3, d4, d5, d6] => { results := [.lit (.bool true)], args := [d1, d2, d3, d4, d5, d6] }
  | _ => none }
def codeOrderRow : OpenClaim := { program := "ytnbgbknocijjlaa", sum := "74a387fa841e349f8466883bb1522001325297df4be41703e79d6f8fd98422f6", func := "supercargo/supercargolaw.CodeOrder", spec := "codeOrder", unfollowed := true, recurses := true, apart := false }
def CodeOrderSaid : Prop := codeOrderRow.holds Try.pinned (OpenSpec.ofChange codeOrderSpec)

/-- ITS FALSE NEIGHBOUR: 'it returns false'. Refute it at one input. -/
def codeOrderWrong : ChangeSpec := { name := "codeOrder", fn := fun _ => fun
  | [d1, d2, d3, d4, d5, d6] => { results := [.lit (.bool false)], args := [d1, d2, d3, d4, d5, d6] }
  | _ => none }
def CodeOrderWrongFalsely : Prop := codeOrderRow.holds Try.pinned (OpenSpec.ofChange codeOrderWrong)

/-- 'supercargolaw.RestMatrices': WHATEVER THE INPUT: true; the input reads as it did. -/
def restMatricesSpec : ChangeSpec := { name := "restMatrices", fn := fun _ => fun
  | [d1, d2, d3, d4, d5] => { results := [.lit (.bool true)], args := [d1, d2, d3, d4, d5] }
  | _ => none }
def restMatricesRow : OpenClaim := { program := "ytnbgbknocijjlaa", sum := "74a387fa841e349f8466883bb1522001325297df4be41703e79d6f8fd98422f6", func := "supercargo/supercargolaw.RestMatrices", spec := "restMatrices", unfollowed := true, recurses := true, apart := false }
def RestMatricesSaid : Prop := restMatricesRow.holds Try.pinned (OpenSpec.ofChange restMatricesSpec)

/-- ITS FALSE NEIGHBOUR: 'it returns false'. Refute it at one input. -/
def restMatricesWrong : ChangeSpec := { name := "restMatrices", fn := fun _ => fun
  | [d1, d2, d3, d4, d5] => { results := [.lit (.bool false)], args := [d1, d2, d3, d4, d5] }
  | _ => none }
def RestMatricesWrongFalsely : Prop := restMatricesRow.holds Try.pinned (OpenSpec.ofChange restMatricesWrong)

/- THE SECOND FORM. 'bulk': how many values and letters a reading holds, each counted each time it is reached (what is shared counts as often as it is met; a slice's spare places count too). A statement '..UptoSaid' is the law's where the arguments, and the package variables that the reading takes, are together of bulk at most 1048576: NARROWER than '..Said'. Prove '..Said' where nothing that the law and all that it calls make is longer than what came in: it says more and counts as full. Else prove '..UptoSaid'. A law counts once. -/
mutual
def uptoBulk {H : Type} : DataW H → Nat
  | .lit (.string bytes) => bytes.length + 1
  | .lit _ => 1
  | .nil => 1
  | .ptr d => uptoBulk d + 1
  | .slice elems spare => uptoBulkAll elems + uptoBulkAll spare + 1
  | .agg parts => uptoBulkAll parts + 1
  | .iface _ d => uptoBulk d + 1
  | .map entries => uptoBulkEntries entries + 1
  | .held _ => 1
def uptoBulkAll {H : Type} : List (DataW H) → Nat
  | [] => 0
  | d :: r => uptoBulk d + uptoBulkAll r
def uptoBulkEntries {H : Type} : List (Lit × DataW H) → Nat
  | [] => 0
  | x :: r => uptoBulkEntry x + uptoBulkEntries r
def uptoBulkEntry {H : Type} : Lit × DataW H → Nat
  | (.string bytes, d) => bytes.length + uptoBulk d + 1
  | (_, d) => uptoBulk d + 1
 end
def uptoSmall : (H : Type) → List (DataW H) → Bool := fun _ ds => decide (uptoBulkAll ds ≤ 1048576)
def OpenSpec.upto (s : _root_.Go.ChangeSpec) : _root_.Go.OpenSpec := { _root_.Go.OpenSpec.ofChange s with cond := some uptoSmall }

/-- 'supercargolaw.CodeTells', WHERE WHAT IT READS IS OF BULK AT MOST 1048576: true; the input reads as it did. -/
def codeTellsUptoRow : OpenClaim := { program := "ytnbgbknocijjlaa", sum := "74a387fa841e349f8466883bb1522001325297df4be41703e79d6f8fd98422f6", func := "supercargo/supercargolaw.CodeTells", spec := "codeTells", unfollowed := true, recurses := true, apart := false, narrowed := true }
def CodeTellsUptoSaid : Prop := codeTellsUptoRow.holds Try.pinned (OpenSpec.upto codeTellsSpec)

/-- 'supercargolaw.CodeChecks', WHERE WHAT IT READS IS OF BULK AT MOST 1048576: true; the input reads as it did. -/
def codeChecksUptoRow : OpenClaim := { program := "ytnbgbknocijjlaa", sum := "74a387fa841e349f8466883bb1522001325297df4be41703e79d6f8fd98422f6", func := "supercargo/supercargolaw.CodeChecks", spec := "codeChecks", unfollowed := true, recurses := true, apart := false, narrowed := true }
def CodeChecksUptoSaid : Prop := codeChecksUptoRow.holds Try.pinned (OpenSpec.upto codeChecksSpec)

/-- 'supercargolaw.CodeRebuilds', WHERE WHAT IT READS IS OF BULK AT MOST 1048576: true; the input reads as it did. -/
def codeRebuildsUptoRow : OpenClaim := { program := "ytnbgbknocijjlaa", sum := "74a387fa841e349f8466883bb1522001325297df4be41703e79d6f8fd98422f6", func := "supercargo/supercargolaw.CodeRebuilds", spec := "codeRebuilds", unfollowed := true, recurses := true, apart := false, narrowed := true }
def CodeRebuildsUptoSaid : Prop := codeRebuildsUptoRow.holds Try.pinned (OpenSpec.upto codeRebuildsSpec)

/-- 'supercargolaw.CodeLinear', WHERE WHAT IT READS IS OF BULK AT MOST 1048576: true; the input reads as it did. -/
def codeLinearUptoRow : OpenClaim := { program := "ytnbgbknocijjlaa", sum := "74a387fa841e349f8466883bb1522001325297df4be41703e79d6f8fd98422f6", func := "supercargo/supercargolaw.CodeLinear", spec := "codeLinear", unfollowed := true, recurses := true, apart := false, narrowed := true }
def CodeLinearUptoSaid : Prop := codeLinearUptoRow.holds Try.pinned (OpenSpec.upto codeLinearSpec)

/-- 'supercargolaw.CodeChanges', WHERE WHAT IT READS IS OF BULK AT MOST 1048576: true; the input reads as it did. -/
def codeChangesUptoRow : OpenClaim := { program := "ytnbgbknocijjlaa", sum := "74a387fa841e349f8466883bb1522001325297df4be41703e79d6f8fd98422f6", func := "supercargo/supercargolaw.CodeChanges", spec := "codeChanges", unfollowed := true, recurses := true, apart := false, narrowed := true }
def CodeChangesUptoSaid : Prop := codeChangesUptoRow.holds Try.pinned (OpenSpec.upto codeChangesSpec)

/-- 'supercargolaw.CodeSees', WHERE WHAT IT READS IS OF BULK AT MOST 1048576: true; the input reads as it did. -/
def codeSeesUptoRow : OpenClaim := { program := "ytnbgbknocijjlaa", sum := "74a387fa841e349f8466883bb1522001325297df4be41703e79d6f8fd98422f6", func := "supercargo/supercargolaw.CodeSees", spec := "codeSees", unfollowed := true, recurses := true, apart := false, narrowed := true }
def CodeSeesUptoSaid : Prop := codeSeesUptoRow.holds Try.pinned (OpenSpec.upto codeSeesSpec)

/-- 'supercargolaw.CodeOrder', WHERE WHAT IT READS IS OF BULK AT MOST 1048576: true; the input reads as it did. -/
def codeOrderUptoRow : OpenClaim := { program := "ytnbgbknocijjlaa", sum := "74a387fa841e349f8466883bb1522001325297df4be41703e79d6f8fd98422f6", func := "supercargo/supercargolaw.CodeOrder", spec := "codeOrder", unfollowed := true, recurses := true, apart := false, narrowed := true }
def CodeOrderUptoSaid : Prop := codeOrderUptoRow.holds Try.pinned (OpenSpec.upto codeOrderSpec)

/-- 'supercargolaw.RestMatrices', WHERE WHAT IT READS IS OF BULK AT MOST 1048576: true; the input reads as it did. -/
def restMatricesUptoRow : OpenClaim := { program := "ytnbgbknocijjlaa", sum := "74a387fa841e349f8466883bb1522001325297df4be41703e79d6f8fd98422f6", func := "supercargo/supercargolaw.RestMatrices", spec := "restMatrices", unfollowed := true, recurses := true, apart := false, narrowed := true }
def RestMatricesUptoSaid : Prop := restMatricesUptoRow.holds Try.pinned (OpenSpec.upto restMatricesSpec)

end Rows
end Go.Proofs.Ytnbgbknocijjlaa
