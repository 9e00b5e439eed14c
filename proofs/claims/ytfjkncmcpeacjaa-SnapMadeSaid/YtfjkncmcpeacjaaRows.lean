/-
  No cell of these rows narrows 'for every input' (looked for: loops, veiled, ifaces, maps, wideKeys, modest, calm, conditions, laid).
  DERIVED. THE GIVEN ROWS OF THIS SEAT. 7 by the template 'for every input the law returns true; each argument reads behind the call as it read before'; 0 by the template 'total and deterministic' (their statements: YtfjkncmcpeacjaaTotals.lean).
  GIVEN WITH THE SEED: the statements are not yours to turn. If you find one false, say at which input.
  Laid BY PROGRAM, IN A SANDBOX (cutbox-rows.mjs): the forced cells as the released guide's own fill.sh prints them over the translation 1a87b3453f91251e… (all of the seat's roots in one cut). By AI agents, Wed Nov 11 2026. No macro, syntax, notation, axiom, sorry.
-/
import Derived.Test.YtfjkncmcpeacjaaChecked
import GoSem.Claim
import GoSem.ClaimJoined
import GoSem.ClaimMapViews
import Derived.JoinedTies
import Derived.KernelRfl
namespace Go.Proofs.Ytfjkncmcpeacjaa
/- THE CELL 'sum', in the pinned program and in every row, IS THE sha256 OF THE DUMP (.gsa) THAT YtfjkncmcpeacjaaProg.lean LOADS. Nothing in Lean hashes anything: it is a label: what it is worth is what the hold of that sum in a sandbox is worth. -/
noncomputable def Try.pinned : Pinned := { name := "ytfjkncmcpeacjaa", sum := "1a87b3453f91251e428a17248e5a3f1dba519487096082200150b7a4f0b74adf", checked := Try.checked }
namespace Rows
def none {H : Type} : Left H := { results := [], args := [] }

/-- 'supercargolaw.SnapTells': WHATEVER THE INPUT: true; the input reads as it did. -/
def snapTellsSpec : ChangeSpec := { name := "snapTells", fn := fun _ => fun
  | [d1, d2, d3, d4] => { results := [.lit (.bool true)], args := [d1, d2, d3, d4] }
  | _ => none }
def snapTellsRow : OpenClaim := { program := "ytfjkncmcpeacjaa", sum := "1a87b3453f91251e428a17248e5a3f1dba519487096082200150b7a4f0b74adf", func := "supercargo/supercargolaw.SnapTells", spec := "snapTells", unfollowed := true, recurses := true, apart := false }
def SnapTellsSaid : Prop := snapTellsRow.holds Try.pinned (OpenSpec.ofChange snapTellsSpec)

/-- ITS FALSE NEIGHBOUR: 'it returns false'. Refute it at one input. -/
def snapTellsWrong : ChangeSpec := { name := "snapTells", fn := fun _ => fun
  | [d1, d2, d3, d4] => { results := [.lit (.bool false)], args := [d1, d2, d3, d4] }
  | _ => none }
def SnapTellsWrongFalsely : Prop := snapTellsRow.holds Try.pinned (OpenSpec.ofChange snapTellsWrong)

/-- 'supercargolaw.SnapWrites': WHATEVER THE INPUT: true; the input reads as it did. -/
def snapWritesSpec : ChangeSpec := { name := "snapWrites", fn := fun _ => fun
  | [d1, d2, d3, d4] => { results := [.lit (.bool true)], args := [d1, d2, d3, d4] }
  | _ => none }
def snapWritesRow : OpenClaim := { program := "ytfjkncmcpeacjaa", sum := "1a87b3453f91251e428a17248e5a3f1dba519487096082200150b7a4f0b74adf", func := "supercargo/supercargolaw.SnapWrites", spec := "snapWrites", unfollowed := true, recurses := true, apart := false }
def SnapWritesSaid : Prop := snapWritesRow.holds Try.pinned (OpenSpec.ofChange snapWritesSpec)

/-- ITS FALSE NEIGHBOUR: 'it returns false'. Refute it at one input. -/
def snapWritesWrong : ChangeSpec := { name := "snapWrites", fn := fun _ => fun
  | [d1, d2, d3, d4] => { results := [.lit (.bool false)], args := [d1, d2, d3, d4] }
  | _ => none }
def SnapWritesWrongFalsely : Prop := snapWritesRow.holds Try.pinned (OpenSpec.ofChange snapWritesWrong)

/-- 'supercargolaw.SnapApart': WHATEVER THE INPUT: true; the input reads as it did. -/
def snapApartSpec : ChangeSpec := { name := "snapApart", fn := fun _ => fun
  | [d1, d2, d3, d4, d5] => { results := [.lit (.bool true)], args := [d1, d2, d3, d4, d5] }
  | _ => none }
def snapApartRow : OpenClaim := { program := "ytfjkncmcpeacjaa", sum := "1a87b3453f91251e428a17248e5a3f1dba519487096082200150b7a4f0b74adf", func := "supercargo/supercargolaw.SnapApart", spec := "snapApart", unfollowed := true, recurses := true, apart := false }
def SnapApartSaid : Prop := snapApartRow.holds Try.pinned (OpenSpec.ofChange snapApartSpec)

/-- ITS FALSE NEIGHBOUR: 'it returns false'. Refute it at one input. -/
def snapApartWrong : ChangeSpec := { name := "snapApart", fn := fun _ => fun
  | [d1, d2, d3, d4, d5] => { results := [.lit (.bool false)], args := [d1, d2, d3, d4, d5] }
  | _ => none }
def SnapApartWrongFalsely : Prop := snapApartRow.holds Try.pinned (OpenSpec.ofChange snapApartWrong)

/-- 'supercargolaw.SnapMade': WHATEVER THE INPUT: true; the input reads as it did. -/
def snapMadeSpec : ChangeSpec := { name := "snapMade", fn := fun _ => fun
  | [d1, d2, d3, d4] => { results := [.lit (.bool true)], args := [d1, d2, d3, d4] }
  | _ => none }
def snapMadeRow : OpenClaim := { program := "ytfjkncmcpeacjaa", sum := "1a87b3453f91251e428a17248e5a3f1dba519487096082200150b7a4f0b74adf", func := "supercargo/supercargolaw.SnapMade", spec := "snapMade", unfollowed := true, recurses := true, apart := false }
def SnapMadeSaid : Prop := snapMadeRow.holds Try.pinned (OpenSpec.ofChange snapMadeSpec)

/-- ITS FALSE NEIGHBOUR: 'it returns false'. Refute it at one input. -/
def snapMadeWrong : ChangeSpec := { name := "snapMade", fn := fun _ => fun
  | [d1, d2, d3, d4] => { results := [.lit (.bool false)], args := [d1, d2, d3, d4] }
  | _ => none }
def SnapMadeWrongFalsely : Prop := snapMadeRow.holds Try.pinned (OpenSpec.ofChange snapMadeWrong)

/-- 'supercargolaw.SnapSteps': WHATEVER THE INPUT: true; the input reads as it did. -/
def snapStepsSpec : ChangeSpec := { name := "snapSteps", fn := fun _ => fun
  | [d1, d2, d3, d4] => { results := [.lit (.bool true)], args := [d1, d2, d3, d4] }
  | _ => none }
def snapStepsRow : OpenClaim := { program := "ytfjkncmcpeacjaa", sum := "1a87b3453f91251e428a17248e5a3f1dba519487096082200150b7a4f0b74adf", func := "supercargo/supercargolaw.SnapSteps", spec := "snapSteps", unfollowed := true, recurses := true, apart := false }
def SnapStepsSaid : Prop := snapStepsRow.holds Try.pinned (OpenSpec.ofChange snapStepsSpec)

/-- ITS FALSE NEIGHBOUR: 'it returns false'. Refute it at one input. -/
def snapStepsWrong : ChangeSpec := { name := "snapSteps", fn := fun _ => fun
  | [d1, d2, d3, d4] => { results := [.lit (.bool false)], args := [d1, d2, d3, d4] }
  | _ => none }
def SnapStepsWrongFalsely : Prop := snapStepsRow.holds Try.pinned (OpenSpec.ofChange snapStepsWrong)

/-- 'supercargolaw.SnapFrees': WHATEVER THE INPUT: true; the input reads as it did. -/
def snapFreesSpec : ChangeSpec := { name := "snapFrees", fn := fun _ => fun
  | [d1, d2] => { results := [.lit (.bool true)], args := [d1, d2] }
  | _ => none }
def snapFreesRow : OpenClaim := { program := "ytfjkncmcpeacjaa", sum := "1a87b3453f91251e428a17248e5a3f1dba519487096082200150b7a4f0b74adf", func := "supercargo/supercargolaw.SnapFrees", spec := "snapFrees", unfollowed := true, recurses := true, apart := false }
def SnapFreesSaid : Prop := snapFreesRow.holds Try.pinned (OpenSpec.ofChange snapFreesSpec)

/-- ITS FALSE NEIGHBOUR: 'it returns false'. Refute it at one input. -/
def snapFreesWrong : ChangeSpec := { name := "snapFrees", fn := fun _ => fun
  | [d1, d2] => { results := [.lit (.bool false)], args := [d1, d2] }
  | _ => none }
def SnapFreesWrongFalsely : Prop := snapFreesRow.holds Try.pinned (OpenSpec.ofChange snapFreesWrong)

/-- 'supercargolaw.SnapTwice': WHATEVER THE INPUT: true; the input reads as it did. -/
def snapTwiceSpec : ChangeSpec := { name := "snapTwice", fn := fun _ => fun
  | [d] => { results := [.lit (.bool true)], args := [d] }
  | _ => none }
def snapTwiceRow : OpenClaim := { program := "ytfjkncmcpeacjaa", sum := "1a87b3453f91251e428a17248e5a3f1dba519487096082200150b7a4f0b74adf", func := "supercargo/supercargolaw.SnapTwice", spec := "snapTwice", unfollowed := true, recurses := true, apart := false }
def SnapTwiceSaid : Prop := snapTwiceRow.holds Try.pinned (OpenSpec.ofChange snapTwiceSpec)

/-- ITS FALSE NEIGHBOUR: 'it returns false'. Refute it at one input. -/
def snapTwiceWrong : ChangeSpec := { name := "snapTwice", fn := fun _ => fun
  | [d] => { results := [.lit (.bool false)], args := [d] }
  | _ => none }
def SnapTwiceWrongFalsely : Prop := snapTwiceRow.holds Try.pinned (OpenSpec.ofChange snapTwiceWrong)

/- THE SECOND FORM. 'bulk': how many values and letters a reading holds, each counted each time it is reached (what is shared counts as often as it is met; a slice's spare places count too). A statement '..UptoSaid' is the law's where the arguments, and the package variables that the reading takes, are together of bulk at most 1048576: NARROWER than '..Said'. Prove '..Said' where nothing that the law and all that it calls make is longer than what came in: it says more and counts as full. Else prove '..UptoSaid'. A law counts once. -/
mutual
def uptoBulk {H : Type} : DataW H → Nat
  | .lit (.string bytes) => bytes.length + 1
  | .lit _ => 1
  | .nil => 1
  | .ptr d => uptoBulk d + 1
  | .slice elems spare => uptoBulkAll elems + uptoBulkAll spare + 1
  | .agg parts => uptoBulkAll parts + 1
  | .iface _ d => uptoBulk d + 1
  | .map entries => uptoBulkEntries entries + 1
  | .held _ => 1
def uptoBulkAll {H : Type} : List (DataW H) → Nat
  | [] => 0
  | d :: r => uptoBulk d + uptoBulkAll r
def uptoBulkEntries {H : Type} : List (Lit × DataW H) → Nat
  | [] => 0
  | x :: r => uptoBulkEntry x + uptoBulkEntries r
def uptoBulkEntry {H : Type} : Lit × DataW H → Nat
  | (.string bytes, d) => bytes.length + uptoBulk d + 1
  | (_, d) => uptoBulk d + 1
 end
def uptoSmall : (H : Type) → List (DataW H) → Bool := fun _ ds => decide (uptoBulkAll ds ≤ 1048576)
def OpenSpec.upto (s : _root_.Go.ChangeSpec) : _root_.Go.OpenSpec := { _root_.Go.OpenSpec.ofChange s with cond := some uptoSmall }

/-- 'supercargolaw.SnapTells', WHERE WHAT IT READS IS OF BULK AT MOST 1048576: true; the input reads as it did. -/
def snapTellsUptoRow : OpenClaim := { program := "ytfjkncmcpeacjaa", sum := "1a87b3453f91251e428a17248e5a3f1dba519487096082200150b7a4f0b74adf", func := "supercargo/supercargolaw.SnapTells", spec := "snapTells", unfollowed := true, recurses := true, apart := false, narrowed := true }
def SnapTellsUptoSaid : Prop := snapTellsUptoRow.holds Try.pinned (OpenSpec.upto snapTellsSpec)

/-- 'supercargolaw.SnapWrites', WHERE WHAT IT READS IS OF BULK AT MOST 1048576: true; the input reads as it did. -/
def snapWritesUptoRow : OpenClaim := { program := "ytfjkncmcpeacjaa", sum := "1a87b3453f91251e428a17248e5a3f1dba519487096082200150b7a4f0b74adf", func := "supercargo/supercargolaw.SnapWrites", spec := "snapWrites", unfollowed := true, recurses := true, apart := false, narrowed := true }
def SnapWritesUptoSaid : Prop := snapWritesUptoRow.holds Try.pinned (OpenSpec.upto snapWritesSpec)

/-- 'supercargolaw.SnapApart', WHERE WHAT IT READS IS OF BULK AT MOST 1048576: true; the input reads as it did. -/
def snapApartUptoRow : OpenClaim := { program := "ytfjkncmcpeacjaa", sum := "1a87b3453f91251e428a17248e5a3f1dba519487096082200150b7a4f0b74adf", func := "supercargo/supercargolaw.SnapApart", spec := "snapApart", unfollowed := true, recurses := true, apart := false, narrowed := true }
def SnapApartUptoSaid : Prop := snapApartUptoRow.holds Try.pinned (OpenSpec.upto snapApartSpec)

/-- 'supercargolaw.SnapMade', WHERE WHAT IT READS IS OF BULK AT MOST 1048576: true; the input reads as it did. -/
def snapMadeUptoRow : OpenClaim := { program := "ytfjkncmcpeacjaa", sum := "1a87b3453f91251e428a17248e5a3f1dba519487096082200150b7a4f0b74adf", func := "supercargo/supercargolaw.SnapMade", spec := "snapMade", unfollowed := true, recurses := true, apart := false, narrowed := true }
def SnapMadeUptoSaid : Prop := snapMadeUptoRow.holds Try.pinned (OpenSpec.upto snapMadeSpec)

/-- 'supercargolaw.SnapSteps', WHERE WHAT IT READS IS OF BULK AT MOST 1048576: true; the input reads as it did. -/
def snapStepsUptoRow : OpenClaim := { program := "ytfjkncmcpeacjaa", sum := "1a87b3453f91251e428a17248e5a3f1dba519487096082200150b7a4f0b74adf", func := "supercargo/supercargolaw.SnapSteps", spec := "snapSteps", unfollowed := true, recurses := true, apart := false, narrowed := true }
def SnapStepsUptoSaid : Prop := snapStepsUptoRow.holds Try.pinned (OpenSpec.upto snapStepsSpec)

/-- 'supercargolaw.SnapFrees', WHERE WHAT IT READS IS OF BULK AT MOST 1048576: true; the input reads as it did. -/
def snapFreesUptoRow : OpenClaim := { program := "ytfjkncmcpeacjaa", sum := "1a87b3453f91251e428a17248e5a3f1dba519487096082200150b7a4f0b74adf", func := "supercargo/supercargolaw.SnapFrees", spec := "snapFrees", unfollowed := true, recurses := true, apart := false, narrowed := true }
def SnapFreesUptoSaid : Prop := snapFreesUptoRow.holds Try.pinned (OpenSpec.upto snapFreesSpec)

/-- 'supercargolaw.SnapTwice', WHERE WHAT IT READS IS OF BULK AT MOST 1048576: true; the input reads as it did. -/
def snapTwiceUptoRow : OpenClaim := { program := "ytfjkncmcpeacjaa", sum := "1a87b3453f91251e428a17248e5a3f1dba519487096082200150b7a4f0b74adf", func := "supercargo/supercargolaw.SnapTwice", spec := "snapTwice", unfollowed := true, recurses := true, apart := false, narrowed := true }
def SnapTwiceUptoSaid : Prop := snapTwiceUptoRow.holds Try.pinned (OpenSpec.upto snapTwiceSpec)

end Rows
end Go.Proofs.Ytfjkncmcpeacjaa
