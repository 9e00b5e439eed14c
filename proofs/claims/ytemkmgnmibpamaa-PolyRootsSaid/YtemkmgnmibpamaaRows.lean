/-
  No cell of these rows narrows 'for every input' (looked for: loops, veiled, ifaces, maps, wideKeys, modest, calm, conditions, laid).
  DERIVED. THE GIVEN ROWS OF THIS SEAT. 6 by the template 'for every input the law returns true; each argument reads behind the call as it read before'; 0 by the template 'total and deterministic' (their statements: YtemkmgnmibpamaaTotals.lean).
  GIVEN WITH THE SEED: the statements are not yours to turn. If you find one false, say at which input.
  Laid BY PROGRAM, IN A SANDBOX (cutbox-rows.mjs): the forced cells as the released guide's own fill.sh prints them over the translation 8f5efef1e22a1f71… (all of the seat's roots in one cut). By AI agents, Wed Nov 11 2026. No macro, syntax, notation, axiom, sorry.
-/
import Derived.Test.YtemkmgnmibpamaaChecked
import GoSem.Claim
import GoSem.ClaimJoined
import GoSem.ClaimMapViews
import Derived.JoinedTies
import Derived.KernelRfl
namespace Go.Proofs.Ytemkmgnmibpamaa
/- THE CELL 'sum', in the pinned program and in every row, IS THE sha256 OF THE DUMP (.gsa) THAT YtemkmgnmibpamaaProg.lean LOADS. Nothing in Lean hashes anything: it is a label: what it is worth is what the hold of that sum in a sandbox is worth. -/
noncomputable def Try.pinned : Pinned := { name := "ytemkmgnmibpamaa", sum := "8f5efef1e22a1f71bc89389f5a5a7c9e80f52ac82a667ab0a79fffe36b48bb6e", checked := Try.checked }
namespace Rows
def none {H : Type} : Left H := { results := [], args := [] }

/-- 'supercargolaw.PolyRing': WHATEVER THE INPUT: true; the input reads as it did. -/
def polyRingSpec : ChangeSpec := { name := "polyRing", fn := fun _ => fun
  | [d1, d2, d3] => { results := [.lit (.bool true)], args := [d1, d2, d3] }
  | _ => none }
def polyRingRow : OpenClaim := { program := "ytemkmgnmibpamaa", sum := "8f5efef1e22a1f71bc89389f5a5a7c9e80f52ac82a667ab0a79fffe36b48bb6e", func := "supercargo/supercargolaw.PolyRing", spec := "polyRing", unfollowed := true, recurses := true, apart := false }
def PolyRingSaid : Prop := polyRingRow.holds Try.pinned (OpenSpec.ofChange polyRingSpec)

/-- ITS FALSE NEIGHBOUR: 'it returns false'. Refute it at one input. -/
def polyRingWrong : ChangeSpec := { name := "polyRing", fn := fun _ => fun
  | [d1, d2, d3] => { results := [.lit (.bool false)], args := [d1, d2, d3] }
  | _ => none }
def PolyRingWrongFalsely : Prop := polyRingRow.holds Try.pinned (OpenSpec.ofChange polyRingWrong)

/-- 'supercargolaw.PolyDivides': WHATEVER THE INPUT: true; the input reads as it did. -/
def polyDividesSpec : ChangeSpec := { name := "polyDivides", fn := fun _ => fun
  | [d1, d2] => { results := [.lit (.bool true)], args := [d1, d2] }
  | _ => none }
def polyDividesRow : OpenClaim := { program := "ytemkmgnmibpamaa", sum := "8f5efef1e22a1f71bc89389f5a5a7c9e80f52ac82a667ab0a79fffe36b48bb6e", func := "supercargo/supercargolaw.PolyDivides", spec := "polyDivides", unfollowed := true, recurses := true, apart := false }
def PolyDividesSaid : Prop := polyDividesRow.holds Try.pinned (OpenSpec.ofChange polyDividesSpec)

/-- ITS FALSE NEIGHBOUR: 'it returns false'. Refute it at one input. -/
def polyDividesWrong : ChangeSpec := { name := "polyDivides", fn := fun _ => fun
  | [d1, d2] => { results := [.lit (.bool false)], args := [d1, d2] }
  | _ => none }
def PolyDividesWrongFalsely : Prop := polyDividesRow.holds Try.pinned (OpenSpec.ofChange polyDividesWrong)

/-- 'supercargolaw.PolyMeets': WHATEVER THE INPUT: true; the input reads as it did. -/
def polyMeetsSpec : ChangeSpec := { name := "polyMeets", fn := fun _ => fun
  | [d1, d2, d3] => { results := [.lit (.bool true)], args := [d1, d2, d3] }
  | _ => none }
def polyMeetsRow : OpenClaim := { program := "ytemkmgnmibpamaa", sum := "8f5efef1e22a1f71bc89389f5a5a7c9e80f52ac82a667ab0a79fffe36b48bb6e", func := "supercargo/supercargolaw.PolyMeets", spec := "polyMeets", unfollowed := true, recurses := true, apart := false }
def PolyMeetsSaid : Prop := polyMeetsRow.holds Try.pinned (OpenSpec.ofChange polyMeetsSpec)

/-- ITS FALSE NEIGHBOUR: 'it returns false'. Refute it at one input. -/
def polyMeetsWrong : ChangeSpec := { name := "polyMeets", fn := fun _ => fun
  | [d1, d2, d3] => { results := [.lit (.bool false)], args := [d1, d2, d3] }
  | _ => none }
def PolyMeetsWrongFalsely : Prop := polyMeetsRow.holds Try.pinned (OpenSpec.ofChange polyMeetsWrong)

/-- 'supercargolaw.PolyTold': WHATEVER THE INPUT: true; the input reads as it did. -/
def polyToldSpec : ChangeSpec := { name := "polyTold", fn := fun _ => fun
  | [d1, d2] => { results := [.lit (.bool true)], args := [d1, d2] }
  | _ => none }
def polyToldRow : OpenClaim := { program := "ytemkmgnmibpamaa", sum := "8f5efef1e22a1f71bc89389f5a5a7c9e80f52ac82a667ab0a79fffe36b48bb6e", func := "supercargo/supercargolaw.PolyTold", spec := "polyTold", unfollowed := true, recurses := true, apart := false }
def PolyToldSaid : Prop := polyToldRow.holds Try.pinned (OpenSpec.ofChange polyToldSpec)

/-- ITS FALSE NEIGHBOUR: 'it returns false'. Refute it at one input. -/
def polyToldWrong : ChangeSpec := { name := "polyTold", fn := fun _ => fun
  | [d1, d2] => { results := [.lit (.bool false)], args := [d1, d2] }
  | _ => none }
def PolyToldWrongFalsely : Prop := polyToldRow.holds Try.pinned (OpenSpec.ofChange polyToldWrong)

/-- 'supercargolaw.PolyRoots': WHATEVER THE INPUT: true; the input reads as it did. -/
def polyRootsSpec : ChangeSpec := { name := "polyRoots", fn := fun _ => fun
  | [d] => { results := [.lit (.bool true)], args := [d] }
  | _ => none }
def polyRootsRow : OpenClaim := { program := "ytemkmgnmibpamaa", sum := "8f5efef1e22a1f71bc89389f5a5a7c9e80f52ac82a667ab0a79fffe36b48bb6e", func := "supercargo/supercargolaw.PolyRoots", spec := "polyRoots", unfollowed := true, recurses := true, apart := false }
def PolyRootsSaid : Prop := polyRootsRow.holds Try.pinned (OpenSpec.ofChange polyRootsSpec)

/-- ITS FALSE NEIGHBOUR: 'it returns false'. Refute it at one input. -/
def polyRootsWrong : ChangeSpec := { name := "polyRoots", fn := fun _ => fun
  | [d] => { results := [.lit (.bool false)], args := [d] }
  | _ => none }
def PolyRootsWrongFalsely : Prop := polyRootsRow.holds Try.pinned (OpenSpec.ofChange polyRootsWrong)

/-- 'supercargolaw.RestPolys': WHATEVER THE INPUT: true; the input reads as it did. -/
def restPolysSpec : ChangeSpec := { name := "restPolys", fn := fun _ => fun
  | [d1, d2, d3, d4] => { results := [.lit (.bool true)], args := [d1, d2, d3, d4] }
  | _ => none }
def restPolysRow : OpenClaim := { program := "ytemkmgnmibpamaa", sum := "8f5efef1e22a1f71bc89389f5a5a7c9e80f52ac82a667ab0a79fffe36b48bb6e", func := "supercargo/supercargolaw.RestPolys", spec := "restPolys", unfollowed := true, recurses := true, apart := false }
def RestPolysSaid : Prop := restPolysRow.holds Try.pinned (OpenSpec.ofChange restPolysSpec)

/-- ITS FALSE NEIGHBOUR: 'it returns false'. Refute it at one input. -/
def restPolysWrong : ChangeSpec := { name := "restPolys", fn := fun _ => fun
  | [d1, d2, d3, d4] => { results := [.lit (.bool false)], args := [d1, d2, d3, d4] }
  | _ => none }
def RestPolysWrongFalsely : Prop := restPolysRow.holds Try.pinned (OpenSpec.ofChange restPolysWrong)

/- THE SECOND FORM. 'bulk': how many values and letters a reading holds, each counted each time it is reached (what is shared counts as often as it is met; a slice's spare places count too). A statement '..UptoSaid' is the law's where the arguments, and the package variables that the reading takes, are together of bulk at most 1048576: NARROWER than '..Said'. Prove '..Said' where nothing that the law and all that it calls make is longer than what came in: it says more and counts as full. Else prove '..UptoSaid'. A law counts once. -/
mutual
def uptoBulk {H : Type} : DataW H → Nat
  | .lit (.string bytes) => bytes.length + 1
  | .lit _ => 1
  | .nil => 1
  | .ptr d => uptoBulk d + 1
  | .slice elems spare => uptoBulkAll elems + uptoBulkAll spare + 1
  | .agg parts => uptoBulkAll parts + 1
  | .iface _ d => uptoBulk d + 1
  | .map entries => uptoBulkEntries entries + 1
  | .held _ => 1
def uptoBulkAll {H : Type} : List (DataW H) → Nat
  | [] => 0
  | d :: r => uptoBulk d + uptoBulkAll r
def uptoBulkEntries {H : Type} : List (Lit × DataW H) → Nat
  | [] => 0
  | x :: r => uptoBulkEntry x + uptoBulkEntries r
def uptoBulkEntry {H : Type} : Lit × DataW H → Nat
  | (.string bytes, d) => bytes.length + uptoBulk d + 1
  | (_, d) => uptoBulk d + 1
 end
def uptoSmall : (H : Type) → List (DataW H) → Bool := fun _ ds => decide (uptoBulkAll ds ≤ 1048576)
def OpenSpec.upto (s : _root_.Go.ChangeSpec) : _root_.Go.OpenSpec := { _root_.Go.OpenSpec.ofChange s with cond := some uptoSmall }

/-- 'supercargolaw.PolyRing', WHERE WHAT IT READS IS OF BULK AT MOST 1048576: true; the input reads as it did. -/
def polyRingUptoRow : OpenClaim := { program := "ytemkmgnmibpamaa", sum := "8f5efef1e22a1f71bc89389f5a5a7c9e80f52ac82a667ab0a79fffe36b48bb6e", func := "supercargo/supercargolaw.PolyRing", spec := "polyRing", unfollowed := true, recurses := true, apart := false, narrowed := true }
def PolyRingUptoSaid : Prop := polyRingUptoRow.holds Try.pinned (OpenSpec.upto polyRingSpec)

/-- 'supercargolaw.PolyDivides', WHERE WHAT IT READS IS OF BULK AT MOST 1048576: true; the input reads as it did. -/
def polyDividesUptoRow : OpenClaim := { program := "ytemkmgnmibpamaa", sum := "8f5efef1e22a1f71bc89389f5a5a7c9e80f52ac82a667ab0a79fffe36b48bb6e", func := "supercargo/supercargolaw.PolyDivides", spec := "polyDivides", unfollowed := true, recurses := true, apart := false, narrowed := true }
def PolyDividesUptoSaid : Prop := polyDividesUptoRow.holds Try.pinned (OpenSpec.upto polyDividesSpec)

/-- 'supercargolaw.PolyMeets', WHERE WHAT IT READS IS OF BULK AT MOST 1048576: true; the input reads as it did. -/
def polyMeetsUptoRow : OpenClaim := { program := "ytemkmgnmibpamaa", sum := "8f5efef1e22a1f71bc89389f5a5a7c9e80f52ac82a667ab0a79fffe36b48bb6e", func := "supercargo/supercargolaw.PolyMeets", spec := "polyMeets", unfollowed := true, recurses := true, apart := false, narrowed := true }
def PolyMeetsUptoSaid : Prop := polyMeetsUptoRow.holds Try.pinned (OpenSpec.upto polyMeetsSpec)

/-- 'supercargolaw.PolyTold', WHERE WHAT IT READS IS OF BULK AT MOST 1048576: true; the input reads as it did. -/
def polyToldUptoRow : OpenClaim := { program := "ytemkmgnmibpamaa", sum := "8f5efef1e22a1f71bc89389f5a5a7c9e80f52ac82a667ab0a79fffe36b48bb6e", func := "supercargo/supercargolaw.PolyTold", spec := "polyTold", unfollowed := true, recurses := true, apart := false, narrowed := true }
def PolyToldUptoSaid : Prop := polyToldUptoRow.holds Try.pinned (OpenSpec.upto polyToldSpec)

/-- 'supercargolaw.PolyRoots', WHERE WHAT IT READS IS OF BULK AT MOST 1048576: true; the input reads as it did. -/
def polyRootsUptoRow : OpenClaim := { program := "ytemkmgnmibpamaa", sum := "8f5efef1e22a1f71bc89389f5a5a7c9e80f52ac82a667ab0a79fffe36b48bb6e", func := "supercargo/supercargolaw.PolyRoots", spec := "polyRoots", unfollowed := true, recurses := true, apart := false, narrowed := true }
def PolyRootsUptoSaid : Prop := polyRootsUptoRow.holds Try.pinned (OpenSpec.upto polyRootsSpec)

/-- 'supercargolaw.RestPolys', WHERE WHAT IT READS IS OF BULK AT MOST 1048576: true; the input reads as it did. -/
def restPolysUptoRow : OpenClaim := { program := "ytemkmgnmibpamaa", sum := "8f5efef1e22a1f71bc89389f5a5a7c9e80f52ac82a667ab0a79fffe36b48bb6e", func := "supercargo/supercargolaw.RestPolys", spec := "restPolys", unfollowed := true, recurses := true, apart := false, narrowed := true }
def RestPolysUptoSaid : Prop := restPolysUptoRow.holds Try.pinned (OpenSpec.upto restPolysSpec)

end Rows
end Go.Proofs.Ytemkmgnmibpamaa
