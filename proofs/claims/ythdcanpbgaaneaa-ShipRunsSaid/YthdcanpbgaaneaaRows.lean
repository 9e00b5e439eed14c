/-
  No cell of these rows narrows 'for every input' (looked for: loops, veiled, ifaces, maps, wideKeys, modest, calm, conditions, laid).
  DERIVED. THE GIVEN ROWS OF THIS SEAT. 8 by the template 'for every input the law returns true; each argument reads behind the call as it read before'; 0 by the template 'total and deterministic' (their statements: YthdcanpbgaaneaaTotals.lean).
  GIVEN WITH THE SEED: the statements are not yours to turn. If you find one false, say at which input.
  Laid BY PROGRAM, IN A SANDBOX (cutbox-rows.mjs): the forced cells as the released guide's own fill.sh prints them over the translation 8ea6c16882d290fc… (all of the seat's roots in one cut). By AI agents, Wed Nov 11 2026. No macro, syntax, notation, axiom, sorry.
-/
import Derived.Test.YthdcanpbgaaneaaChecked
import GoSem.Claim
import GoSem.ClaimJoined
import GoSem.ClaimMapViews
import Derived.JoinedTies
import Derived.KernelRfl
namespace Go.Proofs.Ythdcanpbgaaneaa
/- THE CELL 'sum', in the pinned program and in every row, IS THE sha256 OF THE DUMP (.gsa) THAT YthdcanpbgaaneaaProg.lean LOADS. Nothing in Lean hashes anything: it is a label: what it is worth is what the hold of that sum in a sandbox is worth. -/
noncomputable def Try.pinned : Pinned := { name := "ythdcanpbgaaneaa", sum := "8ea6c16882d290fc30c74205adcea879b4d9eab71a28981ab9788cf8fd37bca4", checked := Try.checked }
namespace Rows
def none {H : Type} : Left H := { results := [], args := [] }

/-- 'supercargolaw.ShipTells': WHATEVER THE INPUT: true; the input reads as it did. -/
def shipTellsSpec : ChangeSpec := { name := "shipTells", fn := fun _ => fun
  | [d1, d2, d3] => { results := [.lit (.bool true)], args := [d1, d2, d3] }
  | _ => none }
def shipTellsRow : OpenClaim := { program := "ythdcanpbgaaneaa", sum := "8ea6c16882d290fc30c74205adcea879b4d9eab71a28981ab9788cf8fd37bca4", func := "supercargo/supercargolaw.ShipTells", spec := "shipTells", unfollowed := true, recurses := true, apart := false }
def ShipTellsSaid : Prop := shipTellsRow.holds Try.pinned (OpenSpec.ofChange shipTellsSpec)

/-- ITS FALSE NEIGHBOUR: 'it returns false'. Refute it at one input. -/
def shipTellsWrong : ChangeSpec := { name := "shipTells", fn := fun _ => fun
  | [d1, d2, d3] => { results := [.lit (.bool false)], args := [d1, d2, d3] }
  | _ => none }
def ShipTellsWrongFalsely : Prop := shipTellsRow.holds Try.pinned (OpenSpec.ofChange shipTellsWrong)

/-- 'supercargolaw.ShipRuns': WHATEVER THE INPUT: true; the input reads as it did. -/
def shipRunsSpec : ChangeSpec := { name := "shipRuns", fn := fun _ => fun
  | [d1, d2, d3] => { results := [.lit (.bool true)], args := [d1, d2, d3] }
  | _ => none }
def shipRunsRow : OpenClaim := { program := "ythdcanpbgaaneaa", sum := "8ea6c16882d290fc30c74205adcea879b4d9eab71a28981ab9788cf8fd37bca4", func := "supercargo/supercargolaw.ShipRuns", spec := "shipRuns", unfollowed := true, recurses := true, apart := false }
def ShipRunsSaid : Prop := shipRunsRow.holds Try.pinned (OpenSpec.ofChange shipRunsSpec)

/-- ITS FALSE NEIGHBOUR: 'it returns false'. Refute it at one input. -/
def shipRunsWrong : ChangeSpec := { name := "shipRuns", fn := fun _ => fun
  | [d1, d2, d3] => { results := [.lit (.bool false)], args := [d1, d2, d3] }
  | _ => none }
def ShipRunsWrongFalsely : Prop := shipRunsRow.holds Try.pinned (OpenSpec.ofChange shipRunsWrong)

/-- 'supercargolaw.ShipPrefix': WHATEVER THE INPUT: true; the input reads as it did. -/
def shipPrefixSpec : ChangeSpec := { name := "shipPrefix", fn := fun _ => fun
  | [d1, d2] => { results := [.lit (.bool true)], args := [d1, d2] }
  | _ => none }
def shipPrefixRow : OpenClaim := { program := "ythdcanpbgaaneaa", sum := "8ea6c16882d290fc30c74205adcea879b4d9eab71a28981ab9788cf8fd37bca4", func := "supercargo/supercargolaw.ShipPrefix", spec := "shipPrefix", unfollowed := true, recurses := true, apart := false }
def ShipPrefixSaid : Prop := shipPrefixRow.holds Try.pinned (OpenSpec.ofChange shipPrefixSpec)

/-- ITS FALSE NEIGHBOUR: 'it returns false'. Refute it at one input. -/
def shipPrefixWrong : ChangeSpec := { name := "shipPrefix", fn := fun _ => fun
  | [d1, d2] => { results := [.lit (.bool false)], args := [d1, d2] }
  | _ => none }
def ShipPrefixWrongFalsely : Prop := shipPrefixRow.holds Try.pinned (OpenSpec.ofChange shipPrefixWrong)

/-- 'supercargolaw.ShipKnows': WHATEVER THE INPUT: true; the input reads as it did. -/
def shipKnowsSpec : ChangeSpec := { name := "shipKnows", fn := fun _ => fun
  | [d1, d2] => { results := [.lit (.bool true)], args := [d1, d2] }
  | _ => none }
def shipKnowsRow : OpenClaim := { program := "ythdcanpbgaaneaa", sum := "8ea6c16882d290fc30c74205adcea879b4d9eab71a28981ab9788cf8fd37bca4", func := "supercargo/supercargolaw.ShipKnows", spec := "shipKnows", unfollowed := true, recurses := true, apart := false }
def ShipKnowsSaid : Prop := shipKnowsRow.holds Try.pinned (OpenSpec.ofChange shipKnowsSpec)

/-- ITS FALSE NEIGHBOUR: 'it returns false'. Refute it at one input. -/
def shipKnowsWrong : ChangeSpec := { name := "shipKnows", fn := fun _ => fun
  | [d1, d2] => { results := [.lit (.bool false)], args := [d1, d2] }
  | _ => none }
def ShipKnowsWrongFalsely : Prop := shipKnowsRow.holds Try.pinned (OpenSpec.ofChange shipKnowsWrong)

/-- 'supercargolaw.ShipTurned': WHATEVER THE INPUT: true; the input reads as it did. -/
def shipTurnedSpec : ChangeSpec := { name := "shipTurned", fn := fun _ => fun
  | [d1, d2] => { results := [.lit (.bool true)], args := [d1, d2] }
  | _ => none }
def shipTurnedRow : OpenClaim := { program := "ythdcanpbgaaneaa", sum := "8ea6c16882d290fc30c74205adcea879b4d9eab71a28981ab9788cf8fd37bca4", func := "supercargo/supercargolaw.ShipTurned", spec := "shipTurned", unfollowed := true, recurses := true, apart := false }
def ShipTurnedSaid : Prop := shipTurnedRow.holds Try.pinned (OpenSpec.ofChange shipTurnedSpec)

/-- ITS FALSE NEIGHBOUR: 'it returns false'. Refute it at one input. -/
def shipTurnedWrong : ChangeSpec := { name := "shipTurned", fn := fun _ => fun
  | [d1, d2] => { results := [.lit (.bool false)], args := [d1, d2] }
  | _ => none }
def ShipTurnedWrongFalsely : Prop := shipTurnedRow.holds Try.pinned (OpenSpec.ofChange shipTurnedWrong)

/-- 'supercargolaw.ShipLives': WHATEVER THE INPUT: true; the input reads as it did. -/
def shipLivesSpec : ChangeSpec := { name := "shipLives", fn := fun _ => fun
  | [d1, d2] => { results := [.lit (.bool true)], args := [d1, d2] }
  | _ => none }
def shipLivesRow : OpenClaim := { program := "ythdcanpbgaaneaa", sum := "8ea6c16882d290fc30c74205adcea879b4d9eab71a28981ab9788cf8fd37bca4", func := "supercargo/supercargolaw.ShipLives", spec := "shipLives", unfollowed := true, recurses := true, apart := false }
def ShipLivesSaid : Prop := shipLivesRow.holds Try.pinned (OpenSpec.ofChange shipLivesSpec)

/-- ITS FALSE NEIGHBOUR: 'it returns false'. Refute it at one input. -/
def shipLivesWrong : ChangeSpec := { name := "shipLives", fn := fun _ => fun
  | [d1, d2] => { results := [.lit (.bool false)], args := [d1, d2] }
  | _ => none }
def ShipLivesWrongFalsely : Prop := shipLivesRow.holds Try.pinned (OpenSpec.ofChange shipLivesWrong)

/-- 'supercargolaw.ShipOnce': WHATEVER THE INPUT: true; the input reads as it did. -/
def shipOnceSpec : ChangeSpec := { name := "shipOnce", fn := fun _ => fun
  | [d1, d2] => { results := [.lit (.bool true)], args := [d1, d2] }
  | _ => none }
def shipOnceRow : OpenClaim := { program := "ythdcanpbgaaneaa", sum := "8ea6c16882d290fc30c74205adcea879b4d9eab71a28981ab9788cf8fd37bca4", func := "supercargo/supercargolaw.ShipOnce", spec := "shipOnce", unfollowed := true, recurses := true, apart := false }
def ShipOnceSaid : Prop := shipOnceRow.holds Try.pinned (OpenSpec.ofChange shipOnceSpec)

/-- ITS FALSE NEIGHBOUR: 'it returns false'. Refute it at one input. -/
def shipOnceWrong : ChangeSpec := { name := "shipOnce", fn := fun _ => fun
  | [d1, d2] => { results := [.lit (.bool false)], args := [d1, d2] }
  | _ => none }
def ShipOnceWrongFalsely : Prop := shipOnceRow.holds Try.pinned (OpenSpec.ofChange shipOnceWrong)

/-- 'supercargolaw.RestStores': WHATEVER THE INPUT: true; the input reads as it did. -/
def restStoresSpec : ChangeSpec := { name := "restStores", fn := fun _ => fun
  | [d1, d2, d3, d4, d5, d6] => { results := [.lit (.bool true)], args := [d1, d2, d3, d4, d5, d6] }
  | _ => none }
def restStoresRow : OpenClaim := { program := "ythdcanpbgaaneaa", sum := "8ea6c16882d290fc30c74205adcea879b4d9eab71a28981ab9788cf8fd37bca4", func := "supercargo/supercargolaw.RestStores", spec := "restStores", unfollowed := true, recurses := true, apart := false }
def RestStoresSaid : Prop := restStoresRow.holds Try.pinned (OpenSpec.ofChange restStoresSpec)

/-- ITS FALSE NEIGHBOUR: 'it returns false'. Refute it at one input. -/
def restStoresWrong : ChangeSpec := { name := "restStores", fn := fun _ => fun
  | [d1, d2, d3, d4, d5, d6] => { results := [.lit (.bool false)], args := [d1, d2, d3, d4, d5, d6] }
  | _ => none }
def RestStoresWrongFalsely : Prop := restStoresRow.holds Try.pinned (OpenSpec.ofChange restStoresWrong)

/- THE SECOND FORM. 'bulk': how many values and letters a reading holds, each counted each time it is reached (what is shared counts as often as it is met; a slice's spare places count too). A statement '..UptoSaid' is the law's where the arguments, and the package variables that the reading takes, are together of bulk at most 1048576: NARROWER than '..Said'. Prove '..Said' where nothing that the law and all that it calls make is longer than what came in: it says more and counts as full. Else prove '..UptoSaid'. A law counts once. -/
mutual
def uptoBulk {H : Type} : DataW H → Nat
  | .lit (.string bytes) => bytes.length + 1
  | .lit _ => 1
  | .nil => 1
  | .ptr d => uptoBulk d + 1
  | .slice elems spare => uptoBulkAll elems + uptoBulkAll spare + 1
  | .agg parts => uptoBulkAll parts + 1
  | .iface _ d => uptoBulk d + 1
  | .map entries => uptoBulkEntries entries + 1
  | .held _ => 1
def uptoBulkAll {H : Type} : List (DataW H) → Nat
  | [] => 0
  | d :: r => uptoBulk d + uptoBulkAll r
def uptoBulkEntries {H : Type} : List (Lit × DataW H) → Nat
  | [] => 0
  | x :: r => uptoBulkEntry x + uptoBulkEntries r
def uptoBulkEntry {H : Type} : Lit × DataW H → Nat
  | (.string bytes, d) => bytes.length + uptoBulk d + 1
  | (_, d) => uptoBulk d + 1
 end
def uptoSmall : (H : Type) → List (DataW H) → Bool := fun _ ds => decide (uptoBulkAll ds ≤ 1048576)
def OpenSpec.upto (s : _root_.Go.ChangeSpec) : _root_.Go.OpenSpec := { _root_.Go.OpenSpec.ofChange s with cond := some uptoSmall }

/-- 'supercargolaw.ShipTells', WHERE WHAT IT READS IS OF BULK AT MOST 1048576: true; the input reads as it did. -/
def shipTellsUptoRow : OpenClaim := { program := "ythdcanpbgaaneaa", sum := "8ea6c16882d290fc30c74205adcea879b4d9eab71a28981ab9788cf8fd37bca4", func := "supercargo/supercargolaw.ShipTells", spec := "shipTells", unfollowed := true, recurses := true, apart := false, narrowed := true }
def ShipTellsUptoSaid : Prop := shipTellsUptoRow.holds Try.pinned (OpenSpec.upto shipTellsSpec)

/-- 'supercargolaw.ShipRuns', WHERE WHAT IT READS IS OF BULK AT MOST 1048576: true; the input reads as it did. -/
def shipRunsUptoRow : OpenClaim := { program := "ythdcanpbgaaneaa", sum := "8ea6c16882d290fc30c74205adcea879b4d9eab71a28981ab9788cf8fd37bca4", func := "supercargo/supercargolaw.ShipRuns", spec := "shipRuns", unfollowed := true, recurses := true, apart := false, narrowed := true }
def ShipRunsUptoSaid : Prop := shipRunsUptoRow.holds Try.pinned (OpenSpec.upto shipRunsSpec)

/-- 'supercargolaw.ShipPrefix', WHERE WHAT IT READS IS OF BULK AT MOST 1048576: true; the input reads as it did. -/
def shipPrefixUptoRow : OpenClaim := { program := "ythdcanpbgaaneaa", sum := "8ea6c16882d290fc30c74205adcea879b4d9eab71a28981ab9788cf8fd37bca4", func := "supercargo/supercargolaw.ShipPrefix", spec := "shipPrefix", unfollowed := true, recurses := true, apart := false, narrowed := true }
def ShipPrefixUptoSaid : Prop := shipPrefixUptoRow.holds Try.pinned (OpenSpec.upto shipPrefixSpec)

/-- 'supercargolaw.ShipKnows', WHERE WHAT IT READS IS OF BULK AT MOST 1048576: true; the input reads as it did. -/
def shipKnowsUptoRow : OpenClaim := { program := "ythdcanpbgaaneaa", sum := "8ea6c16882d290fc30c74205adcea879b4d9eab71a28981ab9788cf8fd37bca4", func := "supercargo/supercargolaw.ShipKnows", spec := "shipKnows", unfollowed := true, recurses := true, apart := false, narrowed := true }
def ShipKnowsUptoSaid : Prop := shipKnowsUptoRow.holds Try.pinned (OpenSpec.upto shipKnowsSpec)

/-- 'supercargolaw.ShipTurned', WHERE WHAT IT READS IS OF BULK AT MOST 1048576: true; the input reads as it did. -/
def shipTurnedUptoRow : OpenClaim := { program := "ythdcanpbgaaneaa", sum := "8ea6c16882d290fc30c74205adcea879b4d9eab71a28981ab9788cf8fd37bca4", func := "supercargo/supercargolaw.ShipTurned", spec := "shipTurned", unfollowed := true, recurses := true, apart := false, narrowed := true }
def ShipTurnedUptoSaid : Prop := shipTurnedUptoRow.holds Try.pinned (OpenSpec.upto shipTurnedSpec)

/-- 'supercargolaw.ShipLives', WHERE WHAT IT READS IS OF BULK AT MOST 1048576: true; the input reads as it did. -/
def shipLivesUptoRow : OpenClaim := { program := "ythdcanpbgaaneaa", sum := "8ea6c16882d290fc30c74205adcea879b4d9eab71a28981ab9788cf8fd37bca4", func := "supercargo/supercargolaw.ShipLives", spec := "shipLives", unfollowed := true, recurses := true, apart := false, narrowed := true }
def ShipLivesUptoSaid : Prop := shipLivesUptoRow.holds Try.pinned (OpenSpec.upto shipLivesSpec)

/-- 'supercargolaw.ShipOnce', WHERE WHAT IT READS IS OF BULK AT MOST 1048576: true; the input reads as it did. -/
def shipOnceUptoRow : OpenClaim := { program := "ythdcanpbgaaneaa", sum := "8ea6c16882d290fc30c74205adcea879b4d9eab71a28981ab9788cf8fd37bca4", func := "supercargo/supercargolaw.ShipOnce", spec := "shipOnce", unfollowed := true, recurses := true, apart := false, narrowed := true }
def ShipOnceUptoSaid : Prop := shipOnceUptoRow.holds Try.pinned (OpenSpec.upto shipOnceSpec)

/-- 'supercargolaw.RestStores', WHERE WHAT IT READS IS OF BULK AT MOST 1048576: true; the input reads as it did. -/
def restStoresUptoRow : OpenClaim := { program := "ythdcanpbgaaneaa", sum := "8ea6c16882d290fc30c74205adcea879b4d9eab71a28981ab9788cf8fd37bca4", func := "supercargo/supercargolaw.RestStores", spec := "restStores", unfollowed := true, recurses := true, apart := false, narrowed := true }
def RestStoresUptoSaid : Prop := restStoresUptoRow.holds Try.pinned (OpenSpec.upto restStoresSpec)

end Rows
end Go.Proofs.Ythdcanpbgaaneaa
