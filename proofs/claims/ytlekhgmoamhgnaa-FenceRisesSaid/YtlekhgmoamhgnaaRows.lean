/-
  No cell of these rows narrows 'for every input' (looked for: loops, veiled, ifaces, maps, wideKeys, modest, calm, conditions, laid).
  DERIVED. THE GIVEN ROWS OF THIS SEAT. 6 by the template 'for every input the law returns true; each argument reads behind the call as it read before'; 0 by the template 'total and deterministic' (their statements: YtlekhgmoamhgnaaTotals.lean).
  GIVEN WITH THE SEED: the statements are not yours to turn. If you find one false, say at which input.
  Laid BY PROGRAM, IN A SANDBOX (cutbox-rows.mjs): the forced cells as the released guide's own fill.sh prints them over the translation cf85e864ba6686aa… (all of the seat's roots in one cut). By AI agents, Wed Nov 11 2026. No macro, syntax, notation, axiom, sorry.
-/
import Derived.Test.YtlekhgmoamhgnaaChecked
import GoSem.Claim
import GoSem.ClaimJoined
import GoSem.ClaimMapViews
import Derived.JoinedTies
import Derived.KernelRfl
namespace Go.Proofs.Ytlekhgmoamhgnaa
/- THE CELL 'sum', in the pinned program and in every row, IS THE sha256 OF THE DUMP (.gsa) THAT YtlekhgmoamhgnaaProg.lean LOADS. Nothing in Lean hashes anything: it is a label: what it is worth is what the hold of that sum in a sandbox is worth. -/
noncomputable def Try.pinned : Pinned := { name := "ytlekhgmoamhgnaa", sum := "cf85e864ba6686aa5ba60f1afc6ce49e6daf2f8324aad4210828f692c8f9897b", checked := Try.checked }
namespace Rows
def none {H : Type} : Left H := { results := [], args := [] }

/-- 'supercargolaw.LeaseTells': WHATEVER THE INPUT: true; the input reads as it did. -/
def leaseTellsSpec : ChangeSpec := { name := "leaseTells", fn := fun _ => fun
  | [d1, d2, d3, d4, d5, d6] => { results := [.lit (.bool true)], args := [d1, d2, d3, d4, d5, d6] }
  | _ => none }
def leaseTellsRow : OpenClaim := { program := "ytlekhgmoamhgnaa", sum := "cf85e864ba6686aa5ba60f1afc6ce49e6daf2f8324aad4210828f692c8f9897b", func := "supercargo/supercargolaw.LeaseTells", spec := "leaseTells", unfollowed := true, recurses := true, apart := false }
def LeaseTellsSaid : Prop := leaseTellsRow.holds Try.pinned (OpenSpec.ofChange leaseTellsSpec)

/-- ITS FALSE NEIGHBOUR: 'it returns false'. Refute it at one input. -/
def leaseTellsWrong : ChangeSpec := { name := "leaseTells", fn := fun _ => fun
  | [d1, d2, d3, d4, d5, d6] => { results := [.lit (.bool false)], args := [d1, d2, d3, d4, d5, d6] }
  | _ => none }
def LeaseTellsWrongFalsely : Prop := leaseTellsRow.holds Try.pinned (OpenSpec.ofChange leaseTellsWrong)

/-- 'supercargolaw.LeaseOne': WHATEVER THE INPUT: true; the input reads as it did. -/
def leaseOneSpec : ChangeSpec := { name := "leaseOne", fn := fun _ => fun
  | [d1, d2, d3, d4, d5, d6, d7] => { results := [.lit (.bool true)], args := [d1, d2, d3, d4, d5, d6, d7] }
  | _ => none }
def leaseOneRow : OpenClaim := { program := "ytlekhgmoamhgnaa", sum := "cf85e864ba6686aa5ba60f1afc6ce49e6daf2f8324aad4210828f692c8f9897b", func := "supercargo/supercargolaw.LeaseOne", spec := "leaseOne", unfollowed := true, recurses := true, apart := false }
def LeaseOneSaid : Prop := leaseOneRow.holds Try.pinned (OpenSpec.ofChange leaseOneSpec)

/-- ITS FALSE NEIGHBOUR: 'it returns false'. Refute it at one input. -/
def leaseOneWrong : ChangeSpec := { name := "leaseOne", fn := fun _ => fun
  | [d1, d2, d3, d4, d5, d6, d7] => { results := [.lit (.bool false)], args := [d1, d2, d3, d4, d5, d6, d7] }
  | _ => none }
def LeaseOneWrongFalsely : Prop := leaseOneRow.holds Try.pinned (OpenSpec.ofChange leaseOneWrong)

/-- 'supercargolaw.LeaseTokens': WHATEVER THE INPUT: true; the input reads as it did. -/
def leaseTokensSpec : ChangeSpec := { name := "leaseTokens", fn := fun _ => fun
  | [d1, d2, d3, d4] => { results := [.lit (.bool true)], args := [d1, d2, d3, d4] }
  | _ => none }
def leaseTokensRow : OpenClaim := { program := "ytlekhgmoamhgnaa", sum := "cf85e864ba6686aa5ba60f1afc6ce49e6daf2f8324aad4210828f692c8f9897b", func := "supercargo/supercargolaw.LeaseTokens", spec := "leaseTokens", unfollowed := true, recurses := true, apart := false }
def LeaseTokensSaid : Prop := leaseTokensRow.holds Try.pinned (OpenSpec.ofChange leaseTokensSpec)

/-- ITS FALSE NEIGHBOUR: 'it returns false'. Refute it at one input. -/
def leaseTokensWrong : ChangeSpec := { name := "leaseTokens", fn := fun _ => fun
  | [d1, d2, d3, d4] => { results := [.lit (.bool false)], args := [d1, d2, d3, d4] }
  | _ => none }
def LeaseTokensWrongFalsely : Prop := leaseTokensRow.holds Try.pinned (OpenSpec.ofChange leaseTokensWrong)

/-- 'supercargolaw.LeaseGives': WHATEVER THE INPUT: true; the input reads as it did. -/
def leaseGivesSpec : ChangeSpec := { name := "leaseGives", fn := fun _ => fun
  | [d1, d2, d3, d4, d5, d6] => { results := [.lit (.bool true)], args := [d1, d2, d3, d4, d5, d6] }
  | _ => none }
def leaseGivesRow : OpenClaim := { program := "ytlekhgmoamhgnaa", sum := "cf85e864ba6686aa5ba60f1afc6ce49e6daf2f8324aad4210828f692c8f9897b", func := "supercargo/supercargolaw.LeaseGives", spec := "leaseGives", unfollowed := true, recurses := true, apart := false }
def LeaseGivesSaid : Prop := leaseGivesRow.holds Try.pinned (OpenSpec.ofChange leaseGivesSpec)

/-- ITS FALSE NEIGHBOUR: 'it returns false'. Refute it at one input. -/
def leaseGivesWrong : ChangeSpec := { name := "leaseGives", fn := fun _ => fun
  | [d1, d2, d3, d4, d5, d6] => { results := [.lit (.bool false)], args := [d1, d2, d3, d4, d5, d6] }
  | _ => none }
def LeaseGivesWrongFalsely : Prop := leaseGivesRow.holds Try.pinned (OpenSpec.ofChange leaseGivesWrong)

/-- 'supercargolaw.FenceRises': WHATEVER THE INPUT: true; the input reads as it did. -/
def fenceRisesSpec : ChangeSpec := { name := "fenceRises", fn := fun _ => fun
  | [d1, d2, d3] => { results := [.lit (.bool true)], args := [d1, d2, d3] }
  | _ => none }
def fenceRisesRow : OpenClaim := { program := "ytlekhgmoamhgnaa", sum := "cf85e864ba6686aa5ba60f1afc6ce49e6daf2f8324aad4210828f692c8f9897b", func := "supercargo/supercargolaw.FenceRises", spec := "fenceRises", unfollowed := true, recurses := true, apart := false }
def FenceRisesSaid : Prop := fenceRisesRow.holds Try.pinned (OpenSpec.ofChange fenceRisesSpec)

/-- ITS FALSE NEIGHBOUR: 'it returns false'. Refute it at one input. -/
def fenceRisesWrong : ChangeSpec := { name := "fenceRises", fn := fun _ => fun
  | [d1, d2, d3] => { results := [.lit (.bool false)], args := [d1, d2, d3] }
  | _ => none }
def FenceRisesWrongFalsely : Prop := fenceRisesRow.holds Try.pinned (OpenSpec.ofChange fenceRisesWrong)

/-- 'supercargolaw.LeaseFence': WHATEVER THE INPUT: true; the input reads as it did. -/
def leaseFenceSpec : ChangeSpec := { name := "leaseFence", fn := fun _ => fun
  | [d1, d2, d3, d4, d5, d6, d7] => { results := [.lit (.bool true)], args := [d1, d2, d3, d4, d5, d6, d7] }
  | _ => none }
def leaseFenceRow : OpenClaim := { program := "ytlekhgmoamhgnaa", sum := "cf85e864ba6686aa5ba60f1afc6ce49e6daf2f8324aad4210828f692c8f9897b", func := "supercargo/supercargolaw.LeaseFence", spec := "leaseFence", unfollowed := true, recurses := true, apart := false }
def LeaseFenceSaid : Prop := leaseFenceRow.holds Try.pinned (OpenSpec.ofChange leaseFenceSpec)

/-- ITS FALSE NEIGHBOUR: 'it returns false'. Refute it at one input. -/
def leaseFenceWrong : ChangeSpec := { name := "leaseFence", fn := fun _ => fun
  | [d1, d2, d3, d4, d5, d6, d7] => { results := [.lit (.bool false)], args := [d1, d2, d3, d4, d5, d6, d7] }
  | _ => none }
def LeaseFenceWrongFalsely : Prop := leaseFenceRow.holds Try.pinned (OpenSpec.ofChange leaseFenceWrong)

/- THE SECOND FORM. 'bulk': how many values and letters a reading holds, each counted each time it is reached (what is shared counts as often as it is met; a slice's spare places count too). A statement '..UptoSaid' is the law's where the arguments, and the package variables that the reading takes, are together of bulk at most 1048576: NARROWER than '..Said'. Prove '..Said' where nothing that the law and all that it calls make is longer than what came in: it says more and counts as full. Else prove '..UptoSaid'. A law counts once. -/
mutual
def uptoBulk {H : Type} : DataW H → Nat
  | .lit (.string bytes) => bytes.length + 1
  | .lit _ => 1
  | .nil => 1
  | .ptr d => uptoBulk d + 1
  | .slice elems spare => uptoBulkAll elems + uptoBulkAll spare + 1
  | .agg parts => uptoBulkAll parts + 1
  | .iface _ d => uptoBulk d + 1
  | .map entries => uptoBulkEntries entries + 1
  | .held _ => 1
def uptoBulkAll {H : Type} : List (DataW H) → Nat
  | [] => 0
  | d :: r => uptoBulk d + uptoBulkAll r
def uptoBulkEntries {H : Type} : List (Lit × DataW H) → Nat
  | [] => 0
  | x :: r => uptoBulkEntry x + uptoBulkEntries r
def uptoBulkEntry {H : Type} : Lit × DataW H → Nat
  | (.string bytes, d) => bytes.length + uptoBulk d + 1
  | (_, d) => uptoBulk d + 1
 end
def uptoSmall : (H : Type) → List (DataW H) → Bool := fun _ ds => decide (uptoBulkAll ds ≤ 1048576)
def OpenSpec.upto (s : _root_.Go.ChangeSpec) : _root_.Go.OpenSpec := { _root_.Go.OpenSpec.ofChange s with cond := some uptoSmall }

/-- 'supercargolaw.LeaseTells', WHERE WHAT IT READS IS OF BULK AT MOST 1048576: true; the input reads as it did. -/
def leaseTellsUptoRow : OpenClaim := { program := "ytlekhgmoamhgnaa", sum := "cf85e864ba6686aa5ba60f1afc6ce49e6daf2f8324aad4210828f692c8f9897b", func := "supercargo/supercargolaw.LeaseTells", spec := "leaseTells", unfollowed := true, recurses := true, apart := false, narrowed := true }
def LeaseTellsUptoSaid : Prop := leaseTellsUptoRow.holds Try.pinned (OpenSpec.upto leaseTellsSpec)

/-- 'supercargolaw.LeaseOne', WHERE WHAT IT READS IS OF BULK AT MOST 1048576: true; the input reads as it did. -/
def leaseOneUptoRow : OpenClaim := { program := "ytlekhgmoamhgnaa", sum := "cf85e864ba6686aa5ba60f1afc6ce49e6daf2f8324aad4210828f692c8f9897b", func := "supercargo/supercargolaw.LeaseOne", spec := "leaseOne", unfollowed := true, recurses := true, apart := false, narrowed := true }
def LeaseOneUptoSaid : Prop := leaseOneUptoRow.holds Try.pinned (OpenSpec.upto leaseOneSpec)

/-- 'supercargolaw.LeaseTokens', WHERE WHAT IT READS IS OF BULK AT MOST 1048576: true; the input reads as it did. -/
def leaseTokensUptoRow : OpenClaim := { program := "ytlekhgmoamhgnaa", sum := "cf85e864ba6686aa5ba60f1afc6ce49e6daf2f8324aad4210828f692c8f9897b", func := "supercargo/supercargolaw.LeaseTokens", spec := "leaseTokens", unfollowed := true, recurses := true, apart := false, narrowed := true }
def LeaseTokensUptoSaid : Prop := leaseTokensUptoRow.holds Try.pinned (OpenSpec.upto leaseTokensSpec)

/-- 'supercargolaw.LeaseGives', WHERE WHAT IT READS IS OF BULK AT MOST 1048576: true; the input reads as it did. -/
def leaseGivesUptoRow : OpenClaim := { program := "ytlekhgmoamhgnaa", sum := "cf85e864ba6686aa5ba60f1afc6ce49e6daf2f8324aad4210828f692c8f9897b", func := "supercargo/supercargolaw.LeaseGives", spec := "leaseGives", unfollowed := true, recurses := true, apart := false, narrowed := true }
def LeaseGivesUptoSaid : Prop := leaseGivesUptoRow.holds Try.pinned (OpenSpec.upto leaseGivesSpec)

/-- 'supercargolaw.FenceRises', WHERE WHAT IT READS IS OF BULK AT MOST 1048576: true; the input reads as it did. -/
def fenceRisesUptoRow : OpenClaim := { program := "ytlekhgmoamhgnaa", sum := "cf85e864ba6686aa5ba60f1afc6ce49e6daf2f8324aad4210828f692c8f9897b", func := "supercargo/supercargolaw.FenceRises", spec := "fenceRises", unfollowed := true, recurses := true, apart := false, narrowed := true }
def FenceRisesUptoSaid : Prop := fenceRisesUptoRow.holds Try.pinned (OpenSpec.upto fenceRisesSpec)

/-- 'supercargolaw.LeaseFence', WHERE WHAT IT READS IS OF BULK AT MOST 1048576: true; the input reads as it did. -/
def leaseFenceUptoRow : OpenClaim := { program := "ytlekhgmoamhgnaa", sum := "cf85e864ba6686aa5ba60f1afc6ce49e6daf2f8324aad4210828f692c8f9897b", func := "supercargo/supercargolaw.LeaseFence", spec := "leaseFence", unfollowed := true, recurses := true, apart := false, narrowed := true }
def LeaseFenceUptoSaid : Prop := leaseFenceUptoRow.holds Try.pinned (OpenSpec.upto leaseFenceSpec)

end Rows
end Go.Proofs.Ytlekhgmoamhgnaa
