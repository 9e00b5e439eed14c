/-
  No cell of these rows narrows 'for every input' (looked for: loops, veiled, ifaces, maps, wideKeys, modest, calm, conditions, laid).
  DERIVED. THE GIVEN ROWS OF THIS SEAT. 6 by the template 'for every input the law returns true; each argument reads behind the call as it read before'; 0 by the template 'total and deterministic' (their statements: YtdoaefekbbgcmaaTotals.lean).
  GIVEN WITH THE SEED: the statements are not yours to turn. If you find one false, say at which input.
  Laid BY PROGRAM, IN A SANDBOX (cutbox-rows.mjs): the forced cells as the released guide's own fill.sh prints them over the translation 0f9c4e847cf1194a… (all of the seat's roots in one cut). By AI agents, Wed Nov 11 2026. No macro, syntax, notation, axiom, sorry.
-/
import Derived.Test.YtdoaefekbbgcmaaChecked
import GoSem.Claim
import GoSem.ClaimJoined
import GoSem.ClaimMapViews
import Derived.JoinedTies
import Derived.KernelRfl
namespace Go.Proofs.Ytdoaefekbbgcmaa
/- THE CELL 'sum', in the pinned program and in every row, IS THE sha256 OF THE DUMP (.gsa) THAT YtdoaefekbbgcmaaProg.lean LOADS. Nothing in Lean hashes anything: it is a label: what it is worth is what the hold of that sum in a sandbox is worth. -/
noncomputable def Try.pinned : Pinned := { name := "ytdoaefekbbgcmaa", sum := "0f9c4e847cf1194a267ecb9d39dabcf87625bd0c97b197d745f74de8763d077c", checked := Try.checked }
namespace Rows
def none {H : Type} : Left H := { results := [], args := [] }

/-- 'supercargolaw.BucketTells': WHATEVER THE INPUT: true; the input reads as it did. -/
def bucketTellsSpec : ChangeSpec := { name := "bucketTells", fn := fun _ => fun
  | [d1, d2, d3] => { results := [.lit (.bool true)], args := [d1, d2, d3] }
  | _ => none }
def bucketTellsRow : OpenClaim := { program := "ytdoaefekbbgcmaa", sum := "0f9c4e847cf1194a267ecb9d39dabcf87625bd0c97b197d745f74de8763d077c", func := "supercargo/supercargolaw.BucketTells", spec := "bucketTells", unfollowed := true, recurses := true, apart := false }
def BucketTellsSaid : Prop := bucketTellsRow.holds Try.pinned (OpenSpec.ofChange bucketTellsSpec)

/-- ITS FALSE NEIGHBOUR: 'it returns false'. Refute it at one input. -/
def bucketTellsWrong : ChangeSpec := { name := "bucketTells", fn := fun _ => fun
  | [d1, d2, d3] => { results := [.lit (.bool false)], args := [d1, d2, d3] }
  | _ => none }
def BucketTellsWrongFalsely : Prop := bucketTellsRow.holds Try.pinned (OpenSpec.ofChange bucketTellsWrong)

/-- 'supercargolaw.BucketServes': WHATEVER THE INPUT: true; the input reads as it did. -/
def bucketServesSpec : ChangeSpec := { name := "bucketServes", fn := fun _ => fun
  | [d1, d2, d3] => { results := [.lit (.bool true)], args := [d1, d2, d3] }
  | _ => none }
def bucketServesRow : OpenClaim := { program := "ytdoaefekbbgcmaa", sum := "0f9c4e847cf1194a267ecb9d39dabcf87625bd0c97b197d745f74de8763d077c", func := "supercargo/supercargolaw.BucketServes", spec := "bucketServes", unfollowed := true, recurses := true, apart := false }
def BucketServesSaid : Prop := bucketServesRow.holds Try.pinned (OpenSpec.ofChange bucketServesSpec)

/-- ITS FALSE NEIGHBOUR: 'it returns false'. Refute it at one input. -/
def bucketServesWrong : ChangeSpec := { name := "bucketServes", fn := fun _ => fun
  | [d1, d2, d3] => { results := [.lit (.bool false)], args := [d1, d2, d3] }
  | _ => none }
def BucketServesWrongFalsely : Prop := bucketServesRow.holds Try.pinned (OpenSpec.ofChange bucketServesWrong)

/-- 'supercargolaw.BucketBound': WHATEVER THE INPUT: true; the input reads as it did. -/
def bucketBoundSpec : ChangeSpec := { name := "bucketBound", fn := fun _ => fun
  | [d1, d2, d3, d4] => { results := [.lit (.bool true)], args := [d1, d2, d3, d4] }
  | _ => none }
def bucketBoundRow : OpenClaim := { program := "ytdoaefekbbgcmaa", sum := "0f9c4e847cf1194a267ecb9d39dabcf87625bd0c97b197d745f74de8763d077c", func := "supercargo/supercargolaw.BucketBound", spec := "bucketBound", unfollowed := true, recurses := true, apart := false }
def BucketBoundSaid : Prop := bucketBoundRow.holds Try.pinned (OpenSpec.ofChange bucketBoundSpec)

/-- ITS FALSE NEIGHBOUR: 'it returns false'. Refute it at one input. -/
def bucketBoundWrong : ChangeSpec := { name := "bucketBound", fn := fun _ => fun
  | [d1, d2, d3, d4] => { results := [.lit (.bool false)], args := [d1, d2, d3, d4] }
  | _ => none }
def BucketBoundWrongFalsely : Prop := bucketBoundRow.holds Try.pinned (OpenSpec.ofChange bucketBoundWrong)

/-- 'supercargolaw.BucketIdle': WHATEVER THE INPUT: true; the input reads as it did. -/
def bucketIdleSpec : ChangeSpec := { name := "bucketIdle", fn := fun _ => fun
  | [d1, d2, d3, d4] => { results := [.lit (.bool true)], args := [d1, d2, d3, d4] }
  | _ => none }
def bucketIdleRow : OpenClaim := { program := "ytdoaefekbbgcmaa", sum := "0f9c4e847cf1194a267ecb9d39dabcf87625bd0c97b197d745f74de8763d077c", func := "supercargo/supercargolaw.BucketIdle", spec := "bucketIdle", unfollowed := true, recurses := true, apart := false }
def BucketIdleSaid : Prop := bucketIdleRow.holds Try.pinned (OpenSpec.ofChange bucketIdleSpec)

/-- ITS FALSE NEIGHBOUR: 'it returns false'. Refute it at one input. -/
def bucketIdleWrong : ChangeSpec := { name := "bucketIdle", fn := fun _ => fun
  | [d1, d2, d3, d4] => { results := [.lit (.bool false)], args := [d1, d2, d3, d4] }
  | _ => none }
def BucketIdleWrongFalsely : Prop := bucketIdleRow.holds Try.pinned (OpenSpec.ofChange bucketIdleWrong)

/-- 'supercargolaw.BucketReady': WHATEVER THE INPUT: true; the input reads as it did. -/
def bucketReadySpec : ChangeSpec := { name := "bucketReady", fn := fun _ => fun
  | [d1, d2, d3, d4] => { results := [.lit (.bool true)], args := [d1, d2, d3, d4] }
  | _ => none }
def bucketReadyRow : OpenClaim := { program := "ytdoaefekbbgcmaa", sum := "0f9c4e847cf1194a267ecb9d39dabcf87625bd0c97b197d745f74de8763d077c", func := "supercargo/supercargolaw.BucketReady", spec := "bucketReady", unfollowed := true, recurses := true, apart := false }
def BucketReadySaid : Prop := bucketReadyRow.holds Try.pinned (OpenSpec.ofChange bucketReadySpec)

/-- ITS FALSE NEIGHBOUR: 'it returns false'. Refute it at one input. -/
def bucketReadyWrong : ChangeSpec := { name := "bucketReady", fn := fun _ => fun
  | [d1, d2, d3, d4] => { results := [.lit (.bool false)], args := [d1, d2, d3, d4] }
  | _ => none }
def BucketReadyWrongFalsely : Prop := bucketReadyRow.holds Try.pinned (OpenSpec.ofChange bucketReadyWrong)

/-- 'supercargolaw.BucketMore': WHATEVER THE INPUT: true; the input reads as it did. -/
def bucketMoreSpec : ChangeSpec := { name := "bucketMore", fn := fun _ => fun
  | [d1, d2, d3, d4, d5, d6] => { results := [.lit (.bool true)], args := [d1, d2, d3, d4, d5, d6] }
  | _ => none }
def bucketMoreRow : OpenClaim := { program := "ytdoaefekbbgcmaa", sum := "0f9c4e847cf1194a267ecb9d39dabcf87625bd0c97b197d745f74de8763d077c", func := "supercargo/supercargolaw.BucketMore", spec := "bucketMore", unfollowed := true, recurses := true, apart := false }
def BucketMoreSaid : Prop := bucketMoreRow.holds Try.pinned (OpenSpec.ofChange bucketMoreSpec)

/-- ITS FALSE NEIGHBOUR: 'it returns false'. Refute it at one input. -/
def bucketMoreWrong : ChangeSpec := { name := "bucketMore", fn := fun _ => fun
  | [d1, d2, d3, d4, d5, d6] => { results := [.lit (.bool false)], args := [d1, d2, d3, d4, d5, d6] }
  | _ => none }
def BucketMoreWrongFalsely : Prop := bucketMoreRow.holds Try.pinned (OpenSpec.ofChange bucketMoreWrong)

/- THE SECOND FORM. 'bulk': how many values and letters a reading holds, each counted each time it is reached (what is shared counts as often as it is met; a slice's spare places count too). A statement '..UptoSaid' is the law's where the arguments, and the package variables that the reading takes, are together of bulk at most 1048576: NARROWER than '..Said'. Prove '..Said' where nothing that the law and all that it calls make is longer than what came in: it says more and counts as full. Else prove '..UptoSaid'. A law counts once. -/
mutual
def uptoBulk {H : Type} : DataW H → Nat
  | .lit (.string bytes) => bytes.length + 1
  | .lit _ => 1
  | .nil => 1
  | .ptr d => uptoBulk d + 1
  | .slice elems spare => uptoBulkAll elems + uptoBulkAll spare + 1
  | .agg parts => uptoBulkAll parts + 1
  | .iface _ d => uptoBulk d + 1
  | .map entries => uptoBulkEntries entries + 1
  | .held _ => 1
def uptoBulkAll {H : Type} : List (DataW H) → Nat
  | [] => 0
  | d :: r => uptoBulk d + uptoBulkAll r
def uptoBulkEntries {H : Type} : List (Lit × DataW H) → Nat
  | [] => 0
  | x :: r => uptoBulkEntry x + uptoBulkEntries r
def uptoBulkEntry {H : Type} : Lit × DataW H → Nat
  | (.string bytes, d) => bytes.length + uptoBulk d + 1
  | (_, d) => uptoBulk d + 1
 end
def uptoSmall : (H : Type) → List (DataW H) → Bool := fun _ ds => decide (uptoBulkAll ds ≤ 1048576)
def OpenSpec.upto (s : _root_.Go.ChangeSpec) : _root_.Go.OpenSpec := { _root_.Go.OpenSpec.ofChange s with cond := some uptoSmall }

/-- 'supercargolaw.BucketTells', WHERE WHAT IT READS IS OF BULK AT MOST 1048576: true; the input reads as it did. -/
def bucketTellsUptoRow : OpenClaim := { program := "ytdoaefekbbgcmaa", sum := "0f9c4e847cf1194a267ecb9d39dabcf87625bd0c97b197d745f74de8763d077c", func := "supercargo/supercargolaw.BucketTells", spec := "bucketTells", unfollowed := true, recurses := true, apart := false, narrowed := true }
def BucketTellsUptoSaid : Prop := bucketTellsUptoRow.holds Try.pinned (OpenSpec.upto bucketTellsSpec)

/-- 'supercargolaw.BucketServes', WHERE WHAT IT READS IS OF BULK AT MOST 1048576: true; the input reads as it did. -/
def bucketServesUptoRow : OpenClaim := { program := "ytdoaefekbbgcmaa", sum := "0f9c4e847cf1194a267ecb9d39dabcf87625bd0c97b197d745f74de8763d077c", func := "supercargo/supercargolaw.BucketServes", spec := "bucketServes", unfollowed := true, recurses := true, apart := false, narrowed := true }
def BucketServesUptoSaid : Prop := bucketServesUptoRow.holds Try.pinned (OpenSpec.upto bucketServesSpec)

/-- 'supercargolaw.BucketBound', WHERE WHAT IT READS IS OF BULK AT MOST 1048576: true; the input reads as it did. -/
def bucketBoundUptoRow : OpenClaim := { program := "ytdoaefekbbgcmaa", sum := "0f9c4e847cf1194a267ecb9d39dabcf87625bd0c97b197d745f74de8763d077c", func := "supercargo/supercargolaw.BucketBound", spec := "bucketBound", unfollowed := true, recurses := true, apart := false, narrowed := true }
def BucketBoundUptoSaid : Prop := bucketBoundUptoRow.holds Try.pinned (OpenSpec.upto bucketBoundSpec)

/-- 'supercargolaw.BucketIdle', WHERE WHAT IT READS IS OF BULK AT MOST 1048576: true; the input reads as it did. -/
def bucketIdleUptoRow : OpenClaim := { program := "ytdoaefekbbgcmaa", sum := "0f9c4e847cf1194a267ecb9d39dabcf87625bd0c97b197d745f74de8763d077c", func := "supercargo/supercargolaw.BucketIdle", spec := "bucketIdle", unfollowed := true, recurses := true, apart := false, narrowed := true }
def BucketIdleUptoSaid : Prop := bucketIdleUptoRow.holds Try.pinned (OpenSpec.upto bucketIdleSpec)

/-- 'supercargolaw.BucketReady', WHERE WHAT IT READS IS OF BULK AT MOST 1048576: true; the input reads as it did. -/
def bucketReadyUptoRow : OpenClaim := { program := "ytdoaefekbbgcmaa", sum := "0f9c4e847cf1194a267ecb9d39dabcf87625bd0c97b197d745f74de8763d077c", func := "supercargo/supercargolaw.BucketReady", spec := "bucketReady", unfollowed := true, recurses := true, apart := false, narrowed := true }
def BucketReadyUptoSaid : Prop := bucketReadyUptoRow.holds Try.pinned (OpenSpec.upto bucketReadySpec)

/-- 'supercargolaw.BucketMore', WHERE WHAT IT READS IS OF BULK AT MOST 1048576: true; the input reads as it did. -/
def bucketMoreUptoRow : OpenClaim := { program := "ytdoaefekbbgcmaa", sum := "0f9c4e847cf1194a267ecb9d39dabcf87625bd0c97b197d745f74de8763d077c", func := "supercargo/supercargolaw.BucketMore", spec := "bucketMore", unfollowed := true, recurses := true, apart := false, narrowed := true }
def BucketMoreUptoSaid : Prop := bucketMoreUptoRow.holds Try.pinned (OpenSpec.upto bucketMoreSpec)

end Rows
end Go.Proofs.Ytdoaefekbbgcmaa
