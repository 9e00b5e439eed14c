/-
  NARROWER THAN 'FOR EVERY INPUT', by the rows' own cells (each row's printed sentence says how): ClusterTells: laid · ClusterRuns: laid · ClusterOrder: laid · ClusterValues: laid · ClusterUnique: laid · ClusterKept: laid · ClusterLives: laid · RestRuns: laid · ClusterSpare: laid.
  DERIVED. THE GIVEN ROWS OF THIS SEAT. 9 by the template 'for every input the law returns true; each argument reads behind the call as it read before'; 0 by the template 'total and deterministic' (their statements: YtpagdlhlfmenmaaDoorTotals.lean).
  GIVEN WITH THE SEED: the statements are not yours to turn. If you find one false, say at which input.
  Laid BY PROGRAM, IN A SANDBOX (cutbox-rows.mjs): the forced cells as the released guide's own fill.sh prints them over the translation c1dba1ec968d5ced… (all of the seat's roots in one cut). By AI agents, Wed Nov 11 2026. No macro, syntax, notation, axiom, sorry.
-/
import Derived.Test.YtpagdlhlfmenmaaDoorChecked
import GoSem.Claim
import GoSem.ClaimJoined
import GoSem.ClaimMapViews
import Derived.JoinedTies
import Derived.KernelRfl
namespace Go.Proofs.YtpagdlhlfmenmaaDoor
/- THE CELL 'sum', in the pinned program and in every row, IS THE sha256 OF THE DUMP (.gsa) THAT YtpagdlhlfmenmaaDoorProg.lean LOADS. Nothing in Lean hashes anything: it is a label: what it is worth is what the hold of that sum in a sandbox is worth. -/
noncomputable def Tryd.pinned : Pinned := { name := "ytpagdlhlfmenmaadoor", sum := "c1dba1ec968d5ced3e15e54716d22064890acb53bed960adc1fe68d8c2884713", checked := Tryd.checked }
namespace Rows
def none {H : Type} : Left H := { results := [], args := [] }

/- WHAT THE LISTED PACKAGE-LEVEL VARIABLES READ AS WHEN THE CALL BEGINS. Each datum BY PROGRAM (the guide's laid-datum.mjs) off the statement by which the dump's own 'gosem.cut.vars' lays the variable. In a bare row this is a premise. The card (YtpagdlhlfmenmaaDoorCards.lean) ties it to the program's text. -/
def laid_math_bits_deBruijn64tab {H : Type} : DataW H := .agg [.lit (.int .u8 0), .lit (.int .u8 1), .lit (.int .u8 56), .lit (.int .u8 2), .lit (.int .u8 57), .lit (.int .u8 49), .lit (.int .u8 28), .lit (.int .u8 3), .lit (.int .u8 61), .lit (.int .u8 58), .lit (.int .u8 42), .lit (.int .u8 50), .lit (.int .u8 38), .lit (.int .u8 29), .lit (.int .u8 17), .lit (.int .u8 4), .lit (.int .u8 62), .lit (.int .u8 47), .lit (.int .u8 59), .lit (.int .u8 36), .lit (.int .u8 45), .lit (.int .u8 43), .lit (.int .u8 51), .lit (.int .u8 22), .lit (.int .u8 53), .lit (.int .u8 39), .lit (.int .u8 33), .lit (.int .u8 30), .lit (.int .u8 24), .lit (.int .u8 18), .lit (.int .u8 12), .lit (.int .u8 5), .lit (.int .u8 63), .lit (.int .u8 55), .lit (.int .u8 48), .lit (.int .u8 27), .lit (.int .u8 60), .lit (.int .u8 41), .lit (.int .u8 37), .lit (.int .u8 16), .lit (.int .u8 46), .lit (.int .u8 35), .lit (.int .u8 44), .lit (.int .u8 21), .lit (.int .u8 52), .lit (.int .u8 32), .lit (.int .u8 23), .lit (.int .u8 11), .lit (.int .u8 54), .lit (.int .u8 26), .lit (.int .u8 40), .lit (.int .u8 15), .lit (.int .u8 34), .lit (.int .u8 20), .lit (.int .u8 31), .lit (.int .u8 10), .lit (.int .u8 25), .lit (.int .u8 14), .lit (.int .u8 19), .lit (.int .u8 9), .lit (.int .u8 13), .lit (.int .u8 8), .lit (.int .u8 7), .lit (.int .u8 6)]

/-- 'supercargolaw.ClusterTells': WHATEVER THE INPUT: true; the input reads as it did. -/
def clusterTellsSpec : ChangeSpec := { name := "clusterTells", fn := fun _ => fun
  | [d1, d2, d3] => { results := [.lit (.bool true)], args := [d1, d2, d3] }
  | _ => none }
def clusterTellsRow : OpenClaim := { program := "ytpagdlhlfmenmaadoor", sum := "c1dba1ec968d5ced3e15e54716d22064890acb53bed960adc1fe68d8c2884713", func := "supercargo/supercargolaw.ClusterTells", spec := "clusterTells", unfollowed := true, recurses := true, named := ["math/bits.deBruijn64tab"], apart := false, laid := [("math/bits.deBruijn64tab", laid_math_bits_deBruijn64tab)] }
def ClusterTellsSaid : Prop := clusterTellsRow.holds Tryd.pinned (OpenSpec.ofChange clusterTellsSpec)

/-- ITS FALSE NEIGHBOUR: 'it returns false'. Refute it at one input. -/
def clusterTellsWrong : ChangeSpec := { name := "clusterTells", fn := fun _ => fun
  | [d1, d2, d3] => { results := [.lit (.bool false)], args := [d1, d2, d3] }
  | _ => none }
def ClusterTellsWrongFalsely : Prop := clusterTellsRow.holds Tryd.pinned (OpenSpec.ofChange clusterTellsWrong)

/-- 'supercargolaw.ClusterRuns': WHATEVER THE INPUT: true; the input reads as it did. -/
def clusterRunsSpec : ChangeSpec := { name := "clusterRuns", fn := fun _ => fun
  | [d1, d2, d3] => { results := [.lit (.bool true)], args := [d1, d2, d3] }
  | _ => none }
def clusterRunsRow : OpenClaim := { program := "ytpagdlhlfmenmaadoor", sum := "c1dba1ec968d5ced3e15e54716d22064890acb53bed960adc1fe68d8c2884713", func := "supercargo/supercargolaw.ClusterRuns", spec := "clusterRuns", unfollowed := true, recurses := true, named := ["math/bits.deBruijn64tab"], apart := false, laid := [("math/bits.deBruijn64tab", laid_math_bits_deBruijn64tab)] }
def ClusterRunsSaid : Prop := clusterRunsRow.holds Tryd.pinned (OpenSpec.ofChange clusterRunsSpec)

/-- ITS FALSE NEIGHBOUR: 'it returns false'. Refute it at one input. -/
def clusterRunsWrong : ChangeSpec := { name := "clusterRuns", fn := fun _ => fun
  | [d1, d2, d3] => { results := [.lit (.bool false)], args := [d1, d2, d3] }
  | _ => none }
def ClusterRunsWrongFalsely : Prop := clusterRunsRow.holds Tryd.pinned (OpenSpec.ofChange clusterRunsWrong)

/-- 'supercargolaw.ClusterOrder': WHATEVER THE INPUT: true; the input reads as it did. -/
def clusterOrderSpec : ChangeSpec := { name := "clusterOrder", fn := fun _ => fun
  | [d1, d2, d3, d4] => { results := [.lit (.bool true)], args := [d1, d2, d3, d4] }
  | _ => none }
def clusterOrderRow : OpenClaim := { program := "ytpagdlhlfmenmaadoor", sum := "c1dba1ec968d5ced3e15e54716d22064890acb53bed960adc1fe68d8c2884713", func := "supercargo/supercargolaw.ClusterOrder", spec := "clusterOrder", unfollowed := true, recurses := true, named := ["math/bits.deBruijn64tab"], apart := false, laid := [("math/bits.deBruijn64tab", laid_math_bits_deBruijn64tab)] }
def ClusterOrderSaid : Prop := clusterOrderRow.holds Tryd.pinned (OpenSpec.ofChange clusterOrderSpec)

/-- ITS FALSE NEIGHBOUR: 'it returns false'. Refute it at one input. -/
def clusterOrderWrong : ChangeSpec := { name := "clusterOrder", fn := fun _ => fun
  | [d1, d2, d3, d4] => { results := [.lit (.bool false)], args := [d1, d2, d3, d4] }
  | _ => none }
def ClusterOrderWrongFalsely : Prop := clusterOrderRow.holds Tryd.pinned (OpenSpec.ofChange clusterOrderWrong)

/-- 'supercargolaw.ClusterValues': WHATEVER THE INPUT: true; the input reads as it did. -/
def clusterValuesSpec : ChangeSpec := { name := "clusterValues", fn := fun _ => fun
  | [d1, d2, d3] => { results := [.lit (.bool true)], args := [d1, d2, d3] }
  | _ => none }
def clusterValuesRow : OpenClaim := { program := "ytpagdlhlfmenmaadoor", sum := "c1dba1ec968d5ced3e15e54716d22064890acb53bed960adc1fe68d8c2884713", func := "supercargo/supercargolaw.ClusterValues", spec := "clusterValues", unfollowed := true, recurses := true, named := ["math/bits.deBruijn64tab"], apart := false, laid := [("math/bits.deBruijn64tab", laid_math_bits_deBruijn64tab)] }
def ClusterValuesSaid : Prop := clusterValuesRow.holds Tryd.pinned (OpenSpec.ofChange clusterValuesSpec)

/-- ITS FALSE NEIGHBOUR: 'it returns false'. Refute it at one input. -/
def clusterValuesWrong : ChangeSpec := { name := "clusterValues", fn := fun _ => fun
  | [d1, d2, d3] => { results := [.lit (.bool false)], args := [d1, d2, d3] }
  | _ => none }
def ClusterValuesWrongFalsely : Prop := clusterValuesRow.holds Tryd.pinned (OpenSpec.ofChange clusterValuesWrong)

/-- 'supercargolaw.ClusterUnique': WHATEVER THE INPUT: true; the input reads as it did. -/
def clusterUniqueSpec : ChangeSpec := { name := "clusterUnique", fn := fun _ => fun
  | [d1, d2, d3, d4] => { results := [.lit (.bool true)], args := [d1, d2, d3, d4] }
  | _ => none }
def clusterUniqueRow : OpenClaim := { program := "ytpagdlhlfmenmaadoor", sum := "c1dba1ec968d5ced3e15e54716d22064890acb53bed960adc1fe68d8c2884713", func := "supercargo/supercargolaw.ClusterUnique", spec := "clusterUnique", unfollowed := true, recurses := true, named := ["math/bits.deBruijn64tab"], apart := false, laid := [("math/bits.deBruijn64tab", laid_math_bits_deBruijn64tab)] }
def ClusterUniqueSaid : Prop := clusterUniqueRow.holds Tryd.pinned (OpenSpec.ofChange clusterUniqueSpec)

/-- ITS FALSE NEIGHBOUR: 'it returns false'. Refute it at one input. -/
def clusterUniqueWrong : ChangeSpec := { name := "clusterUnique", fn := fun _ => fun
  | [d1, d2, d3, d4] => { results := [.lit (.bool false)], args := [d1, d2, d3, d4] }
  | _ => none }
def ClusterUniqueWrongFalsely : Prop := clusterUniqueRow.holds Tryd.pinned (OpenSpec.ofChange clusterUniqueWrong)

/-- 'supercargolaw.ClusterKept': WHATEVER THE INPUT: true; the input reads as it did. -/
def clusterKeptSpec : ChangeSpec := { name := "clusterKept", fn := fun _ => fun
  | [d1, d2, d3] => { results := [.lit (.bool true)], args := [d1, d2, d3] }
  | _ => none }
def clusterKeptRow : OpenClaim := { program := "ytpagdlhlfmenmaadoor", sum := "c1dba1ec968d5ced3e15e54716d22064890acb53bed960adc1fe68d8c2884713", func := "supercargo/supercargolaw.ClusterKept", spec := "clusterKept", unfollowed := true, recurses := true, named := ["math/bits.deBruijn64tab"], apart := false, laid := [("math/bits.deBruijn64tab", laid_math_bits_deBruijn64tab)] }
def ClusterKeptSaid : Prop := clusterKeptRow.holds Tryd.pinned (OpenSpec.ofChange clusterKeptSpec)

/-- ITS FALSE NEIGHBOUR: 'it returns false'. Refute it at one input. -/
def clusterKeptWrong : ChangeSpec := { name := "clusterKept", fn := fun _ => fun
  | [d1, d2, d3] => { results := [.lit (.bool false)], args := [d1, d2, d3] }
  | _ => none }
def ClusterKeptWrongFalsely : Prop := clusterKeptRow.holds Tryd.pinned (OpenSpec.ofChange clusterKeptWrong)

/-- 'supercargolaw.ClusterLives': WHATEVER THE INPUT: true; the input reads as it did. -/
def clusterLivesSpec : ChangeSpec := { name := "clusterLives", fn := fun _ => fun
  | [d1, d2] => { results := [.lit (.bool true)], args := [d1, d2] }
  | _ => none }
def clusterLivesRow : OpenClaim := { program := "ytpagdlhlfmenmaadoor", sum := "c1dba1ec968d5ced3e15e54716d22064890acb53bed960adc1fe68d8c2884713", func := "supercargo/supercargolaw.ClusterLives", spec := "clusterLives", unfollowed := true, recurses := true, named := ["math/bits.deBruijn64tab"], apart := false, laid := [("math/bits.deBruijn64tab", laid_math_bits_deBruijn64tab)] }
def ClusterLivesSaid : Prop := clusterLivesRow.holds Tryd.pinned (OpenSpec.ofChange clusterLivesSpec)

/-- ITS FALSE NEIGHBOUR: 'it returns false'. Refute it at one input. -/
def clusterLivesWrong : ChangeSpec := { name := "clusterLives", fn := fun _ => fun
  | [d1, d2] => { results := [.lit (.bool false)], args := [d1, d2] }
  | _ => none }
def ClusterLivesWrongFalsely : Prop := clusterLivesRow.holds Tryd.pinned (OpenSpec.ofChange clusterLivesWrong)

/-- 'supercargolaw.RestRuns': WHATEVER THE INPUT: true; the input reads as it did. -/
def restRunsSpec : ChangeSpec := { name := "restRuns", fn := fun _ => fun
  | [d1, d2, d3, d4] => { results := [.lit (.bool true)], args := [d1, d2, d3, d4] }
  | _ => none }
def restRunsRow : OpenClaim := { program := "ytpagdlhlfmenmaadoor", sum := "c1dba1ec968d5ced3e15e54716d22064890acb53bed960adc1fe68d8c2884713", func := "supercargo/supercargolaw.RestRuns", spec := "restRuns", unfollowed := true, recurses := true, named := ["math/bits.deBruijn64tab"], apart := false, laid := [("math/bits.deBruijn64tab", laid_math_bits_deBruijn64tab)] }
def RestRunsSaid : Prop := restRunsRow.holds Tryd.pinned (OpenSpec.ofChange restRunsSpec)

/-- ITS FALSE NEIGHBOUR: 'it returns false'. Refute it at one input. -/
def restRunsWrong : ChangeSpec := { name := "restRuns", fn := fun _ => fun
  | [d1, d2, d3, d4] => { results := [.lit (.bool false)], args := [d1, d2, d3, d4] }
  | _ => none }
def RestRunsWrongFalsely : Prop := restRunsRow.holds Tryd.pinned (OpenSpec.ofChange restRunsWrong)

/-- 'supercargolaw.ClusterSpare': WHATEVER THE INPUT: true; the input reads as it did. -/
def clusterSpareSpec : ChangeSpec := { name := "clusterSpare", fn := fun _ => fun
  | [d1, d2, d3, d4] => { results := [.lit (.bool true)], args := [d1, d2, d3, d4] }
  | _ => none }
def clusterSpareRow : OpenClaim := { program := "ytpagdlhlfmenmaadoor", sum := "c1dba1ec968d5ced3e15e54716d22064890acb53bed960adc1fe68d8c2884713", func := "supercargo/supercargolaw.ClusterSpare", spec := "clusterSpare", unfollowed := true, recurses := true, named := ["math/bits.deBruijn64tab"], apart := false, laid := [("math/bits.deBruijn64tab", laid_math_bits_deBruijn64tab)] }
def ClusterSpareSaid : Prop := clusterSpareRow.holds Tryd.pinned (OpenSpec.ofChange clusterSpareSpec)

/-- ITS FALSE NEIGHBOUR: 'it returns false'. Refute it at one input. -/
def clusterSpareWrong : ChangeSpec := { name := "clusterSpare", fn := fun _ => fun
  | [d1, d2, d3, d4] => { results := [.lit (.bool false)], args := [d1, d2, d3, d4] }
  | _ => none }
def ClusterSpareWrongFalsely : Prop := clusterSpareRow.holds Tryd.pinned (OpenSpec.ofChange clusterSpareWrong)

/- THE SECOND FORM. 'bulk': how many values and letters a reading holds, each counted each time it is reached (what is shared counts as often as it is met; a slice's spare places count too). A statement '..UptoSaid' is the law's where the arguments, and the package variables that the reading takes, are together of bulk at most 1048576: NARROWER than '..Said'. Prove '..Said' where nothing that the law and all that it calls make is longer than what came in: it says more and counts as full. Else prove '..UptoSaid'. A law counts once. -/
mutual
def uptoBulk {H : Type} : DataW H → Nat
  | .lit (.string bytes) => bytes.length + 1
  | .lit _ => 1
  | .nil => 1
  | .ptr d => uptoBulk d + 1
  | .slice elems spare => uptoBulkAll elems + uptoBulkAll spare + 1
  | .agg parts => uptoBulkAll parts + 1
  | .iface _ d => uptoBulk d + 1
  | .map entries => uptoBulkEntries entries + 1
  | .held _ => 1
def uptoBulkAll {H : Type} : List (DataW H) → Nat
  | [] => 0
  | d :: r => uptoBulk d + uptoBulkAll r
def uptoBulkEntries {H : Type} : List (Lit × DataW H) → Nat
  | [] => 0
  | x :: r => uptoBulkEntry x + uptoBulkEntries r
def uptoBulkEntry {H : Type} : Lit × DataW H → Nat
  | (.string bytes, d) => bytes.length + uptoBulk d + 1
  | (_, d) => uptoBulk d + 1
 end
def uptoSmall : (H : Type) → List (DataW H) → Bool := fun _ ds => decide (uptoBulkAll ds ≤ 1048576)
def OpenSpec.upto (s : _root_.Go.ChangeSpec) : _root_.Go.OpenSpec := { _root_.Go.OpenSpec.ofChange s with cond := some uptoSmall }

/-- 'supercargolaw.ClusterTells', WHERE WHAT IT READS IS OF BULK AT MOST 1048576: true; the input reads as it did. -/
def clusterTellsUptoRow : OpenClaim := { program := "ytpagdlhlfmenmaadoor", sum := "c1dba1ec968d5ced3e15e54716d22064890acb53bed960adc1fe68d8c2884713", func := "supercargo/supercargolaw.ClusterTells", spec := "clusterTells", unfollowed := true, recurses := true, named := ["math/bits.deBruijn64tab"], apart := false, laid := [("math/bits.deBruijn64tab", laid_math_bits_deBruijn64tab)], narrowed := true }
def ClusterTellsUptoSaid : Prop := clusterTellsUptoRow.holds Tryd.pinned (OpenSpec.upto clusterTellsSpec)

/-- 'supercargolaw.ClusterRuns', WHERE WHAT IT READS IS OF BULK AT MOST 1048576: true; the input reads as it did. -/
def clusterRunsUptoRow : OpenClaim := { program := "ytpagdlhlfmenmaadoor", sum := "c1dba1ec968d5ced3e15e54716d22064890acb53bed960adc1fe68d8c2884713", func := "supercargo/supercargolaw.ClusterRuns", spec := "clusterRuns", unfollowed := true, recurses := true, named := ["math/bits.deBruijn64tab"], apart := false, laid := [("math/bits.deBruijn64tab", laid_math_bits_deBruijn64tab)], narrowed := true }
def ClusterRunsUptoSaid : Prop := clusterRunsUptoRow.holds Tryd.pinned (OpenSpec.upto clusterRunsSpec)

/-- 'supercargolaw.ClusterOrder', WHERE WHAT IT READS IS OF BULK AT MOST 1048576: true; the input reads as it did. -/
def clusterOrderUptoRow : OpenClaim := { program := "ytpagdlhlfmenmaadoor", sum := "c1dba1ec968d5ced3e15e54716d22064890acb53bed960adc1fe68d8c2884713", func := "supercargo/supercargolaw.ClusterOrder", spec := "clusterOrder", unfollowed := true, recurses := true, named := ["math/bits.deBruijn64tab"], apart := false, laid := [("math/bits.deBruijn64tab", laid_math_bits_deBruijn64tab)], narrowed := true }
def ClusterOrderUptoSaid : Prop := clusterOrderUptoRow.holds Tryd.pinned (OpenSpec.upto clusterOrderSpec)

/-- 'supercargolaw.ClusterValues', WHERE WHAT IT READS IS OF BULK AT MOST 1048576: true; the input reads as it did. -/
def clusterValuesUptoRow : OpenClaim := { program := "ytpagdlhlfmenmaadoor", sum := "c1dba1ec968d5ced3e15e54716d22064890acb53bed960adc1fe68d8c2884713", func := "supercargo/supercargolaw.ClusterValues", spec := "clusterValues", unfollowed := true, recurses := true, named := ["math/bits.deBruijn64tab"], apart := false, laid := [("math/bits.deBruijn64tab", laid_math_bits_deBruijn64tab)], narrowed := true }
def ClusterValuesUptoSaid : Prop := clusterValuesUptoRow.holds Tryd.pinned (OpenSpec.upto clusterValuesSpec)

/-- 'supercargolaw.ClusterUnique', WHERE WHAT IT READS IS OF BULK AT MOST 1048576: true; the input reads as it did. -/
def clusterUniqueUptoRow : OpenClaim := { program := "ytpagdlhlfmenmaadoor", sum := "c1dba1ec968d5ced3e15e54716d22064890acb53bed960adc1fe68d8c2884713", func := "supercargo/supercargolaw.ClusterUnique", spec := "clusterUnique", unfollowed := true, recurses := true, named := ["math/bits.deBruijn64tab"], apart := false, laid := [("math/bits.deBruijn64tab", laid_math_bits_deBruijn64tab)], narrowed := true }
def ClusterUniqueUptoSaid : Prop := clusterUniqueUptoRow.holds Tryd.pinned (OpenSpec.upto clusterUniqueSpec)

/-- 'supercargolaw.ClusterKept', WHERE WHAT IT READS IS OF BULK AT MOST 1048576: true; the input reads as it did. -/
def clusterKeptUptoRow : OpenClaim := { program := "ytpagdlhlfmenmaadoor", sum := "c1dba1ec968d5ced3e15e54716d22064890acb53bed960adc1fe68d8c2884713", func := "supercargo/supercargolaw.ClusterKept", spec := "clusterKept", unfollowed := true, recurses := true, named := ["math/bits.deBruijn64tab"], apart := false, laid := [("math/bits.deBruijn64tab", laid_math_bits_deBruijn64tab)], narrowed := true }
def ClusterKeptUptoSaid : Prop := clusterKeptUptoRow.holds Tryd.pinned (OpenSpec.upto clusterKeptSpec)

/-- 'supercargolaw.ClusterLives', WHERE WHAT IT READS IS OF BULK AT MOST 1048576: true; the input reads as it did. -/
def clusterLivesUptoRow : OpenClaim := { program := "ytpagdlhlfmenmaadoor", sum := "c1dba1ec968d5ced3e15e54716d22064890acb53bed960adc1fe68d8c2884713", func := "supercargo/supercargolaw.ClusterLives", spec := "clusterLives", unfollowed := true, recurses := true, named := ["math/bits.deBruijn64tab"], apart := false, laid := [("math/bits.deBruijn64tab", laid_math_bits_deBruijn64tab)], narrowed := true }
def ClusterLivesUptoSaid : Prop := clusterLivesUptoRow.holds Tryd.pinned (OpenSpec.upto clusterLivesSpec)

/-- 'supercargolaw.RestRuns', WHERE WHAT IT READS IS OF BULK AT MOST 1048576: true; the input reads as it did. -/
def restRunsUptoRow : OpenClaim := { program := "ytpagdlhlfmenmaadoor", sum := "c1dba1ec968d5ced3e15e54716d22064890acb53bed960adc1fe68d8c2884713", func := "supercargo/supercargolaw.RestRuns", spec := "restRuns", unfollowed := true, recurses := true, named := ["math/bits.deBruijn64tab"], apart := false, laid := [("math/bits.deBruijn64tab", laid_math_bits_deBruijn64tab)], narrowed := true }
def RestRunsUptoSaid : Prop := restRunsUptoRow.holds Tryd.pinned (OpenSpec.upto restRunsSpec)

/-- 'supercargolaw.ClusterSpare', WHERE WHAT IT READS IS OF BULK AT MOST 1048576: true; the input reads as it did. -/
def clusterSpareUptoRow : OpenClaim := { program := "ytpagdlhlfmenmaadoor", sum := "c1dba1ec968d5ced3e15e54716d22064890acb53bed960adc1fe68d8c2884713", func := "supercargo/supercargolaw.ClusterSpare", spec := "clusterSpare", unfollowed := true, recurses := true, named := ["math/bits.deBruijn64tab"], apart := false, laid := [("math/bits.deBruijn64tab", laid_math_bits_deBruijn64tab)], narrowed := true }
def ClusterSpareUptoSaid : Prop := clusterSpareUptoRow.holds Tryd.pinned (OpenSpec.upto clusterSpareSpec)

end Rows
end Go.Proofs.YtpagdlhlfmenmaaDoor
