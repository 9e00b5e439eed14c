/-
  NARROWER THAN 'FOR EVERY INPUT', by the rows' own cells (each row's printed sentence says how): SynodTells: laid · SynodRuns: laid · SynodAgrees: laid · SynodValid: laid · SynodLater: laid · SynodKept: laid · SynodStays: laid · SynodPromise: laid · SynodLives: laid.
  DERIVED. THE GIVEN ROWS OF THIS SEAT. 9 by the template 'for every input the law returns true; each argument reads behind the call as it read before'; 0 by the template 'total and deterministic' (their statements: YtligepciannclaaDoorTotals.lean).
  GIVEN WITH THE SEED: the statements are not yours to turn. If you find one false, say at which input.
  Laid BY PROGRAM, IN A SANDBOX (cutbox-rows.mjs): the forced cells as the released guide's own fill.sh prints them over the translation 2f6d175c4a2ae2c7… (all of the seat's roots in one cut). By AI agents, Wed Nov 11 2026. No macro, syntax, notation, axiom, sorry.
-/
import Derived.Test.YtligepciannclaaDoorChecked
import GoSem.Claim
import GoSem.ClaimJoined
import GoSem.ClaimMapViews
import Derived.JoinedTies
import Derived.KernelRfl
namespace Go.Proofs.YtligepciannclaaDoor
/- THE CELL 'sum', in the pinned program and in every row, IS THE sha256 OF THE DUMP (.gsa) THAT YtligepciannclaaDoorProg.lean LOADS. Nothing in Lean hashes anything: it is a label: what it is worth is what the hold of that sum in a sandbox is worth. -/
noncomputable def Tryd.pinned : Pinned := { name := "ytligepciannclaadoor", sum := "2f6d175c4a2ae2c7d35ca92edd0008a0583ef64018afbdcf950919ae607360b3", checked := Tryd.checked }
namespace Rows
def none {H : Type} : Left H := { results := [], args := [] }

/- WHAT THE LISTED PACKAGE-LEVEL VARIABLES READ AS WHEN THE CALL BEGINS. Each datum BY PROGRAM (the guide's laid-datum.mjs) off the statement by which the dump's own 'gosem.cut.vars' lays the variable. In a bare row this is a premise. The card (YtligepciannclaaDoorCards.lean) ties it to the program's text. -/
def laid_math_bits_deBruijn64tab {H : Type} : DataW H := .agg [.lit (.int .u8 0), .lit (.int .u8 1), .lit (.int .u8 56), .lit (.int .u8 2), .lit (.int .u8 57), .lit (.int .u8 49), .lit (.int .u8 28), .lit (.int .u8 3), .lit (.int .u8 61), .lit (.int .u8 58), .lit (.int .u8 42), .lit (.int .u8 50), .lit (.int .u8 38), .lit (.int .u8 29), .lit (.int .u8 17), .lit (.int .u8 4), .lit (.int .u8 62), .lit (.int .u8 47), .lit (.int .u8 59), .lit (.int .u8 36), .lit (.int .u8 45), .lit (.int .u8 43), .lit (.int .u8 51), .lit (.int .u8 22), .lit (.int .u8 53), .lit (.int .u8 39), .lit (.int .u8 33), .lit (.int .u8 30), .lit (.int .u8 24), .lit (.int .u8 18), .lit (.int .u8 12), .lit (.int .u8 5), .lit (.int .u8 63), .lit (.int .u8 55), .lit (.int .u8 48), .lit (.int .u8 27), .lit (.int .u8 60), .lit (.int .u8 41), .lit (.int .u8 37), .lit (.int .u8 16), .lit (.int .u8 46), .lit (.int .u8 35), .lit (.int .u8 44), .lit (.int .u8 21), .lit (.int .u8 52), .lit (.int .u8 32), .lit (.int .u8 23), .lit (.int .u8 11), .lit (.int .u8 54), .lit (.int .u8 26), .lit (.int .u8 40), .lit (.int .u8 15), .lit (.int .u8 34), .lit (.int .u8 20), .lit (.int .u8 31), .lit (.int .u8 10), .lit (.int .u8 25), .lit (.int .u8 14), .lit (.int .u8 19), .lit (.int .u8 9), .lit (.int .u8 13), .lit (.int .u8 8), .lit (.int .u8 7), .lit (.int .u8 6)]

/-- 'supercargolaw.SynodTells': WHATEVER THE INPUT: true; the input reads as it did. -/
def synodTellsSpec : ChangeSpec := { name := "synodTells", fn := fun _ => fun
  | [d1, d2, d3] => { results := [.lit (.bool true)], args := [d1, d2, d3] }
  | _ => none }
def synodTellsRow : OpenClaim := { program := "ytligepciannclaadoor", sum := "2f6d175c4a2ae2c7d35ca92edd0008a0583ef64018afbdcf950919ae607360b3", func := "supercargo/supercargolaw.SynodTells", spec := "synodTells", unfollowed := true, recurses := true, named := ["math/bits.deBruijn64tab"], apart := false, laid := [("math/bits.deBruijn64tab", laid_math_bits_deBruijn64tab)] }
def SynodTellsSaid : Prop := synodTellsRow.holds Tryd.pinned (OpenSpec.ofChange synodTellsSpec)

/-- ITS FALSE NEIGHBOUR: 'it returns false'. Refute it at one input. -/
def synodTellsWrong : ChangeSpec := { name := "synodTells", fn := fun _ => fun
  | [d1, d2, d3] => { results := [.lit (.bool false)], args := [d1, d2, d3] }
  | _ => none }
def SynodTellsWrongFalsely : Prop := synodTellsRow.holds Tryd.pinned (OpenSpec.ofChange synodTellsWrong)

/-- 'supercargolaw.SynodRuns': WHATEVER THE INPUT: true; the input reads as it did. -/
def synodRunsSpec : ChangeSpec := { name := "synodRuns", fn := fun _ => fun
  | [d1, d2, d3] => { results := [.lit (.bool true)], args := [d1, d2, d3] }
  | _ => none }
def synodRunsRow : OpenClaim := { program := "ytligepciannclaadoor", sum := "2f6d175c4a2ae2c7d35ca92edd0008a0583ef64018afbdcf950919ae607360b3", func := "supercargo/supercargolaw.SynodRuns", spec := "synodRuns", unfollowed := true, recurses := true, named := ["math/bits.deBruijn64tab"], apart := false, laid := [("math/bits.deBruijn64tab", laid_math_bits_deBruijn64tab)] }
def SynodRunsSaid : Prop := synodRunsRow.holds Tryd.pinned (OpenSpec.ofChange synodRunsSpec)

/-- ITS FALSE NEIGHBOUR: 'it returns false'. Refute it at one input. -/
def synodRunsWrong : ChangeSpec := { name := "synodRuns", fn := fun _ => fun
  | [d1, d2, d3] => { results := [.lit (.bool false)], args := [d1, d2, d3] }
  | _ => none }
def SynodRunsWrongFalsely : Prop := synodRunsRow.holds Tryd.pinned (OpenSpec.ofChange synodRunsWrong)

/-- 'supercargolaw.SynodAgrees': WHATEVER THE INPUT: true; the input reads as it did. -/
def synodAgreesSpec : ChangeSpec := { name := "synodAgrees", fn := fun _ => fun
  | [d1, d2, d3, d4] => { results := [.lit (.bool true)], args := [d1, d2, d3, d4] }
  | _ => none }
def synodAgreesRow : OpenClaim := { program := "ytligepciannclaadoor", sum := "2f6d175c4a2ae2c7d35ca92edd0008a0583ef64018afbdcf950919ae607360b3", func := "supercargo/supercargolaw.SynodAgrees", spec := "synodAgrees", unfollowed := true, recurses := true, named := ["math/bits.deBruijn64tab"], apart := false, laid := [("math/bits.deBruijn64tab", laid_math_bits_deBruijn64tab)] }
def SynodAgreesSaid : Prop := synodAgreesRow.holds Tryd.pinned (OpenSpec.ofChange synodAgreesSpec)

/-- ITS FALSE NEIGHBOUR: 'it returns false'. Refute it at one input. -/
def synodAgreesWrong : ChangeSpec := { name := "synodAgrees", fn := fun _ => fun
  | [d1, d2, d3, d4] => { results := [.lit (.bool false)], args := [d1, d2, d3, d4] }
  | _ => none }
def SynodAgreesWrongFalsely : Prop := synodAgreesRow.holds Tryd.pinned (OpenSpec.ofChange synodAgreesWrong)

/-- 'supercargolaw.SynodValid': WHATEVER THE INPUT: true; the input reads as it did. -/
def synodValidSpec : ChangeSpec := { name := "synodValid", fn := fun _ => fun
  | [d1, d2, d3] => { results := [.lit (.bool true)], args := [d1, d2, d3] }
  | _ => none }
def synodValidRow : OpenClaim := { program := "ytligepciannclaadoor", sum := "2f6d175c4a2ae2c7d35ca92edd0008a0583ef64018afbdcf950919ae607360b3", func := "supercargo/supercargolaw.SynodValid", spec := "synodValid", unfollowed := true, recurses := true, named := ["math/bits.deBruijn64tab"], apart := false, laid := [("math/bits.deBruijn64tab", laid_math_bits_deBruijn64tab)] }
def SynodValidSaid : Prop := synodValidRow.holds Tryd.pinned (OpenSpec.ofChange synodValidSpec)

/-- ITS FALSE NEIGHBOUR: 'it returns false'. Refute it at one input. -/
def synodValidWrong : ChangeSpec := { name := "synodValid", fn := fun _ => fun
  | [d1, d2, d3] => { results := [.lit (.bool false)], args := [d1, d2, d3] }
  | _ => none }
def SynodValidWrongFalsely : Prop := synodValidRow.holds Tryd.pinned (OpenSpec.ofChange synodValidWrong)

/-- 'supercargolaw.SynodLater': WHATEVER THE INPUT: true; the input reads as it did. -/
def synodLaterSpec : ChangeSpec := { name := "synodLater", fn := fun _ => fun
  | [d1, d2, d3, d4] => { results := [.lit (.bool true)], args := [d1, d2, d3, d4] }
  | _ => none }
def synodLaterRow : OpenClaim := { program := "ytligepciannclaadoor", sum := "2f6d175c4a2ae2c7d35ca92edd0008a0583ef64018afbdcf950919ae607360b3", func := "supercargo/supercargolaw.SynodLater", spec := "synodLater", unfollowed := true, recurses := true, named := ["math/bits.deBruijn64tab"], apart := false, laid := [("math/bits.deBruijn64tab", laid_math_bits_deBruijn64tab)] }
def SynodLaterSaid : Prop := synodLaterRow.holds Tryd.pinned (OpenSpec.ofChange synodLaterSpec)

/-- ITS FALSE NEIGHBOUR: 'it returns false'. Refute it at one input. -/
def synodLaterWrong : ChangeSpec := { name := "synodLater", fn := fun _ => fun
  | [d1, d2, d3, d4] => { results := [.lit (.bool false)], args := [d1, d2, d3, d4] }
  | _ => none }
def SynodLaterWrongFalsely : Prop := synodLaterRow.holds Tryd.pinned (OpenSpec.ofChange synodLaterWrong)

/-- 'supercargolaw.SynodKept': WHATEVER THE INPUT: true; the input reads as it did. -/
def synodKeptSpec : ChangeSpec := { name := "synodKept", fn := fun _ => fun
  | [d1, d2, d3] => { results := [.lit (.bool true)], args := [d1, d2, d3] }
  | _ => none }
def synodKeptRow : OpenClaim := { program := "ytligepciannclaadoor", sum := "2f6d175c4a2ae2c7d35ca92edd0008a0583ef64018afbdcf950919ae607360b3", func := "supercargo/supercargolaw.SynodKept", spec := "synodKept", unfollowed := true, recurses := true, named := ["math/bits.deBruijn64tab"], apart := false, laid := [("math/bits.deBruijn64tab", laid_math_bits_deBruijn64tab)] }
def SynodKeptSaid : Prop := synodKeptRow.holds Tryd.pinned (OpenSpec.ofChange synodKeptSpec)

/-- ITS FALSE NEIGHBOUR: 'it returns false'. Refute it at one input. -/
def synodKeptWrong : ChangeSpec := { name := "synodKept", fn := fun _ => fun
  | [d1, d2, d3] => { results := [.lit (.bool false)], args := [d1, d2, d3] }
  | _ => none }
def SynodKeptWrongFalsely : Prop := synodKeptRow.holds Tryd.pinned (OpenSpec.ofChange synodKeptWrong)

/-- 'supercargolaw.SynodStays': WHATEVER THE INPUT: true; the input reads as it did. -/
def synodStaysSpec : ChangeSpec := { name := "synodStays", fn := fun _ => fun
  | [d1, d2, d3, d4, d5] => { results := [.lit (.bool true)], args := [d1, d2, d3, d4, d5] }
  | _ => none }
def synodStaysRow : OpenClaim := { program := "ytligepciannclaadoor", sum := "2f6d175c4a2ae2c7d35ca92edd0008a0583ef64018afbdcf950919ae607360b3", func := "supercargo/supercargolaw.SynodStays", spec := "synodStays", unfollowed := true, recurses := true, named := ["math/bits.deBruijn64tab"], apart := false, laid := [("math/bits.deBruijn64tab", laid_math_bits_deBruijn64tab)] }
def SynodStaysSaid : Prop := synodStaysRow.holds Tryd.pinned (OpenSpec.ofChange synodStaysSpec)

/-- ITS FALSE NEIGHBOUR: 'it returns false'. Refute it at one input. -/
def synodStaysWrong : ChangeSpec := { name := "synodStays", fn := fun _ => fun
  | [d1, d2, d3, d4, d5] => { results := [.lit (.bool false)], args := [d1, d2, d3, d4, d5] }
  | _ => none }
def SynodStaysWrongFalsely : Prop := synodStaysRow.holds Tryd.pinned (OpenSpec.ofChange synodStaysWrong)

/-- 'supercargolaw.SynodPromise': WHATEVER THE INPUT: true; the input reads as it did. -/
def synodPromiseSpec : ChangeSpec := { name := "synodPromise", fn := fun _ => fun
  | [d1, d2, d3] => { results := [.lit (.bool true)], args := [d1, d2, d3] }
  | _ => none }
def synodPromiseRow : OpenClaim := { program := "ytligepciannclaadoor", sum := "2f6d175c4a2ae2c7d35ca92edd0008a0583ef64018afbdcf950919ae607360b3", func := "supercargo/supercargolaw.SynodPromise", spec := "synodPromise", unfollowed := true, recurses := true, named := ["math/bits.deBruijn64tab"], apart := false, laid := [("math/bits.deBruijn64tab", laid_math_bits_deBruijn64tab)] }
def SynodPromiseSaid : Prop := synodPromiseRow.holds Tryd.pinned (OpenSpec.ofChange synodPromiseSpec)

/-- ITS FALSE NEIGHBOUR: 'it returns false'. Refute it at one input. -/
def synodPromiseWrong : ChangeSpec := { name := "synodPromise", fn := fun _ => fun
  | [d1, d2, d3] => { results := [.lit (.bool false)], args := [d1, d2, d3] }
  | _ => none }
def SynodPromiseWrongFalsely : Prop := synodPromiseRow.holds Tryd.pinned (OpenSpec.ofChange synodPromiseWrong)

/-- 'supercargolaw.SynodLives': WHATEVER THE INPUT: true; the input reads as it did. -/
def synodLivesSpec : ChangeSpec := { name := "synodLives", fn := fun _ => fun
  | [d1, d2, d3] => { results := [.lit (.bool true)], args := [d1, d2, d3] }
  | _ => none }
def synodLivesRow : OpenClaim := { program := "ytligepciannclaadoor", sum := "2f6d175c4a2ae2c7d35ca92edd0008a0583ef64018afbdcf950919ae607360b3", func := "supercargo/supercargolaw.SynodLives", spec := "synodLives", unfollowed := true, recurses := true, named := ["math/bits.deBruijn64tab"], apart := false, laid := [("math/bits.deBruijn64tab", laid_math_bits_deBruijn64tab)] }
def SynodLivesSaid : Prop := synodLivesRow.holds Tryd.pinned (OpenSpec.ofChange synodLivesSpec)

/-- ITS FALSE NEIGHBOUR: 'it returns false'. Refute it at one input. -/
def synodLivesWrong : ChangeSpec := { name := "synodLives", fn := fun _ => fun
  | [d1, d2, d3] => { results := [.lit (.bool false)], args := [d1, d2, d3] }
  | _ => none }
def SynodLivesWrongFalsely : Prop := synodLivesRow.holds Tryd.pinned (OpenSpec.ofChange synodLivesWrong)

/- THE SECOND FORM. 'bulk': how many values and letters a reading holds, each counted each time it is reached (what is shared counts as often as it is met; a slice's spare places count too). A statement '..UptoSaid' is the law's where the arguments, and the package variables that the reading takes, are together of bulk at most 1048576: NARROWER than '..Said'. Prove '..Said' where nothing that the law and all that it calls make is longer than what came in: it says more and counts as full. Else prove '..UptoSaid'. A law counts once. -/
mutual
def uptoBulk {H : Type} : DataW H → Nat
  | .lit (.string bytes) => bytes.length + 1
  | .lit _ => 1
  | .nil => 1
  | .ptr d => uptoBulk d + 1
  | .slice elems spare => uptoBulkAll elems + uptoBulkAll spare + 1
  | .agg parts => uptoBulkAll parts + 1
  | .iface _ d => uptoBulk d + 1
  | .map entries => uptoBulkEntries entries + 1
  | .held _ => 1
def uptoBulkAll {H : Type} : List (DataW H) → Nat
  | [] => 0
  | d :: r => uptoBulk d + uptoBulkAll r
def uptoBulkEntries {H : Type} : List (Lit × DataW H) → Nat
  | [] => 0
  | x :: r => uptoBulkEntry x + uptoBulkEntries r
def uptoBulkEntry {H : Type} : Lit × DataW H → Nat
  | (.string bytes, d) => bytes.length + uptoBulk d + 1
  | (_, d) => uptoBulk d + 1
 end
def uptoSmall : (H : Type) → List (DataW H) → Bool := fun _ ds => decide (uptoBulkAll ds ≤ 1048576)
def OpenSpec.upto (s : _root_.Go.ChangeSpec) : _root_.Go.OpenSpec := { _root_.Go.OpenSpec.ofChange s with cond := some uptoSmall }

/-- 'supercargolaw.SynodTells', WHERE WHAT IT READS IS OF BULK AT MOST 1048576: true; the input reads as it did. -/
def synodTellsUptoRow : OpenClaim := { program := "ytligepciannclaadoor", sum := "2f6d175c4a2ae2c7d35ca92edd0008a0583ef64018afbdcf950919ae607360b3", func := "supercargo/supercargolaw.SynodTells", spec := "synodTells", unfollowed := true, recurses := true, named := ["math/bits.deBruijn64tab"], apart := false, laid := [("math/bits.deBruijn64tab", laid_math_bits_deBruijn64tab)], narrowed := true }
def SynodTellsUptoSaid : Prop := synodTellsUptoRow.holds Tryd.pinned (OpenSpec.upto synodTellsSpec)

/-- 'supercargolaw.SynodRuns', WHERE WHAT IT READS IS OF BULK AT MOST 1048576: true; the input reads as it did. -/
def synodRunsUptoRow : OpenClaim := { program := "ytligepciannclaadoor", sum := "2f6d175c4a2ae2c7d35ca92edd0008a0583ef64018afbdcf950919ae607360b3", func := "supercargo/supercargolaw.SynodRuns", spec := "synodRuns", unfollowed := true, recurses := true, named := ["math/bits.deBruijn64tab"], apart := false, laid := [("math/bits.deBruijn64tab", laid_math_bits_deBruijn64tab)], narrowed := true }
def SynodRunsUptoSaid : Prop := synodRunsUptoRow.holds Tryd.pinned (OpenSpec.upto synodRunsSpec)

/-- 'supercargolaw.SynodAgrees', WHERE WHAT IT READS IS OF BULK AT MOST 1048576: true; the input reads as it did. -/
def synodAgreesUptoRow : OpenClaim := { program := "ytligepciannclaadoor", sum := "2f6d175c4a2ae2c7d35ca92edd0008a0583ef64018afbdcf950919ae607360b3", func := "supercargo/supercargolaw.SynodAgrees", spec := "synodAgrees", unfollowed := true, recurses := true, named := ["math/bits.deBruijn64tab"], apart := false, laid := [("math/bits.deBruijn64tab", laid_math_bits_deBruijn64tab)], narrowed := true }
def SynodAgreesUptoSaid : Prop := synodAgreesUptoRow.holds Tryd.pinned (OpenSpec.upto synodAgreesSpec)

/-- 'supercargolaw.SynodValid', WHERE WHAT IT READS IS OF BULK AT MOST 1048576: true; the input reads as it did. -/
def synodValidUptoRow : OpenClaim := { program := "ytligepciannclaadoor", sum := "2f6d175c4a2ae2c7d35ca92edd0008a0583ef64018afbdcf950919ae607360b3", func := "supercargo/supercargolaw.SynodValid", spec := "synodValid", unfollowed := true, recurses := true, named := ["math/bits.deBruijn64tab"], apart := false, laid := [("math/bits.deBruijn64tab", laid_math_bits_deBruijn64tab)], narrowed := true }
def SynodValidUptoSaid : Prop := synodValidUptoRow.holds Tryd.pinned (OpenSpec.upto synodValidSpec)

/-- 'supercargolaw.SynodLater', WHERE WHAT IT READS IS OF BULK AT MOST 1048576: true; the input reads as it did. -/
def synodLaterUptoRow : OpenClaim := { program := "ytligepciannclaadoor", sum := "2f6d175c4a2ae2c7d35ca92edd0008a0583ef64018afbdcf950919ae607360b3", func := "supercargo/supercargolaw.SynodLater", spec := "synodLater", unfollowed := true, recurses := true, named := ["math/bits.deBruijn64tab"], apart := false, laid := [("math/bits.deBruijn64tab", laid_math_bits_deBruijn64tab)], narrowed := true }
def SynodLaterUptoSaid : Prop := synodLaterUptoRow.holds Tryd.pinned (OpenSpec.upto synodLaterSpec)

/-- 'supercargolaw.SynodKept', WHERE WHAT IT READS IS OF BULK AT MOST 1048576: true; the input reads as it did. -/
def synodKeptUptoRow : OpenClaim := { program := "ytligepciannclaadoor", sum := "2f6d175c4a2ae2c7d35ca92edd0008a0583ef64018afbdcf950919ae607360b3", func := "supercargo/supercargolaw.SynodKept", spec := "synodKept", unfollowed := true, recurses := true, named := ["math/bits.deBruijn64tab"], apart := false, laid := [("math/bits.deBruijn64tab", laid_math_bits_deBruijn64tab)], narrowed := true }
def SynodKeptUptoSaid : Prop := synodKeptUptoRow.holds Tryd.pinned (OpenSpec.upto synodKeptSpec)

/-- 'supercargolaw.SynodStays', WHERE WHAT IT READS IS OF BULK AT MOST 1048576: true; the input reads as it did. -/
def synodStaysUptoRow : OpenClaim := { program := "ytligepciannclaadoor", sum := "2f6d175c4a2ae2c7d35ca92edd0008a0583ef64018afbdcf950919ae607360b3", func := "supercargo/supercargolaw.SynodStays", spec := "synodStays", unfollowed := true, recurses := true, named := ["math/bits.deBruijn64tab"], apart := false, laid := [("math/bits.deBruijn64tab", laid_math_bits_deBruijn64tab)], narrowed := true }
def SynodStaysUptoSaid : Prop := synodStaysUptoRow.holds Tryd.pinned (OpenSpec.upto synodStaysSpec)

/-- 'supercargolaw.SynodPromise', WHERE WHAT IT READS IS OF BULK AT MOST 1048576: true; the input reads as it did. -/
def synodPromiseUptoRow : OpenClaim := { program := "ytligepciannclaadoor", sum := "2f6d175c4a2ae2c7d35ca92edd0008a0583ef64018afbdcf950919ae607360b3", func := "supercargo/supercargolaw.SynodPromise", spec := "synodPromise", unfollowed := true, recurses := true, named := ["math/bits.deBruijn64tab"], apart := false, laid := [("math/bits.deBruijn64tab", laid_math_bits_deBruijn64tab)], narrowed := true }
def SynodPromiseUptoSaid : Prop := synodPromiseUptoRow.holds Tryd.pinned (OpenSpec.upto synodPromiseSpec)

/-- 'supercargolaw.SynodLives', WHERE WHAT IT READS IS OF BULK AT MOST 1048576: true; the input reads as it did. -/
def synodLivesUptoRow : OpenClaim := { program := "ytligepciannclaadoor", sum := "2f6d175c4a2ae2c7d35ca92edd0008a0583ef64018afbdcf950919ae607360b3", func := "supercargo/supercargolaw.SynodLives", spec := "synodLives", unfollowed := true, recurses := true, named := ["math/bits.deBruijn64tab"], apart := false, laid := [("math/bits.deBruijn64tab", laid_math_bits_deBruijn64tab)], narrowed := true }
def SynodLivesUptoSaid : Prop := synodLivesUptoRow.holds Tryd.pinned (OpenSpec.upto synodLivesSpec)

end Rows
end Go.Proofs.YtligepciannclaaDoor
