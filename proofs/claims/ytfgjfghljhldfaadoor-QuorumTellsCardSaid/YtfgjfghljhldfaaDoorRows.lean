/-
  NARROWER THAN 'FOR EVERY INPUT', by the rows' own cells (each row's printed sentence says how): QuorumTells: laid · QuorumShares: laid · QuorumRises: laid · QuorumSpare: laid · QuorumEven: laid · QuorumDual: laid.
  DERIVED. THE GIVEN ROWS OF THIS SEAT. 6 by the template 'for every input the law returns true; each argument reads behind the call as it read before'; 0 by the template 'total and deterministic' (their statements: YtfgjfghljhldfaaDoorTotals.lean).
  GIVEN WITH THE SEED: the statements are not yours to turn. If you find one false, say at which input.
  Laid BY PROGRAM, IN A SANDBOX (cutbox-rows.mjs): the forced cells as the released guide's own fill.sh prints them over the translation fdeb7f49c59c6800… (all of the seat's roots in one cut). By AI agents, Wed Nov 11 2026. No macro, syntax, notation, axiom, sorry.
-/
import Derived.Test.YtfgjfghljhldfaaDoorChecked
import GoSem.Claim
import GoSem.ClaimJoined
import GoSem.ClaimMapViews
import Derived.JoinedTies
import Derived.KernelRfl
namespace Go.Proofs.YtfgjfghljhldfaaDoor
/- THE CELL 'sum', in the pinned program and in every row, IS THE sha256 OF THE DUMP (.gsa) THAT YtfgjfghljhldfaaDoorProg.lean LOADS. Nothing in Lean hashes anything: it is a label: what it is worth is what the hold of that sum in a sandbox is worth. -/
noncomputable def Tryd.pinned : Pinned := { name := "ytfgjfghljhldfaadoor", sum := "fdeb7f49c59c6800564ac30db0d03c7d5b29ad990c3e2e0abbbb99a291b1b8bd", checked := Tryd.checked }
namespace Rows
def none {H : Type} : Left H := { results := [], args := [] }

/- WHAT THE LISTED PACKAGE-LEVEL VARIABLES READ AS WHEN THE CALL BEGINS. Each datum BY PROGRAM (the guide's laid-datum.mjs) off the statement by which the dump's own 'gosem.cut.vars' lays the variable. In a bare row this is a premise. The card (YtfgjfghljhldfaaDoorCards.lean) ties it to the program's text. -/
def laid_math_bits_deBruijn64tab {H : Type} : DataW H := .agg [.lit (.int .u8 0), .lit (.int .u8 1), .lit (.int .u8 56), .lit (.int .u8 2), .lit (.int .u8 57), .lit (.int .u8 49), .lit (.int .u8 28), .lit (.int .u8 3), .lit (.int .u8 61), .lit (.int .u8 58), .lit (.int .u8 42), .lit (.int .u8 50), .lit (.int .u8 38), .lit (.int .u8 29), .lit (.int .u8 17), .lit (.int .u8 4), .lit (.int .u8 62), .lit (.int .u8 47), .lit (.int .u8 59), .lit (.int .u8 36), .lit (.int .u8 45), .lit (.int .u8 43), .lit (.int .u8 51), .lit (.int .u8 22), .lit (.int .u8 53), .lit (.int .u8 39), .lit (.int .u8 33), .lit (.int .u8 30), .lit (.int .u8 24), .lit (.int .u8 18), .lit (.int .u8 12), .lit (.int .u8 5), .lit (.int .u8 63), .lit (.int .u8 55), .lit (.int .u8 48), .lit (.int .u8 27), .lit (.int .u8 60), .lit (.int .u8 41), .lit (.int .u8 37), .lit (.int .u8 16), .lit (.int .u8 46), .lit (.int .u8 35), .lit (.int .u8 44), .lit (.int .u8 21), .lit (.int .u8 52), .lit (.int .u8 32), .lit (.int .u8 23), .lit (.int .u8 11), .lit (.int .u8 54), .lit (.int .u8 26), .lit (.int .u8 40), .lit (.int .u8 15), .lit (.int .u8 34), .lit (.int .u8 20), .lit (.int .u8 31), .lit (.int .u8 10), .lit (.int .u8 25), .lit (.int .u8 14), .lit (.int .u8 19), .lit (.int .u8 9), .lit (.int .u8 13), .lit (.int .u8 8), .lit (.int .u8 7), .lit (.int .u8 6)]

/-- 'supercargolaw.QuorumTells': WHATEVER THE INPUT: true; the input reads as it did. -/
def quorumTellsSpec : ChangeSpec := { name := "quorumTells", fn := fun _ => fun
  | [d1, d2, d3] => { results := [.lit (.bool true)], args := [d1, d2, d3] }
  | _ => none }
def quorumTellsRow : OpenClaim := { program := "ytfgjfghljhldfaadoor", sum := "fdeb7f49c59c6800564ac30db0d03c7d5b29ad990c3e2e0abbbb99a291b1b8bd", func := "supercargo/supercargolaw.QuorumTells", spec := "quorumTells", unfollowed := true, recurses := true, named := ["math/bits.deBruijn64tab"], apart := false, laid := [("math/bits.deBruijn64tab", laid_math_bits_deBruijn64tab)] }
def QuorumTellsSaid : Prop := quorumTellsRow.holds Tryd.pinned (OpenSpec.ofChange quorumTellsSpec)

/-- ITS FALSE NEIGHBOUR: 'it returns false'. Refute it at one input. -/
def quorumTellsWrong : ChangeSpec := { name := "quorumTells", fn := fun _ => fun
  | [d1, d2, d3] => { results := [.lit (.bool false)], args := [d1, d2, d3] }
  | _ => none }
def QuorumTellsWrongFalsely : Prop := quorumTellsRow.holds Tryd.pinned (OpenSpec.ofChange quorumTellsWrong)

/-- 'supercargolaw.QuorumShares': WHATEVER THE INPUT: true; the input reads as it did. -/
def quorumSharesSpec : ChangeSpec := { name := "quorumShares", fn := fun _ => fun
  | [d1, d2, d3, d4] => { results := [.lit (.bool true)], args := [d1, d2, d3, d4] }
  | _ => none }
def quorumSharesRow : OpenClaim := { program := "ytfgjfghljhldfaadoor", sum := "fdeb7f49c59c6800564ac30db0d03c7d5b29ad990c3e2e0abbbb99a291b1b8bd", func := "supercargo/supercargolaw.QuorumShares", spec := "quorumShares", unfollowed := true, recurses := true, named := ["math/bits.deBruijn64tab"], apart := false, laid := [("math/bits.deBruijn64tab", laid_math_bits_deBruijn64tab)] }
def QuorumSharesSaid : Prop := quorumSharesRow.holds Tryd.pinned (OpenSpec.ofChange quorumSharesSpec)

/-- ITS FALSE NEIGHBOUR: 'it returns false'. Refute it at one input. -/
def quorumSharesWrong : ChangeSpec := { name := "quorumShares", fn := fun _ => fun
  | [d1, d2, d3, d4] => { results := [.lit (.bool false)], args := [d1, d2, d3, d4] }
  | _ => none }
def QuorumSharesWrongFalsely : Prop := quorumSharesRow.holds Tryd.pinned (OpenSpec.ofChange quorumSharesWrong)

/-- 'supercargolaw.QuorumRises': WHATEVER THE INPUT: true; the input reads as it did. -/
def quorumRisesSpec : ChangeSpec := { name := "quorumRises", fn := fun _ => fun
  | [d1, d2, d3, d4] => { results := [.lit (.bool true)], args := [d1, d2, d3, d4] }
  | _ => none }
def quorumRisesRow : OpenClaim := { program := "ytfgjfghljhldfaadoor", sum := "fdeb7f49c59c6800564ac30db0d03c7d5b29ad990c3e2e0abbbb99a291b1b8bd", func := "supercargo/supercargolaw.QuorumRises", spec := "quorumRises", unfollowed := true, recurses := true, named := ["math/bits.deBruijn64tab"], apart := false, laid := [("math/bits.deBruijn64tab", laid_math_bits_deBruijn64tab)] }
def QuorumRisesSaid : Prop := quorumRisesRow.holds Tryd.pinned (OpenSpec.ofChange quorumRisesSpec)

/-- ITS FALSE NEIGHBOUR: 'it returns false'. Refute it at one input. -/
def quorumRisesWrong : ChangeSpec := { name := "quorumRises", fn := fun _ => fun
  | [d1, d2, d3, d4] => { results := [.lit (.bool false)], args := [d1, d2, d3, d4] }
  | _ => none }
def QuorumRisesWrongFalsely : Prop := quorumRisesRow.holds Tryd.pinned (OpenSpec.ofChange quorumRisesWrong)

/-- 'supercargolaw.QuorumSpare': WHATEVER THE INPUT: true; the input reads as it did. -/
def quorumSpareSpec : ChangeSpec := { name := "quorumSpare", fn := fun _ => fun
  | [d1, d2, d3] => { results := [.lit (.bool true)], args := [d1, d2, d3] }
  | _ => none }
def quorumSpareRow : OpenClaim := { program := "ytfgjfghljhldfaadoor", sum := "fdeb7f49c59c6800564ac30db0d03c7d5b29ad990c3e2e0abbbb99a291b1b8bd", func := "supercargo/supercargolaw.QuorumSpare", spec := "quorumSpare", unfollowed := true, recurses := true, named := ["math/bits.deBruijn64tab"], apart := false, laid := [("math/bits.deBruijn64tab", laid_math_bits_deBruijn64tab)] }
def QuorumSpareSaid : Prop := quorumSpareRow.holds Tryd.pinned (OpenSpec.ofChange quorumSpareSpec)

/-- ITS FALSE NEIGHBOUR: 'it returns false'. Refute it at one input. -/
def quorumSpareWrong : ChangeSpec := { name := "quorumSpare", fn := fun _ => fun
  | [d1, d2, d3] => { results := [.lit (.bool false)], args := [d1, d2, d3] }
  | _ => none }
def QuorumSpareWrongFalsely : Prop := quorumSpareRow.holds Tryd.pinned (OpenSpec.ofChange quorumSpareWrong)

/-- 'supercargolaw.QuorumEven': WHATEVER THE INPUT: true; the input reads as it did. -/
def quorumEvenSpec : ChangeSpec := { name := "quorumEven", fn := fun _ => fun
  | [d1, d2] => { results := [.lit (.bool true)], args := [d1, d2] }
  | _ => none }
def quorumEvenRow : OpenClaim := { program := "ytfgjfghljhldfaadoor", sum := "fdeb7f49c59c6800564ac30db0d03c7d5b29ad990c3e2e0abbbb99a291b1b8bd", func := "supercargo/supercargolaw.QuorumEven", spec := "quorumEven", unfollowed := true, recurses := true, named := ["math/bits.deBruijn64tab"], apart := false, laid := [("math/bits.deBruijn64tab", laid_math_bits_deBruijn64tab)] }
def QuorumEvenSaid : Prop := quorumEvenRow.holds Tryd.pinned (OpenSpec.ofChange quorumEvenSpec)

/-- ITS FALSE NEIGHBOUR: 'it returns false'. Refute it at one input. -/
def quorumEvenWrong : ChangeSpec := { name := "quorumEven", fn := fun _ => fun
  | [d1, d2] => { results := [.lit (.bool false)], args := [d1, d2] }
  | _ => none }
def QuorumEvenWrongFalsely : Prop := quorumEvenRow.holds Tryd.pinned (OpenSpec.ofChange quorumEvenWrong)

/-- 'supercargolaw.QuorumDual': WHATEVER THE INPUT: true; the input reads as it did. -/
def quorumDualSpec : ChangeSpec := { name := "quorumDual", fn := fun _ => fun
  | [d1, d2, d3] => { results := [.lit (.bool true)], args := [d1, d2, d3] }
  | _ => none }
def quorumDualRow : OpenClaim := { program := "ytfgjfghljhldfaadoor", sum := "fdeb7f49c59c6800564ac30db0d03c7d5b29ad990c3e2e0abbbb99a291b1b8bd", func := "supercargo/supercargolaw.QuorumDual", spec := "quorumDual", unfollowed := true, recurses := true, named := ["math/bits.deBruijn64tab"], apart := false, laid := [("math/bits.deBruijn64tab", laid_math_bits_deBruijn64tab)] }
def QuorumDualSaid : Prop := quorumDualRow.holds Tryd.pinned (OpenSpec.ofChange quorumDualSpec)

/-- ITS FALSE NEIGHBOUR: 'it returns false'. Refute it at one input. -/
def quorumDualWrong : ChangeSpec := { name := "quorumDual", fn := fun _ => fun
  | [d1, d2, d3] => { results := [.lit (.bool false)], args := [d1, d2, d3] }
  | _ => none }
def QuorumDualWrongFalsely : Prop := quorumDualRow.holds Tryd.pinned (OpenSpec.ofChange quorumDualWrong)

/- THE SECOND FORM. 'bulk': how many values and letters a reading holds, each counted each time it is reached (what is shared counts as often as it is met; a slice's spare places count too). A statement '..UptoSaid' is the law's where the arguments, and the package variables that the reading takes, are together of bulk at most 1048576: NARROWER than '..Said'. Prove '..Said' where nothing that the law and all that it calls make is longer than what came in: it says more and counts as full. Else prove '..UptoSaid'. A law counts once. -/
mutual
def uptoBulk {H : Type} : DataW H → Nat
  | .lit (.string bytes) => bytes.length + 1
  | .lit _ => 1
  | .nil => 1
  | .ptr d => uptoBulk d + 1
  | .slice elems spare => uptoBulkAll elems + uptoBulkAll spare + 1
  | .agg parts => uptoBulkAll parts + 1
  | .iface _ d => uptoBulk d + 1
  | .map entries => uptoBulkEntries entries + 1
  | .held _ => 1
def uptoBulkAll {H : Type} : List (DataW H) → Nat
  | [] => 0
  | d :: r => uptoBulk d + uptoBulkAll r
def uptoBulkEntries {H : Type} : List (Lit × DataW H) → Nat
  | [] => 0
  | x :: r => uptoBulkEntry x + uptoBulkEntries r
def uptoBulkEntry {H : Type} : Lit × DataW H → Nat
  | (.string bytes, d) => bytes.length + uptoBulk d + 1
  | (_, d) => uptoBulk d + 1
 end
def uptoSmall : (H : Type) → List (DataW H) → Bool := fun _ ds => decide (uptoBulkAll ds ≤ 1048576)
def OpenSpec.upto (s : _root_.Go.ChangeSpec) : _root_.Go.OpenSpec := { _root_.Go.OpenSpec.ofChange s with cond := some uptoSmall }

/-- 'supercargolaw.QuorumTells', WHERE WHAT IT READS IS OF BULK AT MOST 1048576: true; the input reads as it did. -/
def quorumTellsUptoRow : OpenClaim := { program := "ytfgjfghljhldfaadoor", sum := "fdeb7f49c59c6800564ac30db0d03c7d5b29ad990c3e2e0abbbb99a291b1b8bd", func := "supercargo/supercargolaw.QuorumTells", spec := "quorumTells", unfollowed := true, recurses := true, named := ["math/bits.deBruijn64tab"], apart := false, laid := [("math/bits.deBruijn64tab", laid_math_bits_deBruijn64tab)], narrowed := true }
def QuorumTellsUptoSaid : Prop := quorumTellsUptoRow.holds Tryd.pinned (OpenSpec.upto quorumTellsSpec)

/-- 'supercargolaw.QuorumShares', WHERE WHAT IT READS IS OF BULK AT MOST 1048576: true; the input reads as it did. -/
def quorumSharesUptoRow : OpenClaim := { program := "ytfgjfghljhldfaadoor", sum := "fdeb7f49c59c6800564ac30db0d03c7d5b29ad990c3e2e0abbbb99a291b1b8bd", func := "supercargo/supercargolaw.QuorumShares", spec := "quorumShares", unfollowed := true, recurses := true, named := ["math/bits.deBruijn64tab"], apart := false, laid := [("math/bits.deBruijn64tab", laid_math_bits_deBruijn64tab)], narrowed := true }
def QuorumSharesUptoSaid : Prop := quorumSharesUptoRow.holds Tryd.pinned (OpenSpec.upto quorumSharesSpec)

/-- 'supercargolaw.QuorumRises', WHERE WHAT IT READS IS OF BULK AT MOST 1048576: true; the input reads as it did. -/
def quorumRisesUptoRow : OpenClaim := { program := "ytfgjfghljhldfaadoor", sum := "fdeb7f49c59c6800564ac30db0d03c7d5b29ad990c3e2e0abbbb99a291b1b8bd", func := "supercargo/supercargolaw.QuorumRises", spec := "quorumRises", unfollowed := true, recurses := true, named := ["math/bits.deBruijn64tab"], apart := false, laid := [("math/bits.deBruijn64tab", laid_math_bits_deBruijn64tab)], narrowed := true }
def QuorumRisesUptoSaid : Prop := quorumRisesUptoRow.holds Tryd.pinned (OpenSpec.upto quorumRisesSpec)

/-- 'supercargolaw.QuorumSpare', WHERE WHAT IT READS IS OF BULK AT MOST 1048576: true; the input reads as it did. -/
def quorumSpareUptoRow : OpenClaim := { program := "ytfgjfghljhldfaadoor", sum := "fdeb7f49c59c6800564ac30db0d03c7d5b29ad990c3e2e0abbbb99a291b1b8bd", func := "supercargo/supercargolaw.QuorumSpare", spec := "quorumSpare", unfollowed := true, recurses := true, named := ["math/bits.deBruijn64tab"], apart := false, laid := [("math/bits.deBruijn64tab", laid_math_bits_deBruijn64tab)], narrowed := true }
def QuorumSpareUptoSaid : Prop := quorumSpareUptoRow.holds Tryd.pinned (OpenSpec.upto quorumSpareSpec)

/-- 'supercargolaw.QuorumEven', WHERE WHAT IT READS IS OF BULK AT MOST 1048576: true; the input reads as it did. -/
def quorumEvenUptoRow : OpenClaim := { program := "ytfgjfghljhldfaadoor", sum := "fdeb7f49c59c6800564ac30db0d03c7d5b29ad990c3e2e0abbbb99a291b1b8bd", func := "supercargo/supercargolaw.QuorumEven", spec := "quorumEven", unfollowed := true, recurses := true, named := ["math/bits.deBruijn64tab"], apart := false, laid := [("math/bits.deBruijn64tab", laid_math_bits_deBruijn64tab)], narrowed := true }
def QuorumEvenUptoSaid : Prop := quorumEvenUptoRow.holds Tryd.pinned (OpenSpec.upto quorumEvenSpec)

/-- 'supercargolaw.QuorumDual', WHERE WHAT IT READS IS OF BULK AT MOST 1048576: true; the input reads as it did. -/
def quorumDualUptoRow : OpenClaim := { program := "ytfgjfghljhldfaadoor", sum := "fdeb7f49c59c6800564ac30db0d03c7d5b29ad990c3e2e0abbbb99a291b1b8bd", func := "supercargo/supercargolaw.QuorumDual", spec := "quorumDual", unfollowed := true, recurses := true, named := ["math/bits.deBruijn64tab"], apart := false, laid := [("math/bits.deBruijn64tab", laid_math_bits_deBruijn64tab)], narrowed := true }
def QuorumDualUptoSaid : Prop := quorumDualUptoRow.holds Tryd.pinned (OpenSpec.upto quorumDualSpec)

end Rows
end Go.Proofs.YtfgjfghljhldfaaDoor
