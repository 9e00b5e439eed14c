/-
  NARROWER THAN 'FOR EVERY INPUT', by the rows' own cells (each row's printed sentence says how): AskTells: laid · AskServes: laid · AskOnce: laid · AskGoes: laid · AskDeaf: laid.
  DERIVED. THE GIVEN ROWS OF THIS SEAT. 5 by the template 'for every input the law returns true; each argument reads behind the call as it read before'; 0 by the template 'total and deterministic' (their statements: YtgepadjkegfokaaDoorTotals.lean).
  GIVEN WITH THE SEED: the statements are not yours to turn. If you find one false, say at which input.
  Laid BY PROGRAM, IN A SANDBOX (cutbox-rows.mjs): the forced cells as the released guide's own fill.sh prints them over the translation 3257a1ac8e1d546a… (all of the seat's roots in one cut). By AI agents, Wed Nov 11 2026. No macro, syntax, notation, axiom, sorry.
-/
import Derived.Test.YtgepadjkegfokaaDoorChecked
import GoSem.Claim
import GoSem.ClaimJoined
import GoSem.ClaimMapViews
import Derived.JoinedTies
import Derived.KernelRfl
namespace Go.Proofs.YtgepadjkegfokaaDoor
/- THE CELL 'sum', in the pinned program and in every row, IS THE sha256 OF THE DUMP (.gsa) THAT YtgepadjkegfokaaDoorProg.lean LOADS. Nothing in Lean hashes anything: it is a label: what it is worth is what the hold of that sum in a sandbox is worth. -/
noncomputable def Tryd.pinned : Pinned := { name := "ytgepadjkegfokaadoor", sum := "3257a1ac8e1d546affd1d91e64add313ef2b0428953966a1ef14a8345c61e8a7", checked := Tryd.checked }
namespace Rows
def none {H : Type} : Left H := { results := [], args := [] }

/- WHAT THE LISTED PACKAGE-LEVEL VARIABLES READ AS WHEN THE CALL BEGINS. Each datum BY PROGRAM (the guide's laid-datum.mjs) off the statement by which the dump's own 'gosem.cut.vars' lays the variable. In a bare row this is a premise. The card (YtgepadjkegfokaaDoorCards.lean) ties it to the program's text. -/
def laid_math_bits_deBruijn64tab {H : Type} : DataW H := .agg [.lit (.int .u8 0), .lit (.int .u8 1), .lit (.int .u8 56), .lit (.int .u8 2), .lit (.int .u8 57), .lit (.int .u8 49), .lit (.int .u8 28), .lit (.int .u8 3), .lit (.int .u8 61), .lit (.int .u8 58), .lit (.int .u8 42), .lit (.int .u8 50), .lit (.int .u8 38), .lit (.int .u8 29), .lit (.int .u8 17), .lit (.int .u8 4), .lit (.int .u8 62), .lit (.int .u8 47), .lit (.int .u8 59), .lit (.int .u8 36), .lit (.int .u8 45), .lit (.int .u8 43), .lit (.int .u8 51), .lit (.int .u8 22), .lit (.int .u8 53), .lit (.int .u8 39), .lit (.int .u8 33), .lit (.int .u8 30), .lit (.int .u8 24), .lit (.int .u8 18), .lit (.int .u8 12), .lit (.int .u8 5), .lit (.int .u8 63), .lit (.int .u8 55), .lit (.int .u8 48), .lit (.int .u8 27), .lit (.int .u8 60), .lit (.int .u8 41), .lit (.int .u8 37), .lit (.int .u8 16), .lit (.int .u8 46), .lit (.int .u8 35), .lit (.int .u8 44), .lit (.int .u8 21), .lit (.int .u8 52), .lit (.int .u8 32), .lit (.int .u8 23), .lit (.int .u8 11), .lit (.int .u8 54), .lit (.int .u8 26), .lit (.int .u8 40), .lit (.int .u8 15), .lit (.int .u8 34), .lit (.int .u8 20), .lit (.int .u8 31), .lit (.int .u8 10), .lit (.int .u8 25), .lit (.int .u8 14), .lit (.int .u8 19), .lit (.int .u8 9), .lit (.int .u8 13), .lit (.int .u8 8), .lit (.int .u8 7), .lit (.int .u8 6)]

/-- 'supercargolaw.AskTells': WHATEVER THE INPUT: true; the input reads as it did. -/
def askTellsSpec : ChangeSpec := { name := "askTells", fn := fun _ => fun
  | [d1, d2, d3] => { results := [.lit (.bool true)], args := [d1, d2, d3] }
  | _ => none }
def askTellsRow : OpenClaim := { program := "ytgepadjkegfokaadoor", sum := "3257a1ac8e1d546affd1d91e64add313ef2b0428953966a1ef14a8345c61e8a7", func := "supercargo/supercargolaw.AskTells", spec := "askTells", unfollowed := true, recurses := true, named := ["math/bits.deBruijn64tab"], apart := false, laid := [("math/bits.deBruijn64tab", laid_math_bits_deBruijn64tab)] }
def AskTellsSaid : Prop := askTellsRow.holds Tryd.pinned (OpenSpec.ofChange askTellsSpec)

/-- ITS FALSE NEIGHBOUR: 'it returns false'. Refute it at one input. -/
def askTellsWrong : ChangeSpec := { name := "askTells", fn := fun _ => fun
  | [d1, d2, d3] => { results := [.lit (.bool false)], args := [d1, d2, d3] }
  | _ => none }
def AskTellsWrongFalsely : Prop := askTellsRow.holds Tryd.pinned (OpenSpec.ofChange askTellsWrong)

/-- 'supercargolaw.AskServes': WHATEVER THE INPUT: true; the input reads as it did. -/
def askServesSpec : ChangeSpec := { name := "askServes", fn := fun _ => fun
  | [d1, d2] => { results := [.lit (.bool true)], args := [d1, d2] }
  | _ => none }
def askServesRow : OpenClaim := { program := "ytgepadjkegfokaadoor", sum := "3257a1ac8e1d546affd1d91e64add313ef2b0428953966a1ef14a8345c61e8a7", func := "supercargo/supercargolaw.AskServes", spec := "askServes", unfollowed := true, recurses := true, named := ["math/bits.deBruijn64tab"], apart := false, laid := [("math/bits.deBruijn64tab", laid_math_bits_deBruijn64tab)] }
def AskServesSaid : Prop := askServesRow.holds Tryd.pinned (OpenSpec.ofChange askServesSpec)

/-- ITS FALSE NEIGHBOUR: 'it returns false'. Refute it at one input. -/
def askServesWrong : ChangeSpec := { name := "askServes", fn := fun _ => fun
  | [d1, d2] => { results := [.lit (.bool false)], args := [d1, d2] }
  | _ => none }
def AskServesWrongFalsely : Prop := askServesRow.holds Tryd.pinned (OpenSpec.ofChange askServesWrong)

/-- 'supercargolaw.AskOnce': WHATEVER THE INPUT: true; the input reads as it did. -/
def askOnceSpec : ChangeSpec := { name := "askOnce", fn := fun _ => fun
  | [d1, d2, d3] => { results := [.lit (.bool true)], args := [d1, d2, d3] }
  | _ => none }
def askOnceRow : OpenClaim := { program := "ytgepadjkegfokaadoor", sum := "3257a1ac8e1d546affd1d91e64add313ef2b0428953966a1ef14a8345c61e8a7", func := "supercargo/supercargolaw.AskOnce", spec := "askOnce", unfollowed := true, recurses := true, named := ["math/bits.deBruijn64tab"], apart := false, laid := [("math/bits.deBruijn64tab", laid_math_bits_deBruijn64tab)] }
def AskOnceSaid : Prop := askOnceRow.holds Tryd.pinned (OpenSpec.ofChange askOnceSpec)

/-- ITS FALSE NEIGHBOUR: 'it returns false'. Refute it at one input. -/
def askOnceWrong : ChangeSpec := { name := "askOnce", fn := fun _ => fun
  | [d1, d2, d3] => { results := [.lit (.bool false)], args := [d1, d2, d3] }
  | _ => none }
def AskOnceWrongFalsely : Prop := askOnceRow.holds Tryd.pinned (OpenSpec.ofChange askOnceWrong)

/-- 'supercargolaw.AskGoes': WHATEVER THE INPUT: true; the input reads as it did. -/
def askGoesSpec : ChangeSpec := { name := "askGoes", fn := fun _ => fun
  | [d1, d2, d3] => { results := [.lit (.bool true)], args := [d1, d2, d3] }
  | _ => none }
def askGoesRow : OpenClaim := { program := "ytgepadjkegfokaadoor", sum := "3257a1ac8e1d546affd1d91e64add313ef2b0428953966a1ef14a8345c61e8a7", func := "supercargo/supercargolaw.AskGoes", spec := "askGoes", unfollowed := true, recurses := true, named := ["math/bits.deBruijn64tab"], apart := false, laid := [("math/bits.deBruijn64tab", laid_math_bits_deBruijn64tab)] }
def AskGoesSaid : Prop := askGoesRow.holds Tryd.pinned (OpenSpec.ofChange askGoesSpec)

/-- ITS FALSE NEIGHBOUR: 'it returns false'. Refute it at one input. -/
def askGoesWrong : ChangeSpec := { name := "askGoes", fn := fun _ => fun
  | [d1, d2, d3] => { results := [.lit (.bool false)], args := [d1, d2, d3] }
  | _ => none }
def AskGoesWrongFalsely : Prop := askGoesRow.holds Tryd.pinned (OpenSpec.ofChange askGoesWrong)

/-- 'supercargolaw.AskDeaf': WHATEVER THE INPUT: true; the input reads as it did. -/
def askDeafSpec : ChangeSpec := { name := "askDeaf", fn := fun _ => fun
  | [d1, d2, d3] => { results := [.lit (.bool true)], args := [d1, d2, d3] }
  | _ => none }
def askDeafRow : OpenClaim := { program := "ytgepadjkegfokaadoor", sum := "3257a1ac8e1d546affd1d91e64add313ef2b0428953966a1ef14a8345c61e8a7", func := "supercargo/supercargolaw.AskDeaf", spec := "askDeaf", unfollowed := true, recurses := true, named := ["math/bits.deBruijn64tab"], apart := false, laid := [("math/bits.deBruijn64tab", laid_math_bits_deBruijn64tab)] }
def AskDeafSaid : Prop := askDeafRow.holds Tryd.pinned (OpenSpec.ofChange askDeafSpec)

/-- ITS FALSE NEIGHBOUR: 'it returns false'. Refute it at one input. -/
def askDeafWrong : ChangeSpec := { name := "askDeaf", fn := fun _ => fun
  | [d1, d2, d3] => { results := [.lit (.bool false)], args := [d1, d2, d3] }
  | _ => none }
def AskDeafWrongFalsely : Prop := askDeafRow.holds Tryd.pinned (OpenSpec.ofChange askDeafWrong)

/- THE SECOND FORM. 'bulk': how many values and letters a reading holds, each counted each time it is reached (what is shared counts as often as it is met; a slice's spare places count too). A statement '..UptoSaid' is the law's where the arguments, and the package variables that the reading takes, are together of bulk at most 1048576: NARROWER than '..Said'. Prove '..Said' where nothing that the law and all that it calls make is longer than what came in: it says more and counts as full. Else prove '..UptoSaid'. A law counts once. -/
mutual
def uptoBulk {H : Type} : DataW H → Nat
  | .lit (.string bytes) => bytes.length + 1
  | .lit _ => 1
  | .nil => 1
  | .ptr d => uptoBulk d + 1
  | .slice elems spare => uptoBulkAll elems + uptoBulkAll spare + 1
  | .agg parts => uptoBulkAll parts + 1
  | .iface _ d => uptoBulk d + 1
  | .map entries => uptoBulkEntries entries + 1
  | .held _ => 1
def uptoBulkAll {H : Type} : List (DataW H) → Nat
  | [] => 0
  | d :: r => uptoBulk d + uptoBulkAll r
def uptoBulkEntries {H : Type} : List (Lit × DataW H) → Nat
  | [] => 0
  | x :: r => uptoBulkEntry x + uptoBulkEntries r
def uptoBulkEntry {H : Type} : Lit × DataW H → Nat
  | (.string bytes, d) => bytes.length + uptoBulk d + 1
  | (_, d) => uptoBulk d + 1
 end
def uptoSmall : (H : Type) → List (DataW H) → Bool := fun _ ds => decide (uptoBulkAll ds ≤ 1048576)
def OpenSpec.upto (s : _root_.Go.ChangeSpec) : _root_.Go.OpenSpec := { _root_.Go.OpenSpec.ofChange s with cond := some uptoSmall }

/-- 'supercargolaw.AskTells', WHERE WHAT IT READS IS OF BULK AT MOST 1048576: true; the input reads as it did. -/
def askTellsUptoRow : OpenClaim := { program := "ytgepadjkegfokaadoor", sum := "3257a1ac8e1d546affd1d91e64add313ef2b0428953966a1ef14a8345c61e8a7", func := "supercargo/supercargolaw.AskTells", spec := "askTells", unfollowed := true, recurses := true, named := ["math/bits.deBruijn64tab"], apart := false, laid := [("math/bits.deBruijn64tab", laid_math_bits_deBruijn64tab)], narrowed := true }
def AskTellsUptoSaid : Prop := askTellsUptoRow.holds Tryd.pinned (OpenSpec.upto askTellsSpec)

/-- 'supercargolaw.AskServes', WHERE WHAT IT READS IS OF BULK AT MOST 1048576: true; the input reads as it did. -/
def askServesUptoRow : OpenClaim := { program := "ytgepadjkegfokaadoor", sum := "3257a1ac8e1d546affd1d91e64add313ef2b0428953966a1ef14a8345c61e8a7", func := "supercargo/supercargolaw.AskServes", spec := "askServes", unfollowed := true, recurses := true, named := ["math/bits.deBruijn64tab"], apart := false, laid := [("math/bits.deBruijn64tab", laid_math_bits_deBruijn64tab)], narrowed := true }
def AskServesUptoSaid : Prop := askServesUptoRow.holds Tryd.pinned (OpenSpec.upto askServesSpec)

/-- 'supercargolaw.AskOnce', WHERE WHAT IT READS IS OF BULK AT MOST 1048576: true; the input reads as it did. -/
def askOnceUptoRow : OpenClaim := { program := "ytgepadjkegfokaadoor", sum := "3257a1ac8e1d546affd1d91e64add313ef2b0428953966a1ef14a8345c61e8a7", func := "supercargo/supercargolaw.AskOnce", spec := "askOnce", unfollowed := true, recurses := true, named := ["math/bits.deBruijn64tab"], apart := false, laid := [("math/bits.deBruijn64tab", laid_math_bits_deBruijn64tab)], narrowed := true }
def AskOnceUptoSaid : Prop := askOnceUptoRow.holds Tryd.pinned (OpenSpec.upto askOnceSpec)

/-- 'supercargolaw.AskGoes', WHERE WHAT IT READS IS OF BULK AT MOST 1048576: true; the input reads as it did. -/
def askGoesUptoRow : OpenClaim := { program := "ytgepadjkegfokaadoor", sum := "3257a1ac8e1d546affd1d91e64add313ef2b0428953966a1ef14a8345c61e8a7", func := "supercargo/supercargolaw.AskGoes", spec := "askGoes", unfollowed := true, recurses := true, named := ["math/bits.deBruijn64tab"], apart := false, laid := [("math/bits.deBruijn64tab", laid_math_bits_deBruijn64tab)], narrowed := true }
def AskGoesUptoSaid : Prop := askGoesUptoRow.holds Tryd.pinned (OpenSpec.upto askGoesSpec)

/-- 'supercargolaw.AskDeaf', WHERE WHAT IT READS IS OF BULK AT MOST 1048576: true; the input reads as it did. -/
def askDeafUptoRow : OpenClaim := { program := "ytgepadjkegfokaadoor", sum := "3257a1ac8e1d546affd1d91e64add313ef2b0428953966a1ef14a8345c61e8a7", func := "supercargo/supercargolaw.AskDeaf", spec := "askDeaf", unfollowed := true, recurses := true, named := ["math/bits.deBruijn64tab"], apart := false, laid := [("math/bits.deBruijn64tab", laid_math_bits_deBruijn64tab)], narrowed := true }
def AskDeafUptoSaid : Prop := askDeafUptoRow.holds Tryd.pinned (OpenSpec.upto askDeafSpec)

end Rows
end Go.Proofs.YtgepadjkegfokaaDoor
