/-
  NARROWER THAN 'FOR EVERY INPUT', by the rows' own cells (each row's printed sentence says how): SeatTells: laid · BidTells: laid · SeatRises: laid · SeatPromise: laid · BidGoes: laid.
  DERIVED. THE GIVEN ROWS OF THIS SEAT. 5 by the template 'for every input the law returns true; each argument reads behind the call as it read before'; 0 by the template 'total and deterministic' (their statements: YtejilglnpdjepaaDoorTotals.lean).
  GIVEN WITH THE SEED: the statements are not yours to turn. If you find one false, say at which input.
  Laid BY PROGRAM, IN A SANDBOX (cutbox-rows.mjs): the forced cells as the released guide's own fill.sh prints them over the translation 541816d80cfea08e… (all of the seat's roots in one cut). By AI agents, Wed Nov 11 2026. No macro, syntax, notation, axiom, sorry.
-/
import Derived.Test.YtejilglnpdjepaaDoorChecked
import GoSem.Claim
import GoSem.ClaimJoined
import GoSem.ClaimMapViews
import Derived.JoinedTies
import Derived.KernelRfl
namespace Go.Proofs.YtejilglnpdjepaaDoor
/- THE CELL 'sum', in the pinned program and in every row, IS THE sha256 OF THE DUMP (.gsa) THAT YtejilglnpdjepaaDoorProg.lean LOADS. Nothing in Lean hashes anything: it is a label: what it is worth is what the hold of that sum in a sandbox is worth. -/
noncomputable def Tryd.pinned : Pinned := { name := "ytejilglnpdjepaadoor", sum := "541816d80cfea08ea16672d5316ecdc284aa54e0e9ac09e6b4fa569485cd2412", checked := Tryd.checked }
namespace Rows
def none {H : Type} : Left H := { results := [], args := [] }

/- WHAT THE LISTED PACKAGE-LEVEL VARIABLES READ AS WHEN THE CALL BEGINS. Each datum BY PROGRAM (the guide's laid-datum.mjs) off the statement by which the dump's own 'gosem.cut.vars' lays the variable. In a bare row this is a premise. The card (YtejilglnpdjepaaDoorCards.lean) ties it to the program's text. -/
def laid_math_bits_deBruijn64tab {H : Type} : DataW H := .agg [.lit (.int .u8 0), .lit (.int .u8 1), .lit (.int .u8 56), .lit (.int .u8 2), .lit (.int .u8 57), .lit (.int .u8 49), .lit (.int .u8 28), .lit (.int .u8 3), .lit (.int .u8 61), .lit (.int .u8 58), .lit (.int .u8 42), .lit (.int .u8 50), .lit (.int .u8 38), .lit (.int .u8 29), .lit (.int .u8 17), .lit (.int .u8 4), .lit (.int .u8 62), .lit (.int .u8 47), .lit (.int .u8 59), .lit (.int .u8 36), .lit (.int .u8 45), .lit (.int .u8 43), .lit (.int .u8 51), .lit (.int .u8 22), .lit (.int .u8 53), .lit (.int .u8 39), .lit (.int .u8 33), .lit (.int .u8 30), .lit (.int .u8 24), .lit (.int .u8 18), .lit (.int .u8 12), .lit (.int .u8 5), .lit (.int .u8 63), .lit (.int .u8 55), .lit (.int .u8 48), .lit (.int .u8 27), .lit (.int .u8 60), .lit (.int .u8 41), .lit (.int .u8 37), .lit (.int .u8 16), .lit (.int .u8 46), .lit (.int .u8 35), .lit (.int .u8 44), .lit (.int .u8 21), .lit (.int .u8 52), .lit (.int .u8 32), .lit (.int .u8 23), .lit (.int .u8 11), .lit (.int .u8 54), .lit (.int .u8 26), .lit (.int .u8 40), .lit (.int .u8 15), .lit (.int .u8 34), .lit (.int .u8 20), .lit (.int .u8 31), .lit (.int .u8 10), .lit (.int .u8 25), .lit (.int .u8 14), .lit (.int .u8 19), .lit (.int .u8 9), .lit (.int .u8 13), .lit (.int .u8 8), .lit (.int .u8 7), .lit (.int .u8 6)]

/-- 'supercargolaw.SeatTells': WHATEVER THE INPUT: true; the input reads as it did. -/
def seatTellsSpec : ChangeSpec := { name := "seatTells", fn := fun _ => fun
  | [d1, d2] => { results := [.lit (.bool true)], args := [d1, d2] }
  | _ => none }
def seatTellsRow : OpenClaim := { program := "ytejilglnpdjepaadoor", sum := "541816d80cfea08ea16672d5316ecdc284aa54e0e9ac09e6b4fa569485cd2412", func := "supercargo/supercargolaw.SeatTells", spec := "seatTells", named := ["math/bits.deBruijn64tab"], apart := false, laid := [("math/bits.deBruijn64tab", laid_math_bits_deBruijn64tab)] }
def SeatTellsSaid : Prop := seatTellsRow.holds Tryd.pinned (OpenSpec.ofChange seatTellsSpec)

/-- ITS FALSE NEIGHBOUR: 'it returns false'. Refute it at one input. -/
def seatTellsWrong : ChangeSpec := { name := "seatTells", fn := fun _ => fun
  | [d1, d2] => { results := [.lit (.bool false)], args := [d1, d2] }
  | _ => none }
def SeatTellsWrongFalsely : Prop := seatTellsRow.holds Tryd.pinned (OpenSpec.ofChange seatTellsWrong)

/-- 'supercargolaw.BidTells': WHATEVER THE INPUT: true; the input reads as it did. -/
def bidTellsSpec : ChangeSpec := { name := "bidTells", fn := fun _ => fun
  | [d1, d2, d3, d4] => { results := [.lit (.bool true)], args := [d1, d2, d3, d4] }
  | _ => none }
def bidTellsRow : OpenClaim := { program := "ytejilglnpdjepaadoor", sum := "541816d80cfea08ea16672d5316ecdc284aa54e0e9ac09e6b4fa569485cd2412", func := "supercargo/supercargolaw.BidTells", spec := "bidTells", named := ["math/bits.deBruijn64tab"], apart := false, laid := [("math/bits.deBruijn64tab", laid_math_bits_deBruijn64tab)] }
def BidTellsSaid : Prop := bidTellsRow.holds Tryd.pinned (OpenSpec.ofChange bidTellsSpec)

/-- ITS FALSE NEIGHBOUR: 'it returns false'. Refute it at one input. -/
def bidTellsWrong : ChangeSpec := { name := "bidTells", fn := fun _ => fun
  | [d1, d2, d3, d4] => { results := [.lit (.bool false)], args := [d1, d2, d3, d4] }
  | _ => none }
def BidTellsWrongFalsely : Prop := bidTellsRow.holds Tryd.pinned (OpenSpec.ofChange bidTellsWrong)

/-- 'supercargolaw.SeatRises': WHATEVER THE INPUT: true; the input reads as it did. -/
def seatRisesSpec : ChangeSpec := { name := "seatRises", fn := fun _ => fun
  | [d1, d2] => { results := [.lit (.bool true)], args := [d1, d2] }
  | _ => none }
def seatRisesRow : OpenClaim := { program := "ytejilglnpdjepaadoor", sum := "541816d80cfea08ea16672d5316ecdc284aa54e0e9ac09e6b4fa569485cd2412", func := "supercargo/supercargolaw.SeatRises", spec := "seatRises", named := ["math/bits.deBruijn64tab"], apart := false, laid := [("math/bits.deBruijn64tab", laid_math_bits_deBruijn64tab)] }
def SeatRisesSaid : Prop := seatRisesRow.holds Tryd.pinned (OpenSpec.ofChange seatRisesSpec)

/-- ITS FALSE NEIGHBOUR: 'it returns false'. Refute it at one input. -/
def seatRisesWrong : ChangeSpec := { name := "seatRises", fn := fun _ => fun
  | [d1, d2] => { results := [.lit (.bool false)], args := [d1, d2] }
  | _ => none }
def SeatRisesWrongFalsely : Prop := seatRisesRow.holds Tryd.pinned (OpenSpec.ofChange seatRisesWrong)

/-- 'supercargolaw.SeatPromise': WHATEVER THE INPUT: true; the input reads as it did. -/
def seatPromiseSpec : ChangeSpec := { name := "seatPromise", fn := fun _ => fun
  | [d1, d2, d3] => { results := [.lit (.bool true)], args := [d1, d2, d3] }
  | _ => none }
def seatPromiseRow : OpenClaim := { program := "ytejilglnpdjepaadoor", sum := "541816d80cfea08ea16672d5316ecdc284aa54e0e9ac09e6b4fa569485cd2412", func := "supercargo/supercargolaw.SeatPromise", spec := "seatPromise", named := ["math/bits.deBruijn64tab"], apart := false, laid := [("math/bits.deBruijn64tab", laid_math_bits_deBruijn64tab)] }
def SeatPromiseSaid : Prop := seatPromiseRow.holds Tryd.pinned (OpenSpec.ofChange seatPromiseSpec)

/-- ITS FALSE NEIGHBOUR: 'it returns false'. Refute it at one input. -/
def seatPromiseWrong : ChangeSpec := { name := "seatPromise", fn := fun _ => fun
  | [d1, d2, d3] => { results := [.lit (.bool false)], args := [d1, d2, d3] }
  | _ => none }
def SeatPromiseWrongFalsely : Prop := seatPromiseRow.holds Tryd.pinned (OpenSpec.ofChange seatPromiseWrong)

/-- 'supercargolaw.BidGoes': WHATEVER THE INPUT: true; the input reads as it did. -/
def bidGoesSpec : ChangeSpec := { name := "bidGoes", fn := fun _ => fun
  | [d1, d2, d3, d4] => { results := [.lit (.bool true)], args := [d1, d2, d3, d4] }
  | _ => none }
def bidGoesRow : OpenClaim := { program := "ytejilglnpdjepaadoor", sum := "541816d80cfea08ea16672d5316ecdc284aa54e0e9ac09e6b4fa569485cd2412", func := "supercargo/supercargolaw.BidGoes", spec := "bidGoes", named := ["math/bits.deBruijn64tab"], apart := false, laid := [("math/bits.deBruijn64tab", laid_math_bits_deBruijn64tab)] }
def BidGoesSaid : Prop := bidGoesRow.holds Tryd.pinned (OpenSpec.ofChange bidGoesSpec)

/-- ITS FALSE NEIGHBOUR: 'it returns false'. Refute it at one input. -/
def bidGoesWrong : ChangeSpec := { name := "bidGoes", fn := fun _ => fun
  | [d1, d2, d3, d4] => { results := [.lit (.bool false)], args := [d1, d2, d3, d4] }
  | _ => none }
def BidGoesWrongFalsely : Prop := bidGoesRow.holds Tryd.pinned (OpenSpec.ofChange bidGoesWrong)

/- THE SECOND FORM. 'bulk': how many values and letters a reading holds, each counted each time it is reached (what is shared counts as often as it is met; a slice's spare places count too). A statement '..UptoSaid' is the law's where the arguments, and the package variables that the reading takes, are together of bulk at most 1048576: NARROWER than '..Said'. Prove '..Said' where nothing that the law and all that it calls make is longer than what came in: it says more and counts as full. Else prove '..UptoSaid'. A law counts once. -/
mutual
def uptoBulk {H : Type} : DataW H → Nat
  | .lit (.string bytes) => bytes.length + 1
  | .lit _ => 1
  | .nil => 1
  | .ptr d => uptoBulk d + 1
  | .slice elems spare => uptoBulkAll elems + uptoBulkAll spare + 1
  | .agg parts => uptoBulkAll parts + 1
  | .iface _ d => uptoBulk d + 1
  | .map entries => uptoBulkEntries entries + 1
  | .held _ => 1
def uptoBulkAll {H : Type} : List (DataW H) → Nat
  | [] => 0
  | d :: r => uptoBulk d + uptoBulkAll r
def uptoBulkEntries {H : Type} : List (Lit × DataW H) → Nat
  | [] => 0
  | x :: r => uptoBulkEntry x + uptoBulkEntries r
def uptoBulkEntry {H : Type} : Lit × DataW H → Nat
  | (.string bytes, d) => bytes.length + uptoBulk d + 1
  | (_, d) => uptoBulk d + 1
 end
def uptoSmall : (H : Type) → List (DataW H) → Bool := fun _ ds => decide (uptoBulkAll ds ≤ 1048576)
def OpenSpec.upto (s : _root_.Go.ChangeSpec) : _root_.Go.OpenSpec := { _root_.Go.OpenSpec.ofChange s with cond := some uptoSmall }

/-- 'supercargolaw.SeatTells', WHERE WHAT IT READS IS OF BULK AT MOST 1048576: true; the input reads as it did. -/
def seatTellsUptoRow : OpenClaim := { program := "ytejilglnpdjepaadoor", sum := "541816d80cfea08ea16672d5316ecdc284aa54e0e9ac09e6b4fa569485cd2412", func := "supercargo/supercargolaw.SeatTells", spec := "seatTells", named := ["math/bits.deBruijn64tab"], apart := false, laid := [("math/bits.deBruijn64tab", laid_math_bits_deBruijn64tab)], narrowed := true }
def SeatTellsUptoSaid : Prop := seatTellsUptoRow.holds Tryd.pinned (OpenSpec.upto seatTellsSpec)

/-- 'supercargolaw.BidTells', WHERE WHAT IT READS IS OF BULK AT MOST 1048576: true; the input reads as it did. -/
def bidTellsUptoRow : OpenClaim := { program := "ytejilglnpdjepaadoor", sum := "541816d80cfea08ea16672d5316ecdc284aa54e0e9ac09e6b4fa569485cd2412", func := "supercargo/supercargolaw.BidTells", spec := "bidTells", named := ["math/bits.deBruijn64tab"], apart := false, laid := [("math/bits.deBruijn64tab", laid_math_bits_deBruijn64tab)], narrowed := true }
def BidTellsUptoSaid : Prop := bidTellsUptoRow.holds Tryd.pinned (OpenSpec.upto bidTellsSpec)

/-- 'supercargolaw.SeatRises', WHERE WHAT IT READS IS OF BULK AT MOST 1048576: true; the input reads as it did. -/
def seatRisesUptoRow : OpenClaim := { program := "ytejilglnpdjepaadoor", sum := "541816d80cfea08ea16672d5316ecdc284aa54e0e9ac09e6b4fa569485cd2412", func := "supercargo/supercargolaw.SeatRises", spec := "seatRises", named := ["math/bits.deBruijn64tab"], apart := false, laid := [("math/bits.deBruijn64tab", laid_math_bits_deBruijn64tab)], narrowed := true }
def SeatRisesUptoSaid : Prop := seatRisesUptoRow.holds Tryd.pinned (OpenSpec.upto seatRisesSpec)

/-- 'supercargolaw.SeatPromise', WHERE WHAT IT READS IS OF BULK AT MOST 1048576: true; the input reads as it did. -/
def seatPromiseUptoRow : OpenClaim := { program := "ytejilglnpdjepaadoor", sum := "541816d80cfea08ea16672d5316ecdc284aa54e0e9ac09e6b4fa569485cd2412", func := "supercargo/supercargolaw.SeatPromise", spec := "seatPromise", named := ["math/bits.deBruijn64tab"], apart := false, laid := [("math/bits.deBruijn64tab", laid_math_bits_deBruijn64tab)], narrowed := true }
def SeatPromiseUptoSaid : Prop := seatPromiseUptoRow.holds Tryd.pinned (OpenSpec.upto seatPromiseSpec)

/-- 'supercargolaw.BidGoes', WHERE WHAT IT READS IS OF BULK AT MOST 1048576: true; the input reads as it did. -/
def bidGoesUptoRow : OpenClaim := { program := "ytejilglnpdjepaadoor", sum := "541816d80cfea08ea16672d5316ecdc284aa54e0e9ac09e6b4fa569485cd2412", func := "supercargo/supercargolaw.BidGoes", spec := "bidGoes", named := ["math/bits.deBruijn64tab"], apart := false, laid := [("math/bits.deBruijn64tab", laid_math_bits_deBruijn64tab)], narrowed := true }
def BidGoesUptoSaid : Prop := bidGoesUptoRow.holds Tryd.pinned (OpenSpec.upto bidGoesSpec)

end Rows
end Go.Proofs.YtejilglnpdjepaaDoor
