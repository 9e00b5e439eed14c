/-
  No cell of these rows narrows 'for every input' (looked for: loops, veiled, ifaces, maps, wideKeys, modest, calm, conditions, laid).
  DERIVED. THE GIVEN ROWS OF THIS SEAT. 3 by the template 'for every input the law returns true; each argument reads behind the call as it read before'; 0 by the template 'total and deterministic' (their statements: YtimomnfobfjggaaTotals.lean).
  GIVEN WITH THE SEED: the statements are not yours to turn. If you find one false, say at which input.
  Laid BY PROGRAM, IN A SANDBOX (cutbox-rows.mjs): the forced cells as the released guide's own fill.sh prints them over the translation 0bd08b8fc2600a1c… (all of the seat's roots in one cut). By AI agents, Wed Nov 11 2026. No macro, syntax, notation, axiom, sorry.
-/
import Derived.Test.YtimomnfobfjggaaChecked
import GoSem.Claim
import GoSem.ClaimJoined
import GoSem.ClaimMapViews
import Derived.JoinedTies
import Derived.KernelRfl
namespace Go.Proofs.Ytimomnfobfjggaa
/- THE CELL 'sum', in the pinned program and in every row, IS THE sha256 OF THE DUMP (.gsa) THAT YtimomnfobfjggaaProg.lean LOADS. Nothing in Lean hashes anything: it is a label: what it is worth is what the hold of that sum in a sandbox is worth. -/
noncomputable def Try.pinned : Pinned := { name := "ytimomnfobfjggaa", sum := "0bd08b8fc2600a1cc76198612eaa75c606b5dbec7335a45dcb0d0ea0255e9a5d", checked := Try.checked }
namespace Rows
def none {H : Type} : Left H := { results := [], args := [] }

/-- 'supercargolaw.WordMends': WHATEVER THE INPUT: true; the input reads as it did. -/
def wordMendsSpec : ChangeSpec := { name := "wordMends", fn := fun _ => fun
  | [d1, d2, d3] => { results := [.lit (.bool true)], args := [d1, d2, d3] }
  | _ => none }
def wordMendsRow : OpenClaim := { program := "ytimomnfobfjggaa", sum := "0bd08b8fc2600a1cc76198612eaa75c606b5dbec7335a45dcb0d0ea0255e9a5d", func := "supercargo/supercargolaw.WordMends", spec := "wordMends", inPlace := ["internal/abi.NoEscape"], unfollowed := true, recurses := true, apart := false }
def WordMendsSaid : Prop := wordMendsRow.holds Try.pinned (OpenSpec.ofChange wordMendsSpec)

/-- ITS FALSE NEIGHBOUR: 'it returns false'. Refute it at one input. -/
def wordMendsWrong : ChangeSpec := { name := "wordMends", fn := fun _ => fun
  | [d1, d2, d3] => { results := [.lit (.bool false)], args := [d1, d2, d3] }
  | _ => none }
def WordMendsWrongFalsely : Prop := wordMendsRow.holds Try.pinned (OpenSpec.ofChange wordMendsWrong)

/-- 'supercargolaw.WordAll': WHATEVER THE INPUT: true; the input reads as it did. -/
def wordAllSpec : ChangeSpec := { name := "wordAll", fn := fun _ => fun
  | [d1, d2] => { results := [.lit (.bool true)], args := [d1, d2] }
  | _ => none }
def wordAllRow : OpenClaim := { program := "ytimomnfobfjggaa", sum := "0bd08b8fc2600a1cc76198612eaa75c606b5dbec7335a45dcb0d0ea0255e9a5d", func := "supercargo/supercargolaw.WordAll", spec := "wordAll", inPlace := ["internal/abi.NoEscape"], unfollowed := true, recurses := true, apart := false }
def WordAllSaid : Prop := wordAllRow.holds Try.pinned (OpenSpec.ofChange wordAllSpec)

/-- ITS FALSE NEIGHBOUR: 'it returns false'. Refute it at one input. -/
def wordAllWrong : ChangeSpec := { name := "wordAll", fn := fun _ => fun
  | [d1, d2] => { results := [.lit (.bool false)], args := [d1, d2] }
  | _ => none }
def WordAllWrongFalsely : Prop := wordAllRow.holds Try.pinned (OpenSpec.ofChange wordAllWrong)

/-- 'supercargolaw.WordOnly': WHATEVER THE INPUT: true; the input reads as it did. -/
def wordOnlySpec : ChangeSpec := { name := "wordOnly", fn := fun _ => fun
  | [d] => { results := [.lit (.bool true)], args := [d] }
  | _ => none }
def wordOnlyRow : OpenClaim := { program := "ytimomnfobfjggaa", sum := "0bd08b8fc2600a1cc76198612eaa75c606b5dbec7335a45dcb0d0ea0255e9a5d", func := "supercargo/supercargolaw.WordOnly", spec := "wordOnly", inPlace := ["internal/abi.NoEscape"], unfollowed := true, recurses := true, apart := false }
def WordOnlySaid : Prop := wordOnlyRow.holds Try.pinned (OpenSpec.ofChange wordOnlySpec)

/-- ITS FALSE NEIGHBOUR: 'it returns false'. Refute it at one input. -/
def wordOnlyWrong : ChangeSpec := { name := "wordOnly", fn := fun _ => fun
  | [d] => { results := [.lit (.bool false)], args := [d] }
  | _ => none }
def WordOnlyWrongFalsely : Prop := wordOnlyRow.holds Try.pinned (OpenSpec.ofChange wordOnlyWrong)

/- THE SECOND FORM. 'bulk': how many values and letters a reading holds, each counted each time it is reached (what is shared counts as often as it is met; a slice's spare places count too). A statement '..UptoSaid' is the law's where the arguments, and the package variables that the reading takes, are together of bulk at most 1048576: NARROWER than '..Said'. Prove '..Said' where nothing that the law and all that it calls make is longer than what came in: it says more and counts as full. Else prove '..UptoSaid'. A law counts once. -/
mutual
def uptoBulk {H : Type} : DataW H → Nat
  | .lit (.string bytes) => bytes.length + 1
  | .lit _ => 1
  | .nil => 1
  | .ptr d => uptoBulk d + 1
  | .slice elems spare => uptoBulkAll elems + uptoBulkAll spare + 1
  | .agg parts => uptoBulkAll parts + 1
  | .iface _ d => uptoBulk d + 1
  | .map entries => uptoBulkEntries entries + 1
  | .held _ => 1
def uptoBulkAll {H : Type} : List (DataW H) → Nat
  | [] => 0
  | d :: r => uptoBulk d + uptoBulkAll r
def uptoBulkEntries {H : Type} : List (Lit × DataW H) → Nat
  | [] => 0
  | x :: r => uptoBulkEntry x + uptoBulkEntries r
def uptoBulkEntry {H : Type} : Lit × DataW H → Nat
  | (.string bytes, d) => bytes.length + uptoBulk d + 1
  | (_, d) => uptoBulk d + 1
 end
def uptoSmall : (H : Type) → List (DataW H) → Bool := fun _ ds => decide (uptoBulkAll ds ≤ 1048576)
def OpenSpec.upto (s : _root_.Go.ChangeSpec) : _root_.Go.OpenSpec := { _root_.Go.OpenSpec.ofChange s with cond := some uptoSmall }

/-- 'supercargolaw.WordMends', WHERE WHAT IT READS IS OF BULK AT MOST 1048576: true; the input reads as it did. -/
def wordMendsUptoRow : OpenClaim := { program := "ytimomnfobfjggaa", sum := "0bd08b8fc2600a1cc76198612eaa75c606b5dbec7335a45dcb0d0ea0255e9a5d", func := "supercargo/supercargolaw.WordMends", spec := "wordMends", inPlace := ["internal/abi.NoEscape"], unfollowed := true, recurses := true, apart := false, narrowed := true }
def WordMendsUptoSaid : Prop := wordMendsUptoRow.holds Try.pinned (OpenSpec.upto wordMendsSpec)

/-- 'supercargolaw.WordAll', WHERE WHAT IT READS IS OF BULK AT MOST 1048576: true; the input reads as it did. -/
def wordAllUptoRow : OpenClaim := { program := "ytimomnfobfjggaa", sum := "0bd08b8fc2600a1cc76198612eaa75c606b5dbec7335a45dcb0d0ea0255e9a5d", func := "supercargo/supercargolaw.WordAll", spec := "wordAll", inPlace := ["internal/abi.NoEscape"], unfollowed := true, recurses := true, apart := false, narrowed := true }
def WordAllUptoSaid : Prop := wordAllUptoRow.holds Try.pinned (OpenSpec.upto wordAllSpec)

/-- 'supercargolaw.WordOnly', WHERE WHAT IT READS IS OF BULK AT MOST 1048576: true; the input reads as it did. -/
def wordOnlyUptoRow : OpenClaim := { program := "ytimomnfobfjggaa", sum := "0bd08b8fc2600a1cc76198612eaa75c606b5dbec7335a45dcb0d0ea0255e9a5d", func := "supercargo/supercargolaw.WordOnly", spec := "wordOnly", inPlace := ["internal/abi.NoEscape"], unfollowed := true, recurses := true, apart := false, narrowed := true }
def WordOnlyUptoSaid : Prop := wordOnlyUptoRow.holds Try.pinned (OpenSpec.upto wordOnlySpec)

end Rows
end Go.Proofs.Ytimomnfobfjggaa
