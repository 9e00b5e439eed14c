/-
  No cell of these rows narrows 'for every input' (looked for: loops, veiled, ifaces, maps, wideKeys, modest, calm, conditions, laid).
  DERIVED. THE GIVEN ROWS OF THIS SEAT. 5 by the template 'for every input the law returns true; each argument reads behind the call as it read before'; 0 by the template 'total and deterministic' (their statements: YtlkiabiphggmgaaTotals.lean).
  GIVEN WITH THE SEED: the statements are not yours to turn. If you find one false, say at which input.
  Laid BY PROGRAM, IN A SANDBOX (cutbox-rows.mjs): the forced cells as the released guide's own fill.sh prints them over the translation 74c604d4abab3472… (all of the seat's roots in one cut). By AI agents, Wed Nov 11 2026. No macro, syntax, notation, axiom, sorry.
-/
import Derived.Test.YtlkiabiphggmgaaChecked
import GoSem.Claim
import GoSem.ClaimJoined
import GoSem.ClaimMapViews
import Derived.JoinedTies
import Derived.KernelRfl
namespace Go.Proofs.Ytlkiabiphggmgaa
/- THE CELL 'sum', in the pinned program and in every row, IS THE sha256 OF THE DUMP (.gsa) THAT YtlkiabiphggmgaaProg.lean LOADS. Nothing in Lean hashes anything: it is a label: what it is worth is what the hold of that sum in a sandbox is worth. -/
noncomputable def Try.pinned : Pinned := { name := "ytlkiabiphggmgaa", sum := "74c604d4abab347273cd187ee0697734b1756a73e9cf601357ff605f9d02b113", checked := Try.checked }
namespace Rows
def none {H : Type} : Left H := { results := [], args := [] }

/-- 'supercargolaw.EpochTells': WHATEVER THE INPUT: true; the input reads as it did. -/
def epochTellsSpec : ChangeSpec := { name := "epochTells", fn := fun _ => fun
  | [d1, d2, d3, d4, d5] => { results := [.lit (.bool true)], args := [d1, d2, d3, d4, d5] }
  | _ => none }
def epochTellsRow : OpenClaim := { program := "ytlkiabiphggmgaa", sum := "74c604d4abab347273cd187ee0697734b1756a73e9cf601357ff605f9d02b113", func := "supercargo/supercargolaw.EpochTells", spec := "epochTells", unfollowed := true, recurses := true, apart := false }
def EpochTellsSaid : Prop := epochTellsRow.holds Try.pinned (OpenSpec.ofChange epochTellsSpec)

/-- ITS FALSE NEIGHBOUR: 'it returns false'. Refute it at one input. -/
def epochTellsWrong : ChangeSpec := { name := "epochTells", fn := fun _ => fun
  | [d1, d2, d3, d4, d5] => { results := [.lit (.bool false)], args := [d1, d2, d3, d4, d5] }
  | _ => none }
def EpochTellsWrongFalsely : Prop := epochTellsRow.holds Try.pinned (OpenSpec.ofChange epochTellsWrong)

/-- 'supercargolaw.EpochShares': WHATEVER THE INPUT: true; the input reads as it did. -/
def epochSharesSpec : ChangeSpec := { name := "epochShares", fn := fun _ => fun
  | [d1, d2, d3, d4] => { results := [.lit (.bool true)], args := [d1, d2, d3, d4] }
  | _ => none }
def epochSharesRow : OpenClaim := { program := "ytlkiabiphggmgaa", sum := "74c604d4abab347273cd187ee0697734b1756a73e9cf601357ff605f9d02b113", func := "supercargo/supercargolaw.EpochShares", spec := "epochShares", unfollowed := true, recurses := true, apart := false }
def EpochSharesSaid : Prop := epochSharesRow.holds Try.pinned (OpenSpec.ofChange epochSharesSpec)

/-- ITS FALSE NEIGHBOUR: 'it returns false'. Refute it at one input. -/
def epochSharesWrong : ChangeSpec := { name := "epochShares", fn := fun _ => fun
  | [d1, d2, d3, d4] => { results := [.lit (.bool false)], args := [d1, d2, d3, d4] }
  | _ => none }
def EpochSharesWrongFalsely : Prop := epochSharesRow.holds Try.pinned (OpenSpec.ofChange epochSharesWrong)

/-- 'supercargolaw.EpochTurns': WHATEVER THE INPUT: true; the input reads as it did. -/
def epochTurnsSpec : ChangeSpec := { name := "epochTurns", fn := fun _ => fun
  | [d1, d2] => { results := [.lit (.bool true)], args := [d1, d2] }
  | _ => none }
def epochTurnsRow : OpenClaim := { program := "ytlkiabiphggmgaa", sum := "74c604d4abab347273cd187ee0697734b1756a73e9cf601357ff605f9d02b113", func := "supercargo/supercargolaw.EpochTurns", spec := "epochTurns", unfollowed := true, recurses := true, apart := false }
def EpochTurnsSaid : Prop := epochTurnsRow.holds Try.pinned (OpenSpec.ofChange epochTurnsSpec)

/-- ITS FALSE NEIGHBOUR: 'it returns false'. Refute it at one input. -/
def epochTurnsWrong : ChangeSpec := { name := "epochTurns", fn := fun _ => fun
  | [d1, d2] => { results := [.lit (.bool false)], args := [d1, d2] }
  | _ => none }
def EpochTurnsWrongFalsely : Prop := epochTurnsRow.holds Try.pinned (OpenSpec.ofChange epochTurnsWrong)

/-- 'supercargolaw.EpochMajor': WHATEVER THE INPUT: true; the input reads as it did. -/
def epochMajorSpec : ChangeSpec := { name := "epochMajor", fn := fun _ => fun
  | [d1, d2, d3] => { results := [.lit (.bool true)], args := [d1, d2, d3] }
  | _ => none }
def epochMajorRow : OpenClaim := { program := "ytlkiabiphggmgaa", sum := "74c604d4abab347273cd187ee0697734b1756a73e9cf601357ff605f9d02b113", func := "supercargo/supercargolaw.EpochMajor", spec := "epochMajor", unfollowed := true, recurses := true, apart := false }
def EpochMajorSaid : Prop := epochMajorRow.holds Try.pinned (OpenSpec.ofChange epochMajorSpec)

/-- ITS FALSE NEIGHBOUR: 'it returns false'. Refute it at one input. -/
def epochMajorWrong : ChangeSpec := { name := "epochMajor", fn := fun _ => fun
  | [d1, d2, d3] => { results := [.lit (.bool false)], args := [d1, d2, d3] }
  | _ => none }
def EpochMajorWrongFalsely : Prop := epochMajorRow.holds Try.pinned (OpenSpec.ofChange epochMajorWrong)

/-- 'supercargolaw.EpochCommon': WHATEVER THE INPUT: true; the input reads as it did. -/
def epochCommonSpec : ChangeSpec := { name := "epochCommon", fn := fun _ => fun
  | [d1, d2, d3] => { results := [.lit (.bool true)], args := [d1, d2, d3] }
  | _ => none }
def epochCommonRow : OpenClaim := { program := "ytlkiabiphggmgaa", sum := "74c604d4abab347273cd187ee0697734b1756a73e9cf601357ff605f9d02b113", func := "supercargo/supercargolaw.EpochCommon", spec := "epochCommon", unfollowed := true, recurses := true, apart := false }
def EpochCommonSaid : Prop := epochCommonRow.holds Try.pinned (OpenSpec.ofChange epochCommonSpec)

/-- ITS FALSE NEIGHBOUR: 'it returns false'. Refute it at one input. -/
def epochCommonWrong : ChangeSpec := { name := "epochCommon", fn := fun _ => fun
  | [d1, d2, d3] => { results := [.lit (.bool false)], args := [d1, d2, d3] }
  | _ => none }
def EpochCommonWrongFalsely : Prop := epochCommonRow.holds Try.pinned (OpenSpec.ofChange epochCommonWrong)

/- THE SECOND FORM. 'bulk': how many values and letters a reading holds, each counted each time it is reached (what is shared counts as often as it is met; a slice's spare places count too). A statement '..UptoSaid' is the law's where the arguments, and the package variables that the reading takes, are together of bulk at most 1048576: NARROWER than '..Said'. Prove '..Said' where nothing that the law and all that it calls make is longer than what came in: it says more and counts as full. Else prove '..UptoSaid'. A law counts once. -/
mutual
def uptoBulk {H : Type} : DataW H → Nat
  | .lit (.string bytes) => bytes.length + 1
  | .lit _ => 1
  | .nil => 1
  | .ptr d => uptoBulk d + 1
  | .slice elems spare => uptoBulkAll elems + uptoBulkAll spare + 1
  | .agg parts => uptoBulkAll parts + 1
  | .iface _ d => uptoBulk d + 1
  | .map entries => uptoBulkEntries entries + 1
  | .held _ => 1
def uptoBulkAll {H : Type} : List (DataW H) → Nat
  | [] => 0
  | d :: r => uptoBulk d + uptoBulkAll r
def uptoBulkEntries {H : Type} : List (Lit × DataW H) → Nat
  | [] => 0
  | x :: r => uptoBulkEntry x + uptoBulkEntries r
def uptoBulkEntry {H : Type} : Lit × DataW H → Nat
  | (.string bytes, d) => bytes.length + uptoBulk d + 1
  | (_, d) => uptoBulk d + 1
 end
def uptoSmall : (H : Type) → List (DataW H) → Bool := fun _ ds => decide (uptoBulkAll ds ≤ 1048576)
def OpenSpec.upto (s : _root_.Go.ChangeSpec) : _root_.Go.OpenSpec := { _root_.Go.OpenSpec.ofChange s with cond := some uptoSmall }

/-- 'supercargolaw.EpochTells', WHERE WHAT IT READS IS OF BULK AT MOST 1048576: true; the input reads as it did. -/
def epochTellsUptoRow : OpenClaim := { program := "ytlkiabiphggmgaa", sum := "74c604d4abab347273cd187ee0697734b1756a73e9cf601357ff605f9d02b113", func := "supercargo/supercargolaw.EpochTells", spec := "epochTells", unfollowed := true, recurses := true, apart := false, narrowed := true }
def EpochTellsUptoSaid : Prop := epochTellsUptoRow.holds Try.pinned (OpenSpec.upto epochTellsSpec)

/-- 'supercargolaw.EpochShares', WHERE WHAT IT READS IS OF BULK AT MOST 1048576: true; the input reads as it did. -/
def epochSharesUptoRow : OpenClaim := { program := "ytlkiabiphggmgaa", sum := "74c604d4abab347273cd187ee0697734b1756a73e9cf601357ff605f9d02b113", func := "supercargo/supercargolaw.EpochShares", spec := "epochShares", unfollowed := true, recurses := true, apart := false, narrowed := true }
def EpochSharesUptoSaid : Prop := epochSharesUptoRow.holds Try.pinned (OpenSpec.upto epochSharesSpec)

/-- 'supercargolaw.EpochTurns', WHERE WHAT IT READS IS OF BULK AT MOST 1048576: true; the input reads as it did. -/
def epochTurnsUptoRow : OpenClaim := { program := "ytlkiabiphggmgaa", sum := "74c604d4abab347273cd187ee0697734b1756a73e9cf601357ff605f9d02b113", func := "supercargo/supercargolaw.EpochTurns", spec := "epochTurns", unfollowed := true, recurses := true, apart := false, narrowed := true }
def EpochTurnsUptoSaid : Prop := epochTurnsUptoRow.holds Try.pinned (OpenSpec.upto epochTurnsSpec)

/-- 'supercargolaw.EpochMajor', WHERE WHAT IT READS IS OF BULK AT MOST 1048576: true; the input reads as it did. -/
def epochMajorUptoRow : OpenClaim := { program := "ytlkiabiphggmgaa", sum := "74c604d4abab347273cd187ee0697734b1756a73e9cf601357ff605f9d02b113", func := "supercargo/supercargolaw.EpochMajor", spec := "epochMajor", unfollowed := true, recurses := true, apart := false, narrowed := true }
def EpochMajorUptoSaid : Prop := epochMajorUptoRow.holds Try.pinned (OpenSpec.upto epochMajorSpec)

/-- 'supercargolaw.EpochCommon', WHERE WHAT IT READS IS OF BULK AT MOST 1048576: true; the input reads as it did. -/
def epochCommonUptoRow : OpenClaim := { program := "ytlkiabiphggmgaa", sum := "74c604d4abab347273cd187ee0697734b1756a73e9cf601357ff605f9d02b113", func := "supercargo/supercargolaw.EpochCommon", spec := "epochCommon", unfollowed := true, recurses := true, apart := false, narrowed := true }
def EpochCommonUptoSaid : Prop := epochCommonUptoRow.holds Try.pinned (OpenSpec.upto epochCommonSpec)

end Rows
end Go.Proofs.Ytlkiabiphggmgaa
