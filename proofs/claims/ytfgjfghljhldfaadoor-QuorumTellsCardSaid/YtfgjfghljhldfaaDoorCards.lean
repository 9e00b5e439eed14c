/-
  DERIVED. GIVEN WITH THE SEED: THE CARDS: each row of YtfgjfghljhldfaaDoorRows.lean that lists a variable, with what it lists TIED to the program's text (the seventh form; the later family's looks); each row that meets fmt, with fmt's text TOLD by the authors' own Lean function (tested against real Go, not proved from fmt's source: count such statements apart). THE CARD IS WHAT COUNTS. Prove the row's statement (the work); the ties are given (YtfgjfghljhldfaaDoorTie.lean); close each card by the builder's one call (the guide's Derived/Test/ToyasCard.lean, 'card_holds'). Laid BY PROGRAM, IN A SANDBOX (cutbox-door.mjs). By AI agents, Wed Nov 11 2026. No macro, syntax, notation, axiom, sorry.
-/
import Derived.Test.YtfgjfghljhldfaaDoorRows
import GoSem.ClaimSeven
namespace Go.Proofs.YtfgjfghljhldfaaDoor
namespace Rows

/-- THE TIED CARD OF 'supercargolaw.QuorumTells'. -/
def quorumTellsCard : Claim7 := { stood := { row := quorumTellsRow, standIns := [], harness := (true, "4e0091b368fd50dbe6aea04a975ad067ec1fbf576cf131f96a83b4fbf0e1ad13"), looks := false }, kinds := [], alts := [], laidByText := true, laidKinds := [.data], laidTests := true, laidLooks := .later }
def QuorumTellsCardSaid : Prop := Claim7.holds Tryd.pinned (.plain (OpenSpec.ofChange quorumTellsSpec)) quorumTellsCard

/-- THE TIED CARD OF 'supercargolaw.QuorumShares'. -/
def quorumSharesCard : Claim7 := { stood := { row := quorumSharesRow, standIns := [], harness := (true, "4e0091b368fd50dbe6aea04a975ad067ec1fbf576cf131f96a83b4fbf0e1ad13"), looks := false }, kinds := [], alts := [], laidByText := true, laidKinds := [.data], laidTests := true, laidLooks := .later }
def QuorumSharesCardSaid : Prop := Claim7.holds Tryd.pinned (.plain (OpenSpec.ofChange quorumSharesSpec)) quorumSharesCard

/-- THE TIED CARD OF 'supercargolaw.QuorumRises'. -/
def quorumRisesCard : Claim7 := { stood := { row := quorumRisesRow, standIns := [], harness := (true, "4e0091b368fd50dbe6aea04a975ad067ec1fbf576cf131f96a83b4fbf0e1ad13"), looks := false }, kinds := [], alts := [], laidByText := true, laidKinds := [.data], laidTests := true, laidLooks := .later }
def QuorumRisesCardSaid : Prop := Claim7.holds Tryd.pinned (.plain (OpenSpec.ofChange quorumRisesSpec)) quorumRisesCard

/-- THE TIED CARD OF 'supercargolaw.QuorumSpare'. -/
def quorumSpareCard : Claim7 := { stood := { row := quorumSpareRow, standIns := [], harness := (true, "4e0091b368fd50dbe6aea04a975ad067ec1fbf576cf131f96a83b4fbf0e1ad13"), looks := false }, kinds := [], alts := [], laidByText := true, laidKinds := [.data], laidTests := true, laidLooks := .later }
def QuorumSpareCardSaid : Prop := Claim7.holds Tryd.pinned (.plain (OpenSpec.ofChange quorumSpareSpec)) quorumSpareCard

/-- THE TIED CARD OF 'supercargolaw.QuorumEven'. -/
def quorumEvenCard : Claim7 := { stood := { row := quorumEvenRow, standIns := [], harness := (true, "4e0091b368fd50dbe6aea04a975ad067ec1fbf576cf131f96a83b4fbf0e1ad13"), looks := false }, kinds := [], alts := [], laidByText := true, laidKinds := [.data], laidTests := true, laidLooks := .later }
def QuorumEvenCardSaid : Prop := Claim7.holds Tryd.pinned (.plain (OpenSpec.ofChange quorumEvenSpec)) quorumEvenCard

/-- THE TIED CARD OF 'supercargolaw.QuorumDual'. -/
def quorumDualCard : Claim7 := { stood := { row := quorumDualRow, standIns := [], harness := (true, "4e0091b368fd50dbe6aea04a975ad067ec1fbf576cf131f96a83b4fbf0e1ad13"), looks := false }, kinds := [], alts := [], laidByText := true, laidKinds := [.data], laidTests := true, laidLooks := .later }
def QuorumDualCardSaid : Prop := Claim7.holds Tryd.pinned (.plain (OpenSpec.ofChange quorumDualSpec)) quorumDualCard

/-- THE SECOND FORM's CARD OF 'supercargolaw.QuorumTells'. -/
def quorumTellsUptoCard : Claim7 := { stood := { row := quorumTellsUptoRow, standIns := [], harness := (true, "4e0091b368fd50dbe6aea04a975ad067ec1fbf576cf131f96a83b4fbf0e1ad13"), looks := false }, kinds := [], alts := [], laidByText := true, laidKinds := [.data], laidTests := true, laidLooks := .later }
def QuorumTellsUptoCardSaid : Prop := Claim7.holds Tryd.pinned (.plain (OpenSpec.upto quorumTellsSpec)) quorumTellsUptoCard

/-- THE SECOND FORM's CARD OF 'supercargolaw.QuorumShares'. -/
def quorumSharesUptoCard : Claim7 := { stood := { row := quorumSharesUptoRow, standIns := [], harness := (true, "4e0091b368fd50dbe6aea04a975ad067ec1fbf576cf131f96a83b4fbf0e1ad13"), looks := false }, kinds := [], alts := [], laidByText := true, laidKinds := [.data], laidTests := true, laidLooks := .later }
def QuorumSharesUptoCardSaid : Prop := Claim7.holds Tryd.pinned (.plain (OpenSpec.upto quorumSharesSpec)) quorumSharesUptoCard

/-- THE SECOND FORM's CARD OF 'supercargolaw.QuorumRises'. -/
def quorumRisesUptoCard : Claim7 := { stood := { row := quorumRisesUptoRow, standIns := [], harness := (true, "4e0091b368fd50dbe6aea04a975ad067ec1fbf576cf131f96a83b4fbf0e1ad13"), looks := false }, kinds := [], alts := [], laidByText := true, laidKinds := [.data], laidTests := true, laidLooks := .later }
def QuorumRisesUptoCardSaid : Prop := Claim7.holds Tryd.pinned (.plain (OpenSpec.upto quorumRisesSpec)) quorumRisesUptoCard

/-- THE SECOND FORM's CARD OF 'supercargolaw.QuorumSpare'. -/
def quorumSpareUptoCard : Claim7 := { stood := { row := quorumSpareUptoRow, standIns := [], harness := (true, "4e0091b368fd50dbe6aea04a975ad067ec1fbf576cf131f96a83b4fbf0e1ad13"), looks := false }, kinds := [], alts := [], laidByText := true, laidKinds := [.data], laidTests := true, laidLooks := .later }
def QuorumSpareUptoCardSaid : Prop := Claim7.holds Tryd.pinned (.plain (OpenSpec.upto quorumSpareSpec)) quorumSpareUptoCard

/-- THE SECOND FORM's CARD OF 'supercargolaw.QuorumEven'. -/
def quorumEvenUptoCard : Claim7 := { stood := { row := quorumEvenUptoRow, standIns := [], harness := (true, "4e0091b368fd50dbe6aea04a975ad067ec1fbf576cf131f96a83b4fbf0e1ad13"), looks := false }, kinds := [], alts := [], laidByText := true, laidKinds := [.data], laidTests := true, laidLooks := .later }
def QuorumEvenUptoCardSaid : Prop := Claim7.holds Tryd.pinned (.plain (OpenSpec.upto quorumEvenSpec)) quorumEvenUptoCard

/-- THE SECOND FORM's CARD OF 'supercargolaw.QuorumDual'. -/
def quorumDualUptoCard : Claim7 := { stood := { row := quorumDualUptoRow, standIns := [], harness := (true, "4e0091b368fd50dbe6aea04a975ad067ec1fbf576cf131f96a83b4fbf0e1ad13"), looks := false }, kinds := [], alts := [], laidByText := true, laidKinds := [.data], laidTests := true, laidLooks := .later }
def QuorumDualUptoCardSaid : Prop := Claim7.holds Tryd.pinned (.plain (OpenSpec.upto quorumDualSpec)) quorumDualUptoCard
end Rows
end Go.Proofs.YtfgjfghljhldfaaDoor
