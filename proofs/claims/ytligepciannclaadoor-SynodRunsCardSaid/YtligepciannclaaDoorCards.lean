/-
  DERIVED. GIVEN WITH THE SEED: THE CARDS: each row of YtligepciannclaaDoorRows.lean that lists a variable, with what it lists TIED to the program's text (the seventh form; the later family's looks); each row that meets fmt, with fmt's text TOLD by the authors' own Lean function (tested against real Go, not proved from fmt's source: count such statements apart). THE CARD IS WHAT COUNTS. Prove the row's statement (the work); the ties are given (YtligepciannclaaDoorTie.lean); close each card by the builder's one call (the guide's Derived/Test/ToyasCard.lean, 'card_holds'). Laid BY PROGRAM, IN A SANDBOX (cutbox-door.mjs). By AI agents, Wed Nov 11 2026. No macro, syntax, notation, axiom, sorry.
-/
import Derived.Test.YtligepciannclaaDoorRows
import GoSem.ClaimSeven
namespace Go.Proofs.YtligepciannclaaDoor
namespace Rows

/-- THE TIED CARD OF 'supercargolaw.SynodTells'. -/
def synodTellsCard : Claim7 := { stood := { row := synodTellsRow, standIns := [], harness := (true, "cb5fefe2008e8336ea9f5d78b4e645a098888375547093116390ebfe8b58d892"), looks := false }, kinds := [], alts := [], laidByText := true, laidKinds := [.data], laidTests := true, laidLooks := .later }
def SynodTellsCardSaid : Prop := Claim7.holds Tryd.pinned (.plain (OpenSpec.ofChange synodTellsSpec)) synodTellsCard

/-- THE TIED CARD OF 'supercargolaw.SynodRuns'. -/
def synodRunsCard : Claim7 := { stood := { row := synodRunsRow, standIns := [], harness := (true, "cb5fefe2008e8336ea9f5d78b4e645a098888375547093116390ebfe8b58d892"), looks := false }, kinds := [], alts := [], laidByText := true, laidKinds := [.data], laidTests := true, laidLooks := .later }
def SynodRunsCardSaid : Prop := Claim7.holds Tryd.pinned (.plain (OpenSpec.ofChange synodRunsSpec)) synodRunsCard

/-- THE TIED CARD OF 'supercargolaw.SynodAgrees'. -/
def synodAgreesCard : Claim7 := { stood := { row := synodAgreesRow, standIns := [], harness := (true, "cb5fefe2008e8336ea9f5d78b4e645a098888375547093116390ebfe8b58d892"), looks := false }, kinds := [], alts := [], laidByText := true, laidKinds := [.data], laidTests := true, laidLooks := .later }
def SynodAgreesCardSaid : Prop := Claim7.holds Tryd.pinned (.plain (OpenSpec.ofChange synodAgreesSpec)) synodAgreesCard

/-- THE TIED CARD OF 'supercargolaw.SynodValid'. -/
def synodValidCard : Claim7 := { stood := { row := synodValidRow, standIns := [], harness := (true, "cb5fefe2008e8336ea9f5d78b4e645a098888375547093116390ebfe8b58d892"), looks := false }, kinds := [], alts := [], laidByText := true, laidKinds := [.data], laidTests := true, laidLooks := .later }
def SynodValidCardSaid : Prop := Claim7.holds Tryd.pinned (.plain (OpenSpec.ofChange synodValidSpec)) synodValidCard

/-- THE TIED CARD OF 'supercargolaw.SynodLater'. -/
def synodLaterCard : Claim7 := { stood := { row := synodLaterRow, standIns := [], harness := (true, "cb5fefe2008e8336ea9f5d78b4e645a098888375547093116390ebfe8b58d892"), looks := false }, kinds := [], alts := [], laidByText := true, laidKinds := [.data], laidTests := true, laidLooks := .later }
def SynodLaterCardSaid : Prop := Claim7.holds Tryd.pinned (.plain (OpenSpec.ofChange synodLaterSpec)) synodLaterCard

/-- THE TIED CARD OF 'supercargolaw.SynodKept'. -/
def synodKeptCard : Claim7 := { stood := { row := synodKeptRow, standIns := [], harness := (true, "cb5fefe2008e8336ea9f5d78b4e645a098888375547093116390ebfe8b58d892"), looks := false }, kinds := [], alts := [], laidByText := true, laidKinds := [.data], laidTests := true, laidLooks := .later }
def SynodKeptCardSaid : Prop := Claim7.holds Tryd.pinned (.plain (OpenSpec.ofChange synodKeptSpec)) synodKeptCard

/-- THE TIED CARD OF 'supercargolaw.SynodStays'. -/
def synodStaysCard : Claim7 := { stood := { row := synodStaysRow, standIns := [], harness := (true, "cb5fefe2008e8336ea9f5d78b4e645a098888375547093116390ebfe8b58d892"), looks := false }, kinds := [], alts := [], laidByText := true, laidKinds := [.data], laidTests := true, laidLooks := .later }
def SynodStaysCardSaid : Prop := Claim7.holds Tryd.pinned (.plain (OpenSpec.ofChange synodStaysSpec)) synodStaysCard

/-- THE TIED CARD OF 'supercargolaw.SynodPromise'. -/
def synodPromiseCard : Claim7 := { stood := { row := synodPromiseRow, standIns := [], harness := (true, "cb5fefe2008e8336ea9f5d78b4e645a098888375547093116390ebfe8b58d892"), looks := false }, kinds := [], alts := [], laidByText := true, laidKinds := [.data], laidTests := true, laidLooks := .later }
def SynodPromiseCardSaid : Prop := Claim7.holds Tryd.pinned (.plain (OpenSpec.ofChange synodPromiseSpec)) synodPromiseCard

/-- THE TIED CARD OF 'supercargolaw.SynodLives'. -/
def synodLivesCard : Claim7 := { stood := { row := synodLivesRow, standIns := [], harness := (true, "cb5fefe2008e8336ea9f5d78b4e645a098888375547093116390ebfe8b58d892"), looks := false }, kinds := [], alts := [], laidByText := true, laidKinds := [.data], laidTests := true, laidLooks := .later }
def SynodLivesCardSaid : Prop := Claim7.holds Tryd.pinned (.plain (OpenSpec.ofChange synodLivesSpec)) synodLivesCard

/-- THE SECOND FORM's CARD OF 'supercargolaw.SynodTells'. -/
def synodTellsUptoCard : Claim7 := { stood := { row := synodTellsUptoRow, standIns := [], harness := (true, "cb5fefe2008e8336ea9f5d78b4e645a098888375547093116390ebfe8b58d892"), looks := false }, kinds := [], alts := [], laidByText := true, laidKinds := [.data], laidTests := true, laidLooks := .later }
def SynodTellsUptoCardSaid : Prop := Claim7.holds Tryd.pinned (.plain (OpenSpec.upto synodTellsSpec)) synodTellsUptoCard

/-- THE SECOND FORM's CARD OF 'supercargolaw.SynodRuns'. -/
def synodRunsUptoCard : Claim7 := { stood := { row := synodRunsUptoRow, standIns := [], harness := (true, "cb5fefe2008e8336ea9f5d78b4e645a098888375547093116390ebfe8b58d892"), looks := false }, kinds := [], alts := [], laidByText := true, laidKinds := [.data], laidTests := true, laidLooks := .later }
def SynodRunsUptoCardSaid : Prop := Claim7.holds Tryd.pinned (.plain (OpenSpec.upto synodRunsSpec)) synodRunsUptoCard

/-- THE SECOND FORM's CARD OF 'supercargolaw.SynodAgrees'. -/
def synodAgreesUptoCard : Claim7 := { stood := { row := synodAgreesUptoRow, standIns := [], harness := (true, "cb5fefe2008e8336ea9f5d78b4e645a098888375547093116390ebfe8b58d892"), looks := false }, kinds := [], alts := [], laidByText := true, laidKinds := [.data], laidTests := true, laidLooks := .later }
def SynodAgreesUptoCardSaid : Prop := Claim7.holds Tryd.pinned (.plain (OpenSpec.upto synodAgreesSpec)) synodAgreesUptoCard

/-- THE SECOND FORM's CARD OF 'supercargolaw.SynodValid'. -/
def synodValidUptoCard : Claim7 := { stood := { row := synodValidUptoRow, standIns := [], harness := (true, "cb5fefe2008e8336ea9f5d78b4e645a098888375547093116390ebfe8b58d892"), looks := false }, kinds := [], alts := [], laidByText := true, laidKinds := [.data], laidTests := true, laidLooks := .later }
def SynodValidUptoCardSaid : Prop := Claim7.holds Tryd.pinned (.plain (OpenSpec.upto synodValidSpec)) synodValidUptoCard

/-- THE SECOND FORM's CARD OF 'supercargolaw.SynodLater'. -/
def synodLaterUptoCard : Claim7 := { stood := { row := synodLaterUptoRow, standIns := [], harness := (true, "cb5fefe2008e8336ea9f5d78b4e645a098888375547093116390ebfe8b58d892"), looks := false }, kinds := [], alts := [], laidByText := true, laidKinds := [.data], laidTests := true, laidLooks := .later }
def SynodLaterUptoCardSaid : Prop := Claim7.holds Tryd.pinned (.plain (OpenSpec.upto synodLaterSpec)) synodLaterUptoCard

/-- THE SECOND FORM's CARD OF 'supercargolaw.SynodKept'. -/
def synodKeptUptoCard : Claim7 := { stood := { row := synodKeptUptoRow, standIns := [], harness := (true, "cb5fefe2008e8336ea9f5d78b4e645a098888375547093116390ebfe8b58d892"), looks := false }, kinds := [], alts := [], laidByText := true, laidKinds := [.data], laidTests := true, laidLooks := .later }
def SynodKeptUptoCardSaid : Prop := Claim7.holds Tryd.pinned (.plain (OpenSpec.upto synodKeptSpec)) synodKeptUptoCard

/-- THE SECOND FORM's CARD OF 'supercargolaw.SynodStays'. -/
def synodStaysUptoCard : Claim7 := { stood := { row := synodStaysUptoRow, standIns := [], harness := (true, "cb5fefe2008e8336ea9f5d78b4e645a098888375547093116390ebfe8b58d892"), looks := false }, kinds := [], alts := [], laidByText := true, laidKinds := [.data], laidTests := true, laidLooks := .later }
def SynodStaysUptoCardSaid : Prop := Claim7.holds Tryd.pinned (.plain (OpenSpec.upto synodStaysSpec)) synodStaysUptoCard

/-- THE SECOND FORM's CARD OF 'supercargolaw.SynodPromise'. -/
def synodPromiseUptoCard : Claim7 := { stood := { row := synodPromiseUptoRow, standIns := [], harness := (true, "cb5fefe2008e8336ea9f5d78b4e645a098888375547093116390ebfe8b58d892"), looks := false }, kinds := [], alts := [], laidByText := true, laidKinds := [.data], laidTests := true, laidLooks := .later }
def SynodPromiseUptoCardSaid : Prop := Claim7.holds Tryd.pinned (.plain (OpenSpec.upto synodPromiseSpec)) synodPromiseUptoCard

/-- THE SECOND FORM's CARD OF 'supercargolaw.SynodLives'. -/
def synodLivesUptoCard : Claim7 := { stood := { row := synodLivesUptoRow, standIns := [], harness := (true, "cb5fefe2008e8336ea9f5d78b4e645a098888375547093116390ebfe8b58d892"), looks := false }, kinds := [], alts := [], laidByText := true, laidKinds := [.data], laidTests := true, laidLooks := .later }
def SynodLivesUptoCardSaid : Prop := Claim7.holds Tryd.pinned (.plain (OpenSpec.upto synodLivesSpec)) synodLivesUptoCard
end Rows
end Go.Proofs.YtligepciannclaaDoor
