/-
  DERIVED. GIVEN WITH THE SEED: THE CARDS: each row of YtejilglnpdjepaaDoorRows.lean that lists a variable, with what it lists TIED to the program's text (the seventh form; the later family's looks); each row that meets fmt, with fmt's text TOLD by the authors' own Lean function (tested against real Go, not proved from fmt's source: count such statements apart). THE CARD IS WHAT COUNTS. Prove the row's statement (the work); the ties are given (YtejilglnpdjepaaDoorTie.lean); close each card by the builder's one call (the guide's Derived/Test/ToyasCard.lean, 'card_holds'). Laid BY PROGRAM, IN A SANDBOX (cutbox-door.mjs). By AI agents, Wed Nov 11 2026. No macro, syntax, notation, axiom, sorry.
-/
import Derived.Test.YtejilglnpdjepaaDoorRows
import GoSem.ClaimSeven
namespace Go.Proofs.YtejilglnpdjepaaDoor
namespace Rows

/-- THE TIED CARD OF 'supercargolaw.SeatTells'. -/
def seatTellsCard : Claim7 := { stood := { row := seatTellsRow, standIns := [], harness := (true, "b61f73abae45e264646c0b9802a4a2409c44329666a5012799d964ba1cee84f6"), looks := false }, kinds := [], alts := [], laidByText := true, laidKinds := [.data], laidTests := true, laidLooks := .later }
def SeatTellsCardSaid : Prop := Claim7.holds Tryd.pinned (.plain (OpenSpec.ofChange seatTellsSpec)) seatTellsCard

/-- THE TIED CARD OF 'supercargolaw.BidTells'. -/
def bidTellsCard : Claim7 := { stood := { row := bidTellsRow, standIns := [], harness := (true, "b61f73abae45e264646c0b9802a4a2409c44329666a5012799d964ba1cee84f6"), looks := false }, kinds := [], alts := [], laidByText := true, laidKinds := [.data], laidTests := true, laidLooks := .later }
def BidTellsCardSaid : Prop := Claim7.holds Tryd.pinned (.plain (OpenSpec.ofChange bidTellsSpec)) bidTellsCard

/-- THE TIED CARD OF 'supercargolaw.SeatRises'. -/
def seatRisesCard : Claim7 := { stood := { row := seatRisesRow, standIns := [], harness := (true, "b61f73abae45e264646c0b9802a4a2409c44329666a5012799d964ba1cee84f6"), looks := false }, kinds := [], alts := [], laidByText := true, laidKinds := [.data], laidTests := true, laidLooks := .later }
def SeatRisesCardSaid : Prop := Claim7.holds Tryd.pinned (.plain (OpenSpec.ofChange seatRisesSpec)) seatRisesCard

/-- THE TIED CARD OF 'supercargolaw.SeatPromise'. -/
def seatPromiseCard : Claim7 := { stood := { row := seatPromiseRow, standIns := [], harness := (true, "b61f73abae45e264646c0b9802a4a2409c44329666a5012799d964ba1cee84f6"), looks := false }, kinds := [], alts := [], laidByText := true, laidKinds := [.data], laidTests := true, laidLooks := .later }
def SeatPromiseCardSaid : Prop := Claim7.holds Tryd.pinned (.plain (OpenSpec.ofChange seatPromiseSpec)) seatPromiseCard

/-- THE TIED CARD OF 'supercargolaw.BidGoes'. -/
def bidGoesCard : Claim7 := { stood := { row := bidGoesRow, standIns := [], harness := (true, "b61f73abae45e264646c0b9802a4a2409c44329666a5012799d964ba1cee84f6"), looks := false }, kinds := [], alts := [], laidByText := true, laidKinds := [.data], laidTests := true, laidLooks := .later }
def BidGoesCardSaid : Prop := Claim7.holds Tryd.pinned (.plain (OpenSpec.ofChange bidGoesSpec)) bidGoesCard

/-- THE SECOND FORM's CARD OF 'supercargolaw.SeatTells'. -/
def seatTellsUptoCard : Claim7 := { stood := { row := seatTellsUptoRow, standIns := [], harness := (true, "b61f73abae45e264646c0b9802a4a2409c44329666a5012799d964ba1cee84f6"), looks := false }, kinds := [], alts := [], laidByText := true, laidKinds := [.data], laidTests := true, laidLooks := .later }
def SeatTellsUptoCardSaid : Prop := Claim7.holds Tryd.pinned (.plain (OpenSpec.upto seatTellsSpec)) seatTellsUptoCard

/-- THE SECOND FORM's CARD OF 'supercargolaw.BidTells'. -/
def bidTellsUptoCard : Claim7 := { stood := { row := bidTellsUptoRow, standIns := [], harness := (true, "b61f73abae45e264646c0b9802a4a2409c44329666a5012799d964ba1cee84f6"), looks := false }, kinds := [], alts := [], laidByText := true, laidKinds := [.data], laidTests := true, laidLooks := .later }
def BidTellsUptoCardSaid : Prop := Claim7.holds Tryd.pinned (.plain (OpenSpec.upto bidTellsSpec)) bidTellsUptoCard

/-- THE SECOND FORM's CARD OF 'supercargolaw.SeatRises'. -/
def seatRisesUptoCard : Claim7 := { stood := { row := seatRisesUptoRow, standIns := [], harness := (true, "b61f73abae45e264646c0b9802a4a2409c44329666a5012799d964ba1cee84f6"), looks := false }, kinds := [], alts := [], laidByText := true, laidKinds := [.data], laidTests := true, laidLooks := .later }
def SeatRisesUptoCardSaid : Prop := Claim7.holds Tryd.pinned (.plain (OpenSpec.upto seatRisesSpec)) seatRisesUptoCard

/-- THE SECOND FORM's CARD OF 'supercargolaw.SeatPromise'. -/
def seatPromiseUptoCard : Claim7 := { stood := { row := seatPromiseUptoRow, standIns := [], harness := (true, "b61f73abae45e264646c0b9802a4a2409c44329666a5012799d964ba1cee84f6"), looks := false }, kinds := [], alts := [], laidByText := true, laidKinds := [.data], laidTests := true, laidLooks := .later }
def SeatPromiseUptoCardSaid : Prop := Claim7.holds Tryd.pinned (.plain (OpenSpec.upto seatPromiseSpec)) seatPromiseUptoCard

/-- THE SECOND FORM's CARD OF 'supercargolaw.BidGoes'. -/
def bidGoesUptoCard : Claim7 := { stood := { row := bidGoesUptoRow, standIns := [], harness := (true, "b61f73abae45e264646c0b9802a4a2409c44329666a5012799d964ba1cee84f6"), looks := false }, kinds := [], alts := [], laidByText := true, laidKinds := [.data], laidTests := true, laidLooks := .later }
def BidGoesUptoCardSaid : Prop := Claim7.holds Tryd.pinned (.plain (OpenSpec.upto bidGoesSpec)) bidGoesUptoCard
end Rows
end Go.Proofs.YtejilglnpdjepaaDoor
