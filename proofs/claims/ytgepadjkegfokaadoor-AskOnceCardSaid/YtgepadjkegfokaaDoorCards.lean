/-
  DERIVED. GIVEN WITH THE SEED: THE CARDS: each row of YtgepadjkegfokaaDoorRows.lean that lists a variable, with what it lists TIED to the program's text (the seventh form; the later family's looks); each row that meets fmt, with fmt's text TOLD by the authors' own Lean function (tested against real Go, not proved from fmt's source: count such statements apart). THE CARD IS WHAT COUNTS. Prove the row's statement (the work); the ties are given (YtgepadjkegfokaaDoorTie.lean); close each card by the builder's one call (the guide's Derived/Test/ToyasCard.lean, 'card_holds'). Laid BY PROGRAM, IN A SANDBOX (cutbox-door.mjs). By AI agents, Wed Nov 11 2026. No macro, syntax, notation, axiom, sorry.
-/
import Derived.Test.YtgepadjkegfokaaDoorRows
import GoSem.ClaimSeven
namespace Go.Proofs.YtgepadjkegfokaaDoor
namespace Rows

/-- THE TIED CARD OF 'supercargolaw.AskTells'. -/
def askTellsCard : Claim7 := { stood := { row := askTellsRow, standIns := [], harness := (true, "5bc4e28d4169921c484dbcdca1986270267f967a52b7c27f070fd8606f0cf834"), looks := false }, kinds := [], alts := [], laidByText := true, laidKinds := [.data], laidTests := true, laidLooks := .later }
def AskTellsCardSaid : Prop := Claim7.holds Tryd.pinned (.plain (OpenSpec.ofChange askTellsSpec)) askTellsCard

/-- THE TIED CARD OF 'supercargolaw.AskServes'. -/
def askServesCard : Claim7 := { stood := { row := askServesRow, standIns := [], harness := (true, "5bc4e28d4169921c484dbcdca1986270267f967a52b7c27f070fd8606f0cf834"), looks := false }, kinds := [], alts := [], laidByText := true, laidKinds := [.data], laidTests := true, laidLooks := .later }
def AskServesCardSaid : Prop := Claim7.holds Tryd.pinned (.plain (OpenSpec.ofChange askServesSpec)) askServesCard

/-- THE TIED CARD OF 'supercargolaw.AskOnce'. -/
def askOnceCard : Claim7 := { stood := { row := askOnceRow, standIns := [], harness := (true, "5bc4e28d4169921c484dbcdca1986270267f967a52b7c27f070fd8606f0cf834"), looks := false }, kinds := [], alts := [], laidByText := true, laidKinds := [.data], laidTests := true, laidLooks := .later }
def AskOnceCardSaid : Prop := Claim7.holds Tryd.pinned (.plain (OpenSpec.ofChange askOnceSpec)) askOnceCard

/-- THE TIED CARD OF 'supercargolaw.AskGoes'. -/
def askGoesCard : Claim7 := { stood := { row := askGoesRow, standIns := [], harness := (true, "5bc4e28d4169921c484dbcdca1986270267f967a52b7c27f070fd8606f0cf834"), looks := false }, kinds := [], alts := [], laidByText := true, laidKinds := [.data], laidTests := true, laidLooks := .later }
def AskGoesCardSaid : Prop := Claim7.holds Tryd.pinned (.plain (OpenSpec.ofChange askGoesSpec)) askGoesCard

/-- THE TIED CARD OF 'supercargolaw.AskDeaf'. -/
def askDeafCard : Claim7 := { stood := { row := askDeafRow, standIns := [], harness := (true, "5bc4e28d4169921c484dbcdca1986270267f967a52b7c27f070fd8606f0cf834"), looks := false }, kinds := [], alts := [], laidByText := true, laidKinds := [.data], laidTests := true, laidLooks := .later }
def AskDeafCardSaid : Prop := Claim7.holds Tryd.pinned (.plain (OpenSpec.ofChange askDeafSpec)) askDeafCard

/-- THE SECOND FORM's CARD OF 'supercargolaw.AskTells'. -/
def askTellsUptoCard : Claim7 := { stood := { row := askTellsUptoRow, standIns := [], harness := (true, "5bc4e28d4169921c484dbcdca1986270267f967a52b7c27f070fd8606f0cf834"), looks := false }, kinds := [], alts := [], laidByText := true, laidKinds := [.data], laidTests := true, laidLooks := .later }
def AskTellsUptoCardSaid : Prop := Claim7.holds Tryd.pinned (.plain (OpenSpec.upto askTellsSpec)) askTellsUptoCard

/-- THE SECOND FORM's CARD OF 'supercargolaw.AskServes'. -/
def askServesUptoCard : Claim7 := { stood := { row := askServesUptoRow, standIns := [], harness := (true, "5bc4e28d4169921c484dbcdca1986270267f967a52b7c27f070fd8606f0cf834"), looks := false }, kinds := [], alts := [], laidByText := true, laidKinds := [.data], laidTests := true, laidLooks := .later }
def AskServesUptoCardSaid : Prop := Claim7.holds Tryd.pinned (.plain (OpenSpec.upto askServesSpec)) askServesUptoCard

/-- THE SECOND FORM's CARD OF 'supercargolaw.AskOnce'. -/
def askOnceUptoCard : Claim7 := { stood := { row := askOnceUptoRow, standIns := [], harness := (true, "5bc4e28d4169921c484dbcdca1986270267f967a52b7c27f070fd8606f0cf834"), looks := false }, kinds := [], alts := [], laidByText := true, laidKinds := [.data], laidTests := true, laidLooks := .later }
def AskOnceUptoCardSaid : Prop := Claim7.holds Tryd.pinned (.plain (OpenSpec.upto askOnceSpec)) askOnceUptoCard

/-- THE SECOND FORM's CARD OF 'supercargolaw.AskGoes'. -/
def askGoesUptoCard : Claim7 := { stood := { row := askGoesUptoRow, standIns := [], harness := (true, "5bc4e28d4169921c484dbcdca1986270267f967a52b7c27f070fd8606f0cf834"), looks := false }, kinds := [], alts := [], laidByText := true, laidKinds := [.data], laidTests := true, laidLooks := .later }
def AskGoesUptoCardSaid : Prop := Claim7.holds Tryd.pinned (.plain (OpenSpec.upto askGoesSpec)) askGoesUptoCard

/-- THE SECOND FORM's CARD OF 'supercargolaw.AskDeaf'. -/
def askDeafUptoCard : Claim7 := { stood := { row := askDeafUptoRow, standIns := [], harness := (true, "5bc4e28d4169921c484dbcdca1986270267f967a52b7c27f070fd8606f0cf834"), looks := false }, kinds := [], alts := [], laidByText := true, laidKinds := [.data], laidTests := true, laidLooks := .later }
def AskDeafUptoCardSaid : Prop := Claim7.holds Tryd.pinned (.plain (OpenSpec.upto askDeafSpec)) askDeafUptoCard
end Rows
end Go.Proofs.YtgepadjkegfokaaDoor
