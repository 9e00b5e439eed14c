/-
  DERIVED. GIVEN WITH THE SEED: THE CARDS: each row of YtpagdlhlfmenmaaDoorRows.lean that lists a variable, with what it lists TIED to the program's text (the seventh form; the later family's looks); each row that meets fmt, with fmt's text TOLD by the authors' own Lean function (tested against real Go, not proved from fmt's source: count such statements apart). THE CARD IS WHAT COUNTS. Prove the row's statement (the work); the ties are given (YtpagdlhlfmenmaaDoorTie.lean); close each card by the builder's one call (the guide's Derived/Test/ToyasCard.lean, 'card_holds'). Laid BY PROGRAM, IN A SANDBOX (cutbox-door.mjs). By AI agents, Wed Nov 11 2026. No macro, syntax, notation, axiom, sorry.
-/
import Derived.Test.YtpagdlhlfmenmaaDoorRows
import GoSem.ClaimSeven
namespace Go.Proofs.YtpagdlhlfmenmaaDoor
namespace Rows

/-- THE TIED CARD OF 'supercargolaw.ClusterTells'. -/
def clusterTellsCard : Claim7 := { stood := { row := clusterTellsRow, standIns := [], harness := (true, "c7675fab1e2fe7bf8fe413bf2cafbf76f9015775f5ff2e61066e0fe2411b9618"), looks := false }, kinds := [], alts := [], laidByText := true, laidKinds := [.data], laidTests := true, laidLooks := .later }
def ClusterTellsCardSaid : Prop := Claim7.holds Tryd.pinned (.plain (OpenSpec.ofChange clusterTellsSpec)) clusterTellsCard

/-- THE TIED CARD OF 'supercargolaw.ClusterRuns'. -/
def clusterRunsCard : Claim7 := { stood := { row := clusterRunsRow, standIns := [], harness := (true, "c7675fab1e2fe7bf8fe413bf2cafbf76f9015775f5ff2e61066e0fe2411b9618"), looks := false }, kinds := [], alts := [], laidByText := true, laidKinds := [.data], laidTests := true, laidLooks := .later }
def ClusterRunsCardSaid : Prop := Claim7.holds Tryd.pinned (.plain (OpenSpec.ofChange clusterRunsSpec)) clusterRunsCard

/-- THE TIED CARD OF 'supercargolaw.ClusterOrder'. -/
def clusterOrderCard : Claim7 := { stood := { row := clusterOrderRow, standIns := [], harness := (true, "c7675fab1e2fe7bf8fe413bf2cafbf76f9015775f5ff2e61066e0fe2411b9618"), looks := false }, kinds := [], alts := [], laidByText := true, laidKinds := [.data], laidTests := true, laidLooks := .later }
def ClusterOrderCardSaid : Prop := Claim7.holds Tryd.pinned (.plain (OpenSpec.ofChange clusterOrderSpec)) clusterOrderCard

/-- THE TIED CARD OF 'supercargolaw.ClusterValues'. -/
def clusterValuesCard : Claim7 := { stood := { row := clusterValuesRow, standIns := [], harness := (true, "c7675fab1e2fe7bf8fe413bf2cafbf76f9015775f5ff2e61066e0fe2411b9618"), looks := false }, kinds := [], alts := [], laidByText := true, laidKinds := [.data], laidTests := true, laidLooks := .later }
def ClusterValuesCardSaid : Prop := Claim7.holds Tryd.pinned (.plain (OpenSpec.ofChange clusterValuesSpec)) clusterValuesCard

/-- THE TIED CARD OF 'supercargolaw.ClusterUnique'. -/
def clusterUniqueCard : Claim7 := { stood := { row := clusterUniqueRow, standIns := [], harness := (true, "c7675fab1e2fe7bf8fe413bf2cafbf76f9015775f5ff2e61066e0fe2411b9618"), looks := false }, kinds := [], alts := [], laidByText := true, laidKinds := [.data], laidTests := true, laidLooks := .later }
def ClusterUniqueCardSaid : Prop := Claim7.holds Tryd.pinned (.plain (OpenSpec.ofChange clusterUniqueSpec)) clusterUniqueCard

/-- THE TIED CARD OF 'supercargolaw.ClusterKept'. -/
def clusterKeptCard : Claim7 := { stood := { row := clusterKeptRow, standIns := [], harness := (true, "c7675fab1e2fe7bf8fe413bf2cafbf76f9015775f5ff2e61066e0fe2411b9618"), looks := false }, kinds := [], alts := [], laidByText := true, laidKinds := [.data], laidTests := true, laidLooks := .later }
def ClusterKeptCardSaid : Prop := Claim7.holds Tryd.pinned (.plain (OpenSpec.ofChange clusterKeptSpec)) clusterKeptCard

/-- THE TIED CARD OF 'supercargolaw.ClusterLives'. -/
def clusterLivesCard : Claim7 := { stood := { row := clusterLivesRow, standIns := [], harness := (true, "c7675fab1e2fe7bf8fe413bf2cafbf76f9015775f5ff2e61066e0fe2411b9618"), looks := false }, kinds := [], alts := [], laidByText := true, laidKinds := [.data], laidTests := true, laidLooks := .later }
def ClusterLivesCardSaid : Prop := Claim7.holds Tryd.pinned (.plain (OpenSpec.ofChange clusterLivesSpec)) clusterLivesCard

/-- THE TIED CARD OF 'supercargolaw.RestRuns'. -/
def restRunsCard : Claim7 := { stood := { row := restRunsRow, standIns := [], harness := (true, "c7675fab1e2fe7bf8fe413bf2cafbf76f9015775f5ff2e61066e0fe2411b9618"), looks := false }, kinds := [], alts := [], laidByText := true, laidKinds := [.data], laidTests := true, laidLooks := .later }
def RestRunsCardSaid : Prop := Claim7.holds Tryd.pinned (.plain (OpenSpec.ofChange restRunsSpec)) restRunsCard

/-- THE TIED CARD OF 'supercargolaw.ClusterSpare'. -/
def clusterSpareCard : Claim7 := { stood := { row := clusterSpareRow, standIns := [], harness := (true, "c7675fab1e2fe7bf8fe413bf2cafbf76f9015775f5ff2e61066e0fe2411b9618"), looks := false }, kinds := [], alts := [], laidByText := true, laidKinds := [.data], laidTests := true, laidLooks := .later }
def ClusterSpareCardSaid : Prop := Claim7.holds Tryd.pinned (.plain (OpenSpec.ofChange clusterSpareSpec)) clusterSpareCard

/-- THE SECOND FORM's CARD OF 'supercargolaw.ClusterTells'. -/
def clusterTellsUptoCard : Claim7 := { stood := { row := clusterTellsUptoRow, standIns := [], harness := (true, "c7675fab1e2fe7bf8fe413bf2cafbf76f9015775f5ff2e61066e0fe2411b9618"), looks := false }, kinds := [], alts := [], laidByText := true, laidKinds := [.data], laidTests := true, laidLooks := .later }
def ClusterTellsUptoCardSaid : Prop := Claim7.holds Tryd.pinned (.plain (OpenSpec.upto clusterTellsSpec)) clusterTellsUptoCard

/-- THE SECOND FORM's CARD OF 'supercargolaw.ClusterRuns'. -/
def clusterRunsUptoCard : Claim7 := { stood := { row := clusterRunsUptoRow, standIns := [], harness := (true, "c7675fab1e2fe7bf8fe413bf2cafbf76f9015775f5ff2e61066e0fe2411b9618"), looks := false }, kinds := [], alts := [], laidByText := true, laidKinds := [.data], laidTests := true, laidLooks := .later }
def ClusterRunsUptoCardSaid : Prop := Claim7.holds Tryd.pinned (.plain (OpenSpec.upto clusterRunsSpec)) clusterRunsUptoCard

/-- THE SECOND FORM's CARD OF 'supercargolaw.ClusterOrder'. -/
def clusterOrderUptoCard : Claim7 := { stood := { row := clusterOrderUptoRow, standIns := [], harness := (true, "c7675fab1e2fe7bf8fe413bf2cafbf76f9015775f5ff2e61066e0fe2411b9618"), looks := false }, kinds := [], alts := [], laidByText := true, laidKinds := [.data], laidTests := true, laidLooks := .later }
def ClusterOrderUptoCardSaid : Prop := Claim7.holds Tryd.pinned (.plain (OpenSpec.upto clusterOrderSpec)) clusterOrderUptoCard

/-- THE SECOND FORM's CARD OF 'supercargolaw.ClusterValues'. -/
def clusterValuesUptoCard : Claim7 := { stood := { row := clusterValuesUptoRow, standIns := [], harness := (true, "c7675fab1e2fe7bf8fe413bf2cafbf76f9015775f5ff2e61066e0fe2411b9618"), looks := false }, kinds := [], alts := [], laidByText := true, laidKinds := [.data], laidTests := true, laidLooks := .later }
def ClusterValuesUptoCardSaid : Prop := Claim7.holds Tryd.pinned (.plain (OpenSpec.upto clusterValuesSpec)) clusterValuesUptoCard

/-- THE SECOND FORM's CARD OF 'supercargolaw.ClusterUnique'. -/
def clusterUniqueUptoCard : Claim7 := { stood := { row := clusterUniqueUptoRow, standIns := [], harness := (true, "c7675fab1e2fe7bf8fe413bf2cafbf76f9015775f5ff2e61066e0fe2411b9618"), looks := false }, kinds := [], alts := [], laidByText := true, laidKinds := [.data], laidTests := true, laidLooks := .later }
def ClusterUniqueUptoCardSaid : Prop := Claim7.holds Tryd.pinned (.plain (OpenSpec.upto clusterUniqueSpec)) clusterUniqueUptoCard

/-- THE SECOND FORM's CARD OF 'supercargolaw.ClusterKept'. -/
def clusterKeptUptoCard : Claim7 := { stood := { row := clusterKeptUptoRow, standIns := [], harness := (true, "c7675fab1e2fe7bf8fe413bf2cafbf76f9015775f5ff2e61066e0fe2411b9618"), looks := false }, kinds := [], alts := [], laidByText := true, laidKinds := [.data], laidTests := true, laidLooks := .later }
def ClusterKeptUptoCardSaid : Prop := Claim7.holds Tryd.pinned (.plain (OpenSpec.upto clusterKeptSpec)) clusterKeptUptoCard

/-- THE SECOND FORM's CARD OF 'supercargolaw.ClusterLives'. -/
def clusterLivesUptoCard : Claim7 := { stood := { row := clusterLivesUptoRow, standIns := [], harness := (true, "c7675fab1e2fe7bf8fe413bf2cafbf76f9015775f5ff2e61066e0fe2411b9618"), looks := false }, kinds := [], alts := [], laidByText := true, laidKinds := [.data], laidTests := true, laidLooks := .later }
def ClusterLivesUptoCardSaid : Prop := Claim7.holds Tryd.pinned (.plain (OpenSpec.upto clusterLivesSpec)) clusterLivesUptoCard

/-- THE SECOND FORM's CARD OF 'supercargolaw.RestRuns'. -/
def restRunsUptoCard : Claim7 := { stood := { row := restRunsUptoRow, standIns := [], harness := (true, "c7675fab1e2fe7bf8fe413bf2cafbf76f9015775f5ff2e61066e0fe2411b9618"), looks := false }, kinds := [], alts := [], laidByText := true, laidKinds := [.data], laidTests := true, laidLooks := .later }
def RestRunsUptoCardSaid : Prop := Claim7.holds Tryd.pinned (.plain (OpenSpec.upto restRunsSpec)) restRunsUptoCard

/-- THE SECOND FORM's CARD OF 'supercargolaw.ClusterSpare'. -/
def clusterSpareUptoCard : Claim7 := { stood := { row := clusterSpareUptoRow, standIns := [], harness := (true, "c7675fab1e2fe7bf8fe413bf2cafbf76f9015775f5ff2e61066e0fe2411b9618"), looks := false }, kinds := [], alts := [], laidByText := true, laidKinds := [.data], laidTests := true, laidLooks := .later }
def ClusterSpareUptoCardSaid : Prop := Claim7.holds Tryd.pinned (.plain (OpenSpec.upto clusterSpareSpec)) clusterSpareUptoCard
end Rows
end Go.Proofs.YtpagdlhlfmenmaaDoor
