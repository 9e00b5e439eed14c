/- How the laws of ships take their arguments apart. No condition. -/
import Derived.Test.YthdcanpbgaaneaaPAvLaw
import Derived.Test.YthdcanpbgaaneaaPShipA
namespace Go.Proofs.Ythdcanpbgaaneaa
set_option linter.unusedSimpArgs false
set_option linter.unusedVariables false
instance : GoT Ship := GoT.via (fun x => (x.first, x.second, x.log, x.sent, x.applied, x.known, x.there, x.back))
theorem opens_i64 : Opens Try.prog 3 Int := GoT_i64 Try.underlying3 (by kernel_rfl)
theorem opens_str : Opens Try.prog 9 ByteArray := GoT_str Try.underlying9 (by kernel_rfl)
theorem opens_Act : Opens Try.prog 28 Act := Opens.via (opens_struct Try.underlying28 rfl (by kernel_rfl) (opens_cons opens_i64 rfl (opens_cons opens_i64 rfl (opens_last opens_str rfl)))) _ (fun p => ⟨p.1, p.2.1, p.2.2⟩) (fun _ => rfl)
theorem opens_LAct : Opens Try.prog 37 (List Act) := opens_slice Try.underlying37 (by kernel_rfl) opens_Act (by decide)
end Go.Proofs.Ythdcanpbgaaneaa
