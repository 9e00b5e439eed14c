/- How the laws of buckets take their arguments apart. No condition. -/
import Derived.Test.YtdoaefekbbgcmaaAvLaw
import Derived.Test.YtdoaefekbbgcmaaBucketA
namespace Go.Proofs.Ytdoaefekbbgcmaa
set_option linter.unusedSimpArgs false
set_option linter.unusedVariables false
theorem opens_i64 : Opens Try.prog 3 Int := GoT_i64 Try.underlying3 (by kernel_rfl)
theorem opens_Bucket : Opens Try.prog 23 Bucket := Opens.via (opens_struct Try.underlying23 rfl (by kernel_rfl) (opens_cons opens_i64 rfl (opens_cons opens_i64 rfl (opens_cons opens_i64 rfl (opens_last opens_i64 rfl))))) _ (fun p => ⟨p.1, p.2.1, p.2.2.1, p.2.2.2⟩) (fun _ => rfl)
theorem opens_Term : Opens Try.prog 39 Term := Opens.via (opens_struct Try.underlying39 rfl (by kernel_rfl) (opens_cons opens_i64 rfl (opens_last opens_i64 rfl))) _ (fun p => ⟨p.1, p.2⟩) (fun _ => rfl)
theorem opens_LTerm : Opens Try.prog 32 (List Term) := opens_slice Try.underlying32 (by kernel_rfl) opens_Term (by decide)
end Go.Proofs.Ytdoaefekbbgcmaa
