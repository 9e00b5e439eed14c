/- A function that is handed values without letters is run. No condition. -/
import Derived.Test.YtgepadjkegfokaaDoorPAvEval
set_option linter.unusedSimpArgs false
set_option linter.unusedVariables false
namespace Go.Proofs.YtgepadjkegfokaaDoor
set_option linter.unusedSimpArgs false
set_option linter.unusedVariables false
open Go.RowKit
abbrev on (d : Nat) (a : AO) (g : Nat) : AOper := ⟨some d, a, some (g, false)⟩
section
variable {P : Program} {T : FuncId → Option AFn}
end
end Go.Proofs.YtgepadjkegfokaaDoor
