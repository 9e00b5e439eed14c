/- A function that is handed values without letters is run. No condition. -/
import Derived.Test.YtfgjfghljhldfaaDoorPAvEval
set_option linter.unusedSimpArgs false
set_option linter.unusedVariables false
namespace Go.Proofs.YtfgjfghljhldfaaDoor
set_option linter.unusedSimpArgs false
set_option linter.unusedVariables false
open Go.RowKit
abbrev oo (d : Nat) (a : AO) : AOper := ⟨some d, a, none⟩
abbrev on (d : Nat) (a : AO) (g : Nat) : AOper := ⟨some d, a, some (g, false)⟩
section
variable {P : Program} {T : FuncId → Option AFn}
end
end Go.Proofs.YtfgjfghljhldfaaDoor
