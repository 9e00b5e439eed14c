/- slices.Delete of one element of a list that one owns, whatever the elements. No condition. -/
import Derived.Test.YtgepadjkegfokaaDoorPAvNorm
set_option linter.unusedSimpArgs false
set_option linter.unusedVariables false
set_option maxRecDepth 100000
namespace Go.Proofs.YtgepadjkegfokaaDoor
set_option linter.unusedSimpArgs false
set_option linter.unusedVariables false
open Go.RowKit
section
variable {o : AOper} {x : L3}
end
section
variable {P : Program} {sz by_ : Nat} {zs : List AV} {m : List (Option Bk)} {id i : Nat} {els : List (List AV)}
end
end Go.Proofs.YtgepadjkegfokaaDoor
