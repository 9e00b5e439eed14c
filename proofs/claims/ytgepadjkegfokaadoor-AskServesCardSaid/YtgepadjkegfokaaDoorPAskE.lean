/- Plain laws of what an operation hears. No condition. -/
import Derived.Test.YtgepadjkegfokaaDoorPAskD
set_option maxRecDepth 100000
set_option linter.unusedVariables false
set_option linter.unusedSimpArgs false
namespace Go.Proofs.YtgepadjkegfokaaDoor
end Go.Proofs.YtgepadjkegfokaaDoor
