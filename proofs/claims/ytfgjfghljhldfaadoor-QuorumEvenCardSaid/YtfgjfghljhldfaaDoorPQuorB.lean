/- What the references of package quorum answer; what must be in any case. No condition. -/
import Derived.Test.YtfgjfghljhldfaaDoorPQuorA
set_option maxRecDepth 100000
set_option maxHeartbeats 4000000
set_option linter.unusedVariables false
set_option linter.unusedSimpArgs false
namespace Go.Proofs.YtfgjfghljhldfaaDoor
end Go.Proofs.YtfgjfghljhldfaaDoor
