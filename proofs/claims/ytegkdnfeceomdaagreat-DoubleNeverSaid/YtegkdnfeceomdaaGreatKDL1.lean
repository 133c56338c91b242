/- Plain laws of layer 8: the smallest set of claims to strike, by the reference and by the program. -/
import Derived.Test.YtegkdnfeceomdaaGreatKDW1
set_option maxRecDepth 100000
set_option maxHeartbeats 16000000
set_option linter.unusedSimpArgs false
set_option linter.unusedVariables false
namespace Go.Hs
open Go.RowKit Go.Proofs.YtegkdnfeceomdaaGreat
end Go.Hs
