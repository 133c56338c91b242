/- Plain law of layer 7: the award is the sum of the payments for the settled counts. -/
import Derived.Test.YtedblocbcjoolaaGreatKYI
set_option linter.unusedSimpArgs false
set_option linter.unusedVariables false
namespace Go.Hs
open Go.RowKit Go.Proofs.YtedblocbcjoolaaGreat
end Go.Hs
