/- Contract of layer 7's law: a truth by words. -/
import Derived.Test.YtedblocbcjoolaaGreatKYH
import Derived.Test.YtedblocbcjoolaaGreatKXR
import Derived.Test.YtedblocbcjoolaaGreatKB9
set_option linter.unusedSimpArgs false
set_option linter.unusedVariables false
namespace Go.Hs
open Go.RowKit Go.Proofs.YtedblocbcjoolaaGreat
end Go.Hs
namespace Go.Proofs.YtedblocbcjoolaaGreat
open Go.RowKit Go.Hs
attribute [local irreducible] World.setCell World.alloc

end Go.Proofs.YtedblocbcjoolaaGreat
