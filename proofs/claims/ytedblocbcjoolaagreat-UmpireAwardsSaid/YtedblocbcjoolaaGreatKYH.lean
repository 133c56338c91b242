/- Contracts of layer 7's law: a truth by words, and a truth of the program. -/
import Derived.Test.YtedblocbcjoolaaGreatKVT
import Derived.Test.YtedblocbcjoolaaGreatKRB
import Derived.Test.YtedblocbcjoolaaGreatKB7
set_option linter.unusedSimpArgs false
set_option linter.unusedVariables false
namespace Go.Hs
open Go.RowKit Go.Proofs.YtedblocbcjoolaaGreat
end Go.Hs
namespace Go.Proofs.YtedblocbcjoolaaGreat
open Go.RowKit Go.Hs
attribute [local irreducible] World.setCell World.alloc
end Go.Proofs.YtedblocbcjoolaaGreat
