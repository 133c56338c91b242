/- Contracts of the reference of layer 7: whether a list is a truth of a case. -/
import Derived.Test.YtedblocbcjoolaaGreatKVK
import Derived.Test.YtedblocbcjoolaaGreatKXR
set_option linter.unusedSimpArgs false
set_option linter.unusedVariables false
namespace Go.Hs
open Go.RowKit Go.Proofs.YtedblocbcjoolaaGreat
def Oc.c (o : Oc) : V3 := ⟨.int .i64 o.pay, .bool o.called, .int .i64 o.lost⟩
def OcsV : World → Value → List Oc → Prop := Slice3 Oc.c
theorem OcsV.ext {w w' : World} {v : Value} {l : List Oc} (h : Ext w w') (k : OcsV w v l) : OcsV w' v l := Slice3.ext h k
theorem store3_gen {F : World → Prop} {W w : World} {T : Nat} {z0 z1 z2 v0 v1 v2 : Value} (hb : BoxN W T [z0, z1, z2] w) (h : ∀ w', BoxN W T [v0, v1, v2] w' → KP (fun k => k = T) w w' → F w') :
    F (((w.setCell ⟨T, 0, none⟩ v0).setCell ⟨T, 1, none⟩ v1).setCell ⟨T, 2, none⟩ v2) :=
  h _ hb.stored3 (((KP.one _).trans (KP.one _)).trans (KP.one _))
end Go.Hs
namespace Go.Proofs.YtedblocbcjoolaaGreat
open Go.RowKit Go.Hs
attribute [local irreducible] World.setCell World.alloc

end Go.Proofs.YtedblocbcjoolaaGreat
