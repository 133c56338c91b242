/- Contract of layer 8's reference: Nth. -/
import Derived.Test.YtegkdnfeceomdaaGreatKDN1
import Derived.Test.YtegkdnfeceomdaaGreatKDC5
import Derived.Test.YtegkdnfeceomdaaGreatKDC4
import Derived.Test.YtegkdnfeceomdaaGreatKDA17
import Derived.Deep.AppendLies
import Derived.RegionTactic
import Derived.Deep.RegionWith
set_option maxRecDepth 100000
set_option maxHeartbeats 16000000
set_option linter.unusedSimpArgs false
set_option linter.unusedVariables false
namespace Go.Hs
open Go.RowKit
structure NtB (W:World) (T:Nat) (vd vs:Value) (d1 d2:List Int) (w:World):Prop where
 box:BoxN W T [vd,vs,.slice none 0 0,.int .i64 0] w
 i1:IntsV w vd d1
 i2:IntsV w vs d2
 b1:∀g,vd.ownBlock=some g→g≠T∧W.heap.size≤g
 b2:∀g,vs.ownBlock=some g→g≠T∧W.heap.size≤g
theorem NtB.set {W w3:World} {T B:Nat} {vd vs:Value} {d1 d2:List Int} (Z:BoxN W T [.slice none 0 0,.slice none 0 0,.slice none 0 0,.int .i64 0] w3) (i1:IntsV w3 vd d1) (i2:IntsV w3 vs d2) (hB:T<B) (hW:W.heap.size≤B) (b1:∀g,vd.ownBlock=some g→B≤g) (b2:∀g,vs.ownBlock=some g→B≤g):
  NtB W T vd vs d1 d2 ((((w3.setCell ⟨T,0,none⟩ vd).setCell ⟨T,1,none⟩ vs).setCell ⟨T,2,none⟩ (.slice none 0 0)).setCell ⟨T,3,none⟩ (.int .i64 0)):=by
 have hk:KP (fun j=>j=T) w3 ((((w3.setCell ⟨T,0,none⟩ vd).setCell ⟨T,1,none⟩ vs).setCell ⟨T,2,none⟩ (.slice none 0 0)).setCell ⟨T,3,none⟩ (.int .i64 0)):=((((KP.refl _).setCell (p:=fun j=>j=T) rfl _).setCell rfl _).setCell rfl _).setCell rfl _;exact⟨BoxN.stored4 Z,ints_kpH i1 hk (fun g hg e=>by have:=b1 g hg;omega),ints_kpH i2 hk (fun g hg e=>by have:=b2 g hg;omega),fun g hg=>by have:=b1 g hg;omega,fun g hg=>by have:=b2 g hg;omega⟩
theorem NtB.new {W w3:World} {B:Nat} {vd vs:Value} {d1 d2:List Int} {t:TypeId} (hx:Ext W w3) (i1:IntsV w3 vd d1) (i2:IntsV w3 vs d2) (hW:W.heap.size≤B) (b1:∀g,vd.ownBlock=some g→B≤g∧g<w3.heap.size) (b2:∀g,vs.ownBlock=some g→B≤g∧g<w3.heap.size):
  NtB W w3.heap.size vd vs d1 d2 (w3.alloc (.cells #[vd,vs,.slice none 0 0,.int .i64 0] t)):=
 ⟨BoxN.made hx,i1.ext ((Ext.refl _).alloc _),i2.ext ((Ext.refl _).alloc _),fun g hg=>by have:=b1 g hg;omega,fun g hg=>by have:=b2 g hg;omega⟩
end Go.Hs
namespace Go.Proofs.YtegkdnfeceomdaaGreat
open Go.RowKit Go.Hs
attribute [local irreducible] World.setCell World.alloc
end Go.Proofs.YtegkdnfeceomdaaGreat
