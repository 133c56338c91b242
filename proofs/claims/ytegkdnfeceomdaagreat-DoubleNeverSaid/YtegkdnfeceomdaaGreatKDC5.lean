/- Bundled: what the texts OQ HX HY HYF HZ HT say one after another. -/
import Derived.Test.YtegkdnfeceomdaaGreatKDA3
import Derived.Test.YtegkdnfeceomdaaGreatKDA6
import Derived.Test.YtegkdnfeceomdaaGreatKDC2
import Derived.Test.YtegkdnfeceomdaaGreatKDC4
import Derived.Test.YtegkdnfeceomdaaGreatKDA27
import Derived.Test.YtegkdnfeceomdaaGreatKDA4
import Derived.Test.YtegkdnfeceomdaaGreatKDC3
import Derived.Deep.AppendLies
set_option maxRecDepth 100000
set_option maxHeartbeats 16000000
set_option linter.unusedSimpArgs false
set_option linter.unusedVariables false
namespace Go.Hs
open Go.RowKit Go.Proofs.YtegkdnfeceomdaaGreat
structure AppR {α:Type} (k:Nat) (C:α→List Value) (e:TypeId) (W:World) (T fo:Nat) (a:Option Addr) (n q:Nat) (xs:List α) (w:World):Prop where
 cur:w.cell? ⟨T,fo,none⟩=some (.slice a n q)
 oth:∀o v,o≠fo→W.cell? ⟨T,o,none⟩=some v→w.cell? ⟨T,o,none⟩=some v
 own:w.ownsRow W.heap.size e k (.slice a n q) n (xs.flatMap C)
 len:n=xs.length
 kp:KP (fun j=>j=T) W w
 fr:∀o,w.frozen? ⟨T,o,none⟩=false
structure RegF (T fo:Nat) (v:Value) (e k n:Nat) (us:List Value) (B:Nat) (W6:World) (P:World→Prop):Prop where
 cur:∀w',KP (fun j=>v.ownBlock=some j) W6 w'→w'.cell? ⟨T,fo,none⟩=some (curV w' ⟨T,fo,none⟩)∧w'.frozen? ⟨T,fo,none⟩=false
 cus:∀w' x,KP (fun j=>v.ownBlock=some j) W6 w'→(w'.setCell ⟨T,fo,none⟩ x).cell? ⟨T,fo,none⟩=some (curV (w'.setCell ⟨T,fo,none⟩ x) ⟨T,fo,none⟩)∧(w'.setCell ⟨T,fo,none⟩ x).frozen? ⟨T,fo,none⟩=false
 cv:∀w',Ext W6 w'→curV w' ⟨T,fo,none⟩=v
 ss:∀w',KP (fun j=>j=T∨v.ownBlock=some j) W6 w'→w'.cell? ⟨T,fo,none⟩=some (curV w' ⟨T,fo,none⟩)∧w'.frozen? ⟨T,fo,none⟩=false→((w'.cell? ⟨T,fo,none⟩=some (curV w' ⟨T,fo,none⟩)∧w'.frozen? ⟨T,fo,none⟩=false)∧P w')∧KP (fun j=>j=T∨v.ownBlock=some j) W6 w'
 own:∀w',Ext W6 w'→w'.ownsRow B e k v n us
 base:∀w',Ext W6 w'→B≤w'.heap.size
section
variable {α:Type} {k:Nat} {C:α→List Value} {e:TypeId} {W:World} {T fo:Nat} {a:Option Addr} {n q:Nat} {xs:List α} {wo:World}
theorem AppR.start {v:Value} (hc:W.cell? ⟨T,fo,none⟩=some (.slice none 0 0)) (hf:∀o,W.frozen? ⟨T,o,none⟩=false):AppR k C e W T fo none 0 0 ([]:List α) W:=
 ⟨hc,fun _ _ _ h=>h,World.ownsRow_nil _ _ _ _,rfl,KP.refl _,hf⟩
theorem AppR.facts (h:AppR k C e W T fo a n q xs wo) (hT:T<W.heap.size) {W6:World} (hx:Ext wo W6) {P:World→Prop} (hP:∀w',KP (fun j=>j=T∨(Value.slice a n q).ownBlock=some j) W6 w'→P w'):RegF T fo (.slice a n q) e k n (xs.flatMap C) W.heap.size W6 P:=by
 have hnb:∀g,(Value.slice a n q).ownBlock=some g→W.heap.size≤g∧g<wo.heap.size:=fun g hg=>own_lt h.own hg
 have hTo:T<wo.heap.size:=lt_of_cell h.cur;have hb:¬(Value.slice a n q).ownBlock=some T:=fun e=>by have:=(hnb T e).1;omega
 have hc:∀w',KP (fun j=>(Value.slice a n q).ownBlock=some j) W6 w'→w'.cell? ⟨T,fo,none⟩=some (.slice a n q)∧w'.frozen? ⟨T,fo,none⟩=false:=fun w' k=>by
  have c6:=hx.keep h.cur;exact⟨k.keep hb c6,by rw [k.frozen (lt_of_cell c6) hb,hx.frozen hTo,h.fr fo]⟩
 exact⟨fun w' k=>⟨cur_self (hc w' k).1,(hc w' k).2⟩,fun w' x k=>⟨cur_self (World.cell?_setCell_same _ _ _ (hc w' k).1),by rw [World.frozen?_setCell];exact(hc w' k).2⟩,fun w' k=>cur_val (hc w' k.kp).1,fun w' k h=>⟨⟨h,hP w' k⟩,k⟩,fun w' k=>own_extR h.own (hx.trans k),fun w' k=>by have:=h.kp.size;have:=hx.size;have:=k.size;omega⟩
theorem AppR.box (h:AppR k C e W T fo a n q xs wo) {W6:World} {b:Nat} (hb:b=wo.heap.size) {us:List Value} (hu:∀i v,us[i]?=some v→W6.cell? ⟨b,i,none⟩=some v):∀w',KP (fun j=>j=T∨(Value.slice a n q).ownBlock=some j) W6 w'→∀i v,us[i]?=some v→w'.cell? ⟨b,i,none⟩=some v:=by
 intro w' k i v hi
 refine k.keep (fun h1=> ?_) (hu i v hi)
 rcases h1 with h1|h1
 ·have:=lt_of_cell h.cur;simp at this;omega
 ·have:=(own_lt h.own h1).2;omega
theorem AppR.old (h:AppR k C e W T fo a n q xs wo) {W6:World} (hx:Ext wo W6) {b o:Nat} {v:Value} (hbT:b≠T) (hb:b<W.heap.size) (hc:wo.cell? ⟨b,o,none⟩=some v):∀w',KP (fun j=>j=T∨(Value.slice a n q).ownBlock=some j) W6 w'→w'.cell? ⟨b,o,none⟩=some v:=by
 intro w' k
 refine k.keep (fun h1=> ?_) (hx.keep hc)
 rcases h1 with h1|h1
 ·exact hbT h1
 ·have:=(own_lt h.own h1).1;omega
theorem AppR.next (h:AppR k C e W T fo a n q xs wo) (hT:T<W.heap.size) {W6 w9 w':World} (hx:Ext wo W6) (hg:KP (fun j=>(Value.slice a n q).ownBlock=some j) W6 w9) {g cap m:Nat} {us:List Value} {y:α}
  (hown:w9.ownsRow W.heap.size e k (.slice (some ⟨g,0,none⟩) m cap) m us) (hm:m=n+1) (hu:us=xs.flatMap C++C y)
  (hx9:Ext (w9.setCell ⟨T,fo,none⟩ (.slice (some ⟨g,0,none⟩) m cap)) w'):AppR k C e W T fo (some ⟨g,0,none⟩) m cap (xs++ [y]) w':=by
 have hnb:∀g,(Value.slice a n q).ownBlock=some g→W.heap.size≤g∧g<wo.heap.size:=fun g hg=>own_lt h.own hg
 have hb:¬(Value.slice a n q).ownBlock=some T:=fun e=>by have:=(hnb T e).1;omega
 have c9:=hg.keep hb (hx.keep h.cur);have hT9:T<w9.heap.size:=lt_of_cell c9;have hT6:T<W6.heap.size:=lt_of_cell (hx.keep h.cur);have hTo:T<wo.heap.size:=lt_of_cell h.cur;subst hu;refine⟨hx9.keep (World.cell?_setCell_same _ _ _ c9),fun o v ho hc=> ?_,?_,by rw [hm,h.len];simp,?_,fun o=> ?_⟩
 ·exact hx9.keep (cell_ne (.inr ho) (hg.keep hb (hx.keep (h.oth o v ho hc))))
 ·rw [List.flatMap_append, List.flatMap_cons, List.flatMap_nil, List.append_nil]; refine own_extR (own_keep hown (fun j hj => ?_)) hx9
  have:=(own_lt hown hj).1;exact Below.heap_setCell _ _ _ _ (by simp;omega)
 ·exact(KP.setCell (KP.joinH (h.kp.ext hx) hg (fun j hj=> .inr (own_lt h.own hj).1)) rfl _).ext hx9
 ·rw [hx9.frozen (by simpa using hT9),World.frozen?_setCell,hg.frozen hT6 hb,hx.frozen hTo,h.fr o]
end
end Go.Hs
namespace Go.Hs
open Go.RowKit
end Go.Hs
namespace Go.Proofs.YtegkdnfeceomdaaGreat
open Go.RowKit Go.Hs
attribute [local irreducible] World.setCell World.alloc
end Go.Proofs.YtegkdnfeceomdaaGreat
namespace Go.Hs
open Go.RowKit Go.Proofs.YtegkdnfeceomdaaGreat
end Go.Hs
namespace Go.Proofs.YtegkdnfeceomdaaGreat
open Go.RowKit Go.Hs
attribute [local irreducible] World.setCell World.alloc
end Go.Proofs.YtegkdnfeceomdaaGreat
namespace Go.Hs
open Go.RowKit Go.Proofs.YtegkdnfeceomdaaGreat
end Go.Hs
namespace Go.Proofs.YtegkdnfeceomdaaGreat
open Go.RowKit Go.Hs
attribute [local irreducible] World.setCell World.alloc
end Go.Proofs.YtegkdnfeceomdaaGreat
