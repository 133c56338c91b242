/- Bundled: what the texts OQ HX HY HYF HZ HT say one after another. -/
import Derived.Test.YtegkdnfeceomdaaGreatKDA3
import Derived.Test.YtegkdnfeceomdaaGreatKDA6
import Derived.Test.YtegkdnfeceomdaaGreatKDC2
import Derived.Test.YtegkdnfeceomdaaGreatKDC4
import Derived.Test.YtegkdnfeceomdaaGreatKDA27
import Derived.Test.YtegkdnfeceomdaaGreatKDA4
import Derived.Test.YtegkdnfeceomdaaGreatKDC3
import Derived.Deep.AppendLies
set_option maxRecDepth 100000
set_option maxHeartbeats 16000000
set_option linter.unusedSimpArgs false
set_option linter.unusedVariables false
namespace Go.Hs
open Go.RowKit Go.Proofs.YtegkdnfeceomdaaGreat
structure AppR {α:Type} (k:Nat) (C:α→List Value) (e:TypeId) (W:World) (T fo:Nat) (a:Option Addr) (n q:Nat) (xs:List α) (w:World):Prop where
 cur:w.cell? ⟨T,fo,none⟩=some (.slice a n q)
 oth:∀o v,o≠fo→W.cell? ⟨T,o,none⟩=some v→w.cell? ⟨T,o,none⟩=some v
 own:w.ownsRow W.heap.size e k (.slice a n q) n (xs.flatMap C)
 len:n=xs.length
 kp:KP (fun j=>j=T) W w
 fr:∀o,w.frozen? ⟨T,o,none⟩=false
structure RegF (T fo:Nat) (v:Value) (e k n:Nat) (us:List Value) (B:Nat) (W6:World) (P:World→Prop):Prop where
 cur:∀w',KP (fun j=>v.ownBlock=some j) W6 w'→w'.cell? ⟨T,fo,none⟩=some (curV w' ⟨T,fo,none⟩)∧w'.frozen? ⟨T,fo,none⟩=false
 cus:∀w' x,KP (fun j=>v.ownBlock=some j) W6 w'→(w'.setCell ⟨T,fo,none⟩ x).cell? ⟨T,fo,none⟩=some (curV (w'.setCell ⟨T,fo,none⟩ x) ⟨T,fo,none⟩)∧(w'.setCell ⟨T,fo,none⟩ x).frozen? ⟨T,fo,none⟩=false
 cv:∀w',Ext W6 w'→curV w' ⟨T,fo,none⟩=v
 ss:∀w',KP (fun j=>j=T∨v.ownBlock=some j) W6 w'→w'.cell? ⟨T,fo,none⟩=some (curV w' ⟨T,fo,none⟩)∧w'.frozen? ⟨T,fo,none⟩=false→((w'.cell? ⟨T,fo,none⟩=some (curV w' ⟨T,fo,none⟩)∧w'.frozen? ⟨T,fo,none⟩=false)∧P w')∧KP (fun j=>j=T∨v.ownBlock=some j) W6 w'
 own:∀w',Ext W6 w'→w'.ownsRow B e k v n us
 base:∀w',Ext W6 w'→B≤w'.heap.size
section
variable {α:Type} {k:Nat} {C:α→List Value} {e:TypeId} {W:World} {T fo:Nat} {a:Option Addr} {n q:Nat} {xs:List α} {wo:World}
theorem AppR.start {v:Value} (hc:W.cell? ⟨T,fo,none⟩=some (.slice none 0 0)) (hf:∀o,W.frozen? ⟨T,o,none⟩=false):AppR k C e W T fo none 0 0 ([]:List α) W:=
 ⟨hc,fun _ _ _ h=>h,World.ownsRow_nil _ _ _ _,rfl,KP.refl _,hf⟩
theorem AppR.facts (h:AppR k C e W T fo a n q xs wo) (hT:T<W.heap.size) {W6:World} (hx:Ext wo W6) {P:World→Prop} (hP:∀w',KP (fun j=>j=T∨(Value.slice a n q).ownBlock=some j) W6 w'→P w'):RegF T fo (.slice a n q) e k n (xs.flatMap C) W.heap.size W6 P:=by
 have hnb:∀g,(Value.slice a n q).ownBlock=some g→W.heap.size≤g∧g<wo.heap.size:=fun g hg=>own_lt h.own hg
 have hTo:T<wo.heap.size:=lt_of_cell h.cur;have hb:¬(Value.slice a n q).ownBlock=some T:=fun e=>by have:=(hnb T e).1;omega
 have hc:∀w',KP (fun j=>(Value.slice a n q).ownBlock=some j) W6 w'→w'.cell? ⟨T,fo,none⟩=some (.slice a n q)∧w'.frozen? ⟨T,fo,none⟩=false:=fun w' k=>by
  have c6:=hx.keep h.cur;exact⟨k.keep hb c6,by rw [k.frozen (lt_of_cell c6) hb,hx.frozen hTo,h.fr fo]⟩
 exact⟨fun w' k=>⟨cur_self (hc w' k).1,(hc w' k).2⟩,fun w' x k=>⟨cur_self (World.cell?_setCell_same _ _ _ (hc w' k).1),by rw [World.frozen?_setCell];exact(hc w' k).2⟩,fun w' k=>cur_val (hc w' k.kp).1,fun w' k h=>⟨⟨h,hP w' k⟩,k⟩,fun w' k=>own_extR h.own (hx.trans k),fun w' k=>by have:=h.kp.size;have:=hx.size;have:=k.size;omega⟩
theorem AppR.box (h:AppR k C e W T fo a n q xs wo) {W6:World} {b:Nat} (hb:b=wo.heap.size) {us:List Value} (hu:∀i v,us[i]?=some v→W6.cell? ⟨b,i,none⟩=some v):∀w',KP (fun j=>j=T∨(Value.slice a n q).ownBlock=some j) W6 w'→∀i v,us[i]?=some v→w'.cell? ⟨b,i,none⟩=some v:=by
 intro w' k i v hi
 refine k.keep (fun h1=> ?_) (hu i v hi)
 rcases h1 with h1|h1
 ·have:=lt_of_cell h.cur;simp at this;omega
 ·have:=(own_lt h.own h1).2;omega
theorem AppR.old (h:AppR k C e W T fo a n q xs wo) {W6:World} (hx:Ext wo W6) {b o:Nat} {v:Value} (hbT:b≠T) (hb:b<W.heap.size) (hc:wo.cell? ⟨b,o,none⟩=some v):∀w',KP (fun j=>j=T∨(Value.slice a n q).ownBlock=some j) W6 w'→w'.cell? ⟨b,o,none⟩=some v:=by
 intro w' k
 refine k.keep (fun h1=> ?_) (hx.keep hc)
 rcases h1 with h1|h1
 ·exact hbT h1
 ·have:=(own_lt h.own h1).1;omega
theorem AppR.next (h:AppR k C e W T fo a n q xs wo) (hT:T<W.heap.size) {W6 w9 w':World} (hx:Ext wo W6) (hg:KP (fun j=>(Value.slice a n q).ownBlock=some j) W6 w9) {g cap m:Nat} {us:List Value} {y:α}
  (hown:w9.ownsRow W.heap.size e k (.slice (some ⟨g,0,none⟩) m cap) m us) (hm:m=n+1) (hu:us=xs.flatMap C++C y)
  (hx9:Ext (w9.setCell ⟨T,fo,none⟩ (.slice (some ⟨g,0,none⟩) m cap)) w'):AppR k C e W T fo (some ⟨g,0,none⟩) m cap (xs++ [y]) w':=by
 have hnb:∀g,(Value.slice a n q).ownBlock=some g→W.heap.size≤g∧g<wo.heap.size:=fun g hg=>own_lt h.own hg
 have hb:¬(Value.slice a n q).ownBlock=some T:=fun e=>by have:=(hnb T e).1;omega
 have c9:=hg.keep hb (hx.keep h.cur);have hT9:T<w9.heap.size:=lt_of_cell c9;have hT6:T<W6.heap.size:=lt_of_cell (hx.keep h.cur);have hTo:T<wo.heap.size:=lt_of_cell h.cur;subst hu;refine⟨hx9.keep (World.cell?_setCell_same _ _ _ c9),fun o v ho hc=> ?_,?_,by rw [hm,h.len];simp,?_,fun o=> ?_⟩
 ·exact hx9.keep (cell_ne (.inr ho) (hg.keep hb (hx.keep (h.oth o v ho hc))))
 ·rw [List.flatMap_append, List.flatMap_cons, List.flatMap_nil, List.append_nil]; refine own_extR (own_keep hown (fun j hj => ?_)) hx9
  have:=(own_lt hown hj).1;exact Below.heap_setCell _ _ _ _ (by simp;omega)
 ·exact(KP.setCell (KP.joinH (h.kp.ext hx) hg (fun j hj=> .inr (own_lt h.own hj).1)) rfl _).ext hx9
 ·rw [hx9.frozen (by simpa using hT9),World.frozen?_setCell,hg.frozen hT6 hb,hx.frozen hTo,h.fr o]
end
end Go.Hs
namespace Go.Hs
open Go.RowKit
def bitB (m p:Nat):Bool:=m / 2 ^ p % 2==1
def bitsUp (m p:Nat):List Int:=((List.range p).filter (bitB m)).map (fun n:Nat=>(n:Int))
def bitsH (m:Nat):List Int:=bitsUp m 12
theorem bitsUp_next (m p:Nat):bitsUp m (p+1)=if bitB m p then bitsUp m p++ [(p:Int)] else bitsUp m p:=by
 unfold bitsUp;rw [List.range_succ,List.filter_append];cases h:bitB m p<;>simp [h]
theorem bitB_none {m p q:Nat} (h:m / 2 ^ p=0) (hq:p≤q):bitB m q=false:=by
 obtain⟨d,rfl⟩:∃d,q=p+d:=⟨q - p,by omega⟩;unfold bitB;rw [Nat.pow_add,←Nat.div_div_eq_div_mul,h];simp
theorem bitsUp_end {m p:Nat} (h:m / 2 ^ p=0) (d:Nat):bitsUp m (p+d)=bitsUp m p:=by
 induction d with
 |zero=>rfl
 |succ d ih=>rw [←Nat.add_assoc,bitsUp_next,bitB_none h (by omega),ih];rfl
theorem bitsH_end {m p:Nat} (h:m / 2 ^ p=0) (hp:p≤12):bitsUp m p=bitsH m:=by
 have:=bitsUp_end h (12 - p);rw [show p+(12 - p)=12 by omega] at this;exact this.symm
theorem bits_room {m p:Nat} (hm:m<4096) (h:0<m / 2 ^ p):p<12:=by
 rcases Nat.lt_or_ge p 12 with g|g
 ·exact g
 ·have h1:2 ^ 12≤2 ^ p:=Nat.pow_le_pow_right (by decide) g;have h2:m / 2 ^ p=0:=Nat.div_eq_of_lt (by omega);omega
theorem bitsUp_len (m p:Nat):(bitsUp m p).length≤p:=by
 have:=List.length_filter_le (bitB m) (List.range p);simpa [bitsUp] using this
theorem bitsUp_mem {m p:Nat} {x:Int} (h:x∈bitsUp m p):0≤x∧x<p:=by
 obtain⟨n,hn,rfl⟩:=List.mem_map.1 h;have:=(List.mem_filter.1 hn).1;have:=List.mem_range.1 this;omega
def shorterI (a b:List Int):Bool:=decide (a.length<b.length)||(decide (a.length=b.length)&&beforeI a b)
end Go.Hs
namespace Go.Proofs.YtegkdnfeceomdaaGreat
open Go.RowKit Go.Hs
attribute [local irreducible] World.setCell World.alloc
theorem Bits_h (m:Nat) (hm:m<4096) (w:World):
  Calls Tryz.prog 53 #[.int .i64 (m:Int)] w fun e w'=>∃v,e= .returned v∧IntsV w' v (bitsH m)∧Ext w w':=by
 obtain⟨i0,hi0,hz0,hz1,hz2⟩:=info_parts info_int;go_enter Tryz.func53,Tryz.ntmps53
 (go_wp2_with fail);go_loopw [3,4] (fun s3 s4 wr=>∃(p n:Nat) (a:Option Addr) (q:Nat),p<13∧s4= .int .i64 p∧s3= .slice a n q∧Hid (n=(bitsUp m p).length∧wr.ownsRow w.heap.size 3 1 (.slice a n q) n ((bitsUp m p).map (Value.int .i64)))∧Ext w wr) (fun _ s _=>20 - (intOf s).toNat)
 case atStart=>exact⟨0,0,none,0,by decide,rfl,rfl,⟨rfl,World.ownsRow_nil _ _ _ _⟩,Ext.refl _⟩
 case round =>
  obtain⟨p,n,a,q,hp,rfl,rfl,HO,hx⟩:=hrel;obtain⟨wo,rfl⟩:∃x,x=wr:=⟨_,rfl⟩;have hp0:(0:Int)≤(p:Int):=by omega
  have hp64:(p:Int)≤64:=by omega
  obtain⟨s,hs⟩:∃s,s=m / 2 ^ p:=⟨_,rfl⟩;have hsl:s<4096:=by rw [hs];exact Nat.lt_of_le_of_lt (Nat.div_le_self _ _) hm
  have hs':(m:Int) / 2 ^ p=(s:Int):=by rw [hs];simp
  have HSE:=hHd hs;clear hs;by_cases hz:0<s
  ·have hz' : decide ((0 : Int) < (s : Int)) = true := decide_eq_true (by omega); have hp5 : p < 12 := bits_room hm (by rw [← HSE.out]; exact hz); obtain ⟨d, hd⟩ : ∃ d, d = s % 2 := ⟨_, rfl⟩; have hd1 : (s : Int) % 2 = (d : Int) := by omega
   have hd2:(s:Int).tmod 2=(d:Int):=by rw [Int.tmod_eq_emod_of_nonneg (by omega)];exact hd1
   have hdw:IntKind.i64.wrap (d:Int)=(d:Int):=IntWalk.i64_in _ (by omega);have HT:Hid (bitB m p=(d==1)):=hHd (by unfold bitB;rw [←HSE.out,hd]);have hd01:d=0∨d=1:=by omega
   clear hd;rcases hd01 with rfl|rfl
   ·have HN : Hid (bitsUp m (p + 1) = bitsUp m p) := hHd (by rw [bitsUp_next, HT.out]; rfl); clear HT; (go_wp2_with fail); go_roundw
    case rel=>exact⟨p+1,n,a,q,by omega,by go_num,rfl,hHd (by rw [HN.out];exact HO.out),hx⟩
    case measure=>simp [intOf];omega
   ·have HN : Hid (bitsUp m (p + 1) = bitsUp m p ++ [(p : Int)]) := hHd (by rw [bitsUp_next, HT.out]; rfl); have hnl : n ≤ 12 := by have := bitsUp_len m p; have := HO.out.1; omega
    have OWN:=hHd HO.out.2;have HL:=hHd HO.out.1;clear HT HO;go_wp2_with (at_builtin;refine wpList_append_own_at _ rfl _ _ 22 rfl w.heap.size 3 i0 (.int .i64 0) 1 8 Tryz.underlying22 hi0 hz0 hz1 hz2 rfl (by decide) (.slice a n q) n ((bitsUp m p).map (Value.int .i64)) rfl ?own ⟨wo.heap.size,0,none⟩ 1 1 [.int .i64 (p:Int)] rfl rfl (one_inN (Ext.refl _) rfl) ?one ?fit1 ?fit2 ?fit3 ?next)
    case own=>exact own_keep OWN.out (fun g hg=>((Ext.refl wo).alloc _).heap (own_lt OWN.out hg).2)
    case one=>
     intro u hu
     simp only [List.mem_cons,List.not_mem_nil,or_false] at hu;rw [hu];rfl
    case fit1=>simp only [maxLen];omega
    case fit2=>omega
    case fit3=>have h1:=hx.size;simp;omega
    case next=>
     intro v' w3 hown hgrow hnil hat
     have hx3:Ext w w3:=grown_ext (hx.alloc _) hgrow (fun g hg=>(own_lt OWN.out hg).1)
     have HO3:Hid (n+1=(bitsUp m (p+1)).length∧w3.ownsRow w.heap.size 3 1 v' (n+1) ((bitsUp m (p+1)).map (Value.int .i64))):=hHd (by
      rw [HN.out];exact⟨by rw [List.length_append,←HL.out];rfl,by simpa using hown⟩)
     rcases own_open hown with ⟨-,h0⟩|⟨g,cap,rfl,-,-,-,-⟩
     ·omega
     ·clear hown hgrow hnil hat; (go_wp2_with fail); go_roundw
      case rel=>exact⟨p+1,n+1,_,_,by omega,by go_num,rfl,HO3,hx3⟩
      case measure=>simp [intOf];omega
  ·have e : s = 0 := by omega
   subst e;have he:=bitsH_end (m:=m) (p:=p) HSE.out.symm (by omega)
   have HV:Hid (IntsV wo (.slice a n q) (bitsH m)):=hHd (by
    have h:=own_intsV HO.out.2 rfl HO.out.1 (fun x hx=>by have:=bitsUp_mem hx;exact⟨by omega,by omega⟩) (by have:=bitsUp_len m p;omega);rw [he] at h;exact h)
   clear he HO;(go_wp2_with fail);go_ret;exact⟨_,rfl,HV.out,hx⟩
theorem Before_h (v u:Value) (a b:List Int) (w:World) (hv:IntsV w v a) (hu:IntsV w u b) (ha:a.length≤1000) (_:b.length≤1000):
  Calls Tryz.prog 113 #[v,u] w fun e w'=>e= .returned (.bool (beforeI a b))∧Ext w w':=by
 obtain⟨p,c,rfl,h1,hr⟩:=hv.cellsI;obtain⟨q,d,rfl,h2,hs⟩:=hu.cellsI;have HR:=hHd hr;have HS:=hHd hs;have HAT:Hid (∀i,(∀j,j<i→a.getD j 0=b.getD j 0)→i<a.length→i<b.length→a.getD i 0≠b.getD i 0→beforeI a b=decide (a.getD i 0<b.getD i 0)):=hHd (fun i h1 h2 h3 h4=>beforeI_at h1 h2 h3 h4);have HEN:Hid (∀i,(∀j,j<i→a.getD j 0=b.getD j 0)→i≤a.length→i≤b.length→(i=a.length∨i=b.length)→beforeI a b=decide (a.length<b.length)):=hHd (fun i h1 h2 h3 h4=>beforeI_end h1 h2 h3 h4);clear hv hu hr hs;generalize hres:beforeI a b=res at*;clear hres;go_enter Tryz.func113,Tryz.ntmps113
 (go_wp2_with fail);go_loopw [5] (fun s5 wr=>∃i:Nat,i≤a.length∧i≤b.length∧s5= .int .i64 i∧Hid (∀j,j<i→a.getD j 0=b.getD j 0)∧Ext w wr) (fun s _=>a.length - (intOf s).toNat)
 case atStart=>exact⟨0,Nat.zero_le _,Nat.zero_le _,rfl,hHd (fun j hj=>absurd hj (Nat.not_lt_zero _)),Ext.refl _⟩
 case round=>
  obtain⟨i,hia,hib,rfl,HI,hx⟩:=hrel;obtain⟨wo,rfl⟩:∃x,x=wr:=⟨_,rfl⟩;by_cases hla:i<a.length
  ·by_cases hlb : i < b.length
   ·obtain ⟨b1, o1, rfl, q1⟩ := HR.out i hla; obtain ⟨b2, o2, rfl, q2⟩ := HS.out i hlb; replace q1 := hx.keep q1; replace q2 := hx.keep q2; have HNE : Hid (a.getD i 0 ≠ b.getD i 0 → res = decide (a.getD i 0 < b.getD i 0)) := hHd (fun h => HAT.out i HI.out hla hlb h)
    have HEQ:Hid (a.getD i 0=b.getD i 0→∀j,j<i+1→a.getD j 0=b.getD j 0):=hHd (fun h j hj=>by
     rcases Nat.lt_succ_iff_lt_or_eq.1 hj with g|rfl
     ·exact HI.out j g
     ·exact h)
    have hi0:(0:Int)≤(i:Int):=by omega
    have hi1:(i:Int)<(a.length:Int):=by omega
    have hi2:(i:Int)<(b.length:Int):=by omega
    have G1:∀w',Ext wo w'→w'.cell? ⟨b1,o1+i,none⟩=some (.int .i64 (a.getD i 0)):=fun w' h=>h.keep q1
    have G2:∀w',Ext wo w'→w'.cell? ⟨b2,o2+i,none⟩=some (.int .i64 (b.getD i 0)):=fun w' h=>h.keep q2
    clear HI HAT HEN;generalize a.getD i 0=x at*;generalize b.getD i 0=y at*;by_cases hxy:x=y
    ·have HE := hHd (HEQ.out hxy); subst hxy; (go_wp2_with fail); go_quiet (fail)
     (go_wp2_with fail);go_roundw
     case rel=>exact⟨i+1,by omega,by omega,by go_num,HE,EX⟩
     case measure=>simp [intOf];omega
    ·have he := HNE.out hxy; have hn : (x != y) = true := by rw [bne_iff_ne]; exact hxy
     have HEE:=hHd he;clear HNE HEQ he;(go_wp2_with fail);go_quiet (fail)
     (go_wp2_with fail);have r1:=G1 _ (show Ext wo _ from EX);go_quiet (fail)
     (go_wp2_with fail);go_ret;exact⟨by rw [HEE.out];simp,EX⟩
   ·have e : i = b.length := by omega
    have he:=HEN.out i HI.out hia hib (.inr e);have hdd:decide (a.length<b.length)=decide ((a.length:Int)<(b.length:Int)):=by simp
    rw [hdd] at he;have HEE:=hHd he;clear HI HAT HEN he hdd;(go_wp2_with fail);go_ret;exact⟨by rw [HEE.out];simp,hx⟩
  ·have e : i = a.length := by omega
   have he:=HEN.out i HI.out hia hib (.inl e);have hdd:decide (a.length<b.length)=decide ((a.length:Int)<(b.length:Int)):=by simp
   rw [hdd] at he;have HEE:=hHd he;clear HI HAT HEN he hdd;(go_wp2_with fail);go_ret;exact⟨by rw [HEE.out];simp,hx⟩
theorem Shorter_h (v u:Value) (a b:List Int) (w:World) (hv:IntsV w v a) (hu:IntsV w u b) (ha:a.length≤1000) (hb:b.length≤1000):
  Calls Tryz.prog 52 #[v,u] w fun e w'=>e= .returned (.bool (shorterI a b))∧Ext w w':=by
 have HB:=hHd (Before_h v u a b w hv hu ha hb);obtain⟨p,c,rfl,h1,-⟩:=hv.cellsI;obtain⟨q,d,rfl,h2,-⟩:=hu.cellsI;have HE:Hid (shorterI a b=(decide (a.length<b.length)||(decide (a.length=b.length)&&beforeI a b))):=rfl;generalize hr:shorterI a b=res at*;generalize beforeI a b=bf at*;clear hv hu hr;generalize a.length=n at*;generalize b.length=m at*;go_enter Tryz.func52,Tryz.ntmps52
 by_cases e:n<m
 ·have d1 : decide ((n : Int) < (m : Int)) = true := decide_eq_true (by omega); have d2 : ((n : Int) == (m : Int)) = false := by rw [beq_eq_false_iff_ne]; omega
  have he:res=true:=by rw [HE.out,decide_eq_true e];rfl
  subst he;clear HE;(go_wp2_with fail);go_ret;exact⟨rfl,Ext.refl _⟩
 ·have d1 : decide ((n : Int) < (m : Int)) = false := decide_eq_false (by omega); by_cases g : n = m
  ·subst g; have he : res = bf := by rw [HE.out]; simp
   subst he;clear HE;have d2:((n:Int)==(n:Int))=true:=by simp
   (go_wp2_with fail);(with_reducible refine HB.out.mono ?_);rintro e w1 ⟨rfl,hx⟩;(go_wp2_with fail);go_ret;exact⟨rfl,hx⟩
  ·have d2 : ((n : Int) == (m : Int)) = false := by rw [beq_eq_false_iff_ne]; omega
   have he:res=false:=by rw [HE.out,decide_eq_false e,decide_eq_false g];rfl
   subst he;clear HE;(go_wp2_with fail);go_ret;exact⟨rfl,Ext.refl _⟩
theorem Full_h (A:CaseA) (c:DCas) (w:World) (hn:c.clms.length≤5):
  Calls Tryz.prog 51 #[A.v c] w fun e w'=>e= .returned (.int .i64 (2 ^ c.clms.length - 1))∧Ext w w':=by
 obtain⟨a1,c1,a2,c2,a3,c3,a4,c4⟩:=A;unfold CaseA.v caseV at*;simp only at*;generalize c.clms.length=n at*;go_enter Tryz.func51,Tryz.ntmps51
 (go_wp2_with fail);obtain⟨W,hW,X,HS,HSf,HSz⟩:=bx11 w 41 (.int .i64 c.bk.last) (.int .i64 c.bk.owners) (.slice a1 c.bk.pars.length c1) (.slice a2 c.bk.ents.length c2) (.int .i64 c.soc) (.int .i64 c.day) (.int .i64 c.parcel) (.slice a3 c.covs.length c3) (.int .i64 c.llo) (.int .i64 c.lhi) (.slice a4 n c4);rw [hW];clear hW;obtain⟨⟨q0,q1,q2,q3,q4,q5,q6,q7,q8,q9,q10⟩,-⟩:=HS.out W (Ext.refl _);clear q0 q1 q2 q3 q4 q5 q6 q7 q8 q9;obtain rfl|rfl|rfl|rfl|rfl|rfl:n=0∨n=1∨n=2∨n=3∨n=4∨n=5:=by omega
 all_goals
  (go_wp2_with fail);go_ret;exact⟨congrArg (fun z=>Ending.returned (.int .i64 z)) (by decide+kernel),EX⟩
def canB (all:List Int) (m:Int):Bool:=all.any (fun x=>decide (0≤x)&&(bits BinOp.and IntKind.i64 x m==m))
end Go.Proofs.YtegkdnfeceomdaaGreat
namespace Go.Hs
open Go.RowKit Go.Proofs.YtegkdnfeceomdaaGreat
theorem bitsH_len (m:Nat):(bitsH m).length≤12:=bitsUp_len m 12
end Go.Hs
namespace Go.Proofs.YtegkdnfeceomdaaGreat
open Go.RowKit Go.Hs
attribute [local irreducible] World.setCell World.alloc
end Go.Proofs.YtegkdnfeceomdaaGreat
namespace Go.Hs
open Go.RowKit Go.Proofs.YtegkdnfeceomdaaGreat
theorem digs_next {rs:List (Int×Int)} {n:Int} {k:Nat} (h:k<rs.length):digs (rs.take (k+1)) n=digs (rs.take k) n++ [rs[k].1+digR (rs.take k) n % (rs[k].2 - rs[k].1+1)]:=by
 rw [List.take_succ_eq_append_getElem h,digs_append];rfl
theorem digR_next {rs:List (Int×Int)} {n:Int} {k:Nat} (h:k<rs.length):digR (rs.take (k+1)) n=digR (rs.take k) n / (rs[k].2 - rs[k].1+1):=by
 rw [List.take_succ_eq_append_getElem h,digR_append];rfl
theorem digR_bd {rs:List (Int×Int)} {n:Int} (hr:∀r∈rs,r.1≤r.2) (h0:0≤n) (k:Nat):0≤digR (rs.take k) n∧digR (rs.take k) n≤n:=
 ⟨digR_nonneg (fun r h=>hr r (List.mem_of_mem_take h)) h0,digR_le (fun r h=>hr r (List.mem_of_mem_take h)) h0⟩
theorem digit_in {lo hi n:Int} (h:lo≤hi):lo≤lo+n % (hi - lo+1)∧lo+n % (hi - lo+1)≤hi:=by
 have h1:=Int.emod_nonneg n (show hi - lo+1≠0 by omega);have h2:=Int.emod_lt_of_pos n (show 0<hi - lo+1 by omega);omega
def maskOf:List Bool→Nat
 | []=>0
 |b::l=>(if b then 1 else 0)+2*maskOf l
theorem maskOf_lt:∀l:List Bool,maskOf l<2 ^ l.length
  | []=>by decide
  | b :: l => by
    have:=maskOf_lt l;simp only [maskOf,List.length_cons,Nat.pow_succ];cases b<;>simp<;>omega
theorem maskOf_bit:∀(l:List Bool) (i:Nat),bitB (maskOf l) i=l.getD i false
  | [],i=>by simp [maskOf,bitB]
  | b :: l, 0 => by
    simp only [maskOf,bitB,Nat.pow_zero,Nat.div_one,List.getD_cons_zero];cases b<;>simp<;>omega
  | b :: l, i + 1 => by
    have:=maskOf_bit l i;simp only [List.getD_cons_succ];rw [←this];unfold bitB;rw [Nat.pow_succ,Nat.mul_comm,←Nat.div_div_eq_div_mul]
    have e:maskOf (b::l) / 2=maskOf l:=by
      simp only [maskOf];cases b<;>simp<;>omega
    rw [e]
theorem and_mask:∀x:Nat,x<32→∀m:Nat,m<32→(bits BinOp.and IntKind.i64 (x:Int) (m:Int)==(m:Int))=(List.range 5).all (fun i=> !bitB m i||bitB x i):=by decide+kernel
theorem andNot_mask:∀n:Nat,n<6→∀m:Nat,m<2 ^ n→bits BinOp.andNot IntKind.i64 ((2 ^ n - 1:Nat):Int) (m:Int)=((2 ^ n - 1 - m:Nat):Int):=by decide+kernel
theorem left_bit:∀n:Nat,n<6→∀m:Nat,m<2 ^ n→∀i,i<n→bitB (2 ^ n - 1 - m) i= !bitB m i:=by decide+kernel
end Go.Hs
namespace Go.Proofs.YtegkdnfeceomdaaGreat
open Go.RowKit Go.Hs
attribute [local irreducible] World.setCell World.alloc
end Go.Proofs.YtegkdnfeceomdaaGreat
