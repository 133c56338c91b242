/- Bundled: what the texts OQ HX HY HYF HZ HT say one after another. -/
import Derived.Test.YtegkdnfeceomdaaGreatKDA3
import Derived.Test.YtegkdnfeceomdaaGreatKDA6
import Derived.Test.YtegkdnfeceomdaaGreatKDC2
import Derived.Test.YtegkdnfeceomdaaGreatKDC4
import Derived.Test.YtegkdnfeceomdaaGreatKDA27
import Derived.Test.YtegkdnfeceomdaaGreatKDA4
import Derived.Test.YtegkdnfeceomdaaGreatKDC3
import Derived.Deep.AppendLies
set_option maxRecDepth 100000
set_option maxHeartbeats 16000000
set_option linter.unusedSimpArgs false
set_option linter.unusedVariables false
namespace Go.Hs
open Go.RowKit Go.Proofs.YtegkdnfeceomdaaGreat
structure AppR {α:Type} (k:Nat) (C:α→List Value) (e:TypeId) (W:World) (T fo:Nat) (a:Option Addr) (n q:Nat) (xs:List α) (w:World):Prop where
 cur:w.cell? ⟨T,fo,none⟩=some (.slice a n q)
 oth:∀o v,o≠fo→W.cell? ⟨T,o,none⟩=some v→w.cell? ⟨T,o,none⟩=some v
 own:w.ownsRow W.heap.size e k (.slice a n q) n (xs.flatMap C)
 len:n=xs.length
 kp:KP (fun j=>j=T) W w
 fr:∀o,w.frozen? ⟨T,o,none⟩=false
structure RegF (T fo:Nat) (v:Value) (e k n:Nat) (us:List Value) (B:Nat) (W6:World) (P:World→Prop):Prop where
 cur:∀w',KP (fun j=>v.ownBlock=some j) W6 w'→w'.cell? ⟨T,fo,none⟩=some (curV w' ⟨T,fo,none⟩)∧w'.frozen? ⟨T,fo,none⟩=false
 cus:∀w' x,KP (fun j=>v.ownBlock=some j) W6 w'→(w'.setCell ⟨T,fo,none⟩ x).cell? ⟨T,fo,none⟩=some (curV (w'.setCell ⟨T,fo,none⟩ x) ⟨T,fo,none⟩)∧(w'.setCell ⟨T,fo,none⟩ x).frozen? ⟨T,fo,none⟩=false
 cv:∀w',Ext W6 w'→curV w' ⟨T,fo,none⟩=v
 ss:∀w',KP (fun j=>j=T∨v.ownBlock=some j) W6 w'→w'.cell? ⟨T,fo,none⟩=some (curV w' ⟨T,fo,none⟩)∧w'.frozen? ⟨T,fo,none⟩=false→((w'.cell? ⟨T,fo,none⟩=some (curV w' ⟨T,fo,none⟩)∧w'.frozen? ⟨T,fo,none⟩=false)∧P w')∧KP (fun j=>j=T∨v.ownBlock=some j) W6 w'
 own:∀w',Ext W6 w'→w'.ownsRow B e k v n us
 base:∀w',Ext W6 w'→B≤w'.heap.size
section
variable {α:Type} {k:Nat} {C:α→List Value} {e:TypeId} {W:World} {T fo:Nat} {a:Option Addr} {n q:Nat} {xs:List α} {wo:World}
theorem AppR.start {v:Value} (hc:W.cell? ⟨T,fo,none⟩=some (.slice none 0 0)) (hf:∀o,W.frozen? ⟨T,o,none⟩=false):AppR k C e W T fo none 0 0 ([]:List α) W:=
 ⟨hc,fun _ _ _ h=>h,World.ownsRow_nil _ _ _ _,rfl,KP.refl _,hf⟩
theorem AppR.facts (h:AppR k C e W T fo a n q xs wo) (hT:T<W.heap.size) {W6:World} (hx:Ext wo W6) {P:World→Prop} (hP:∀w',KP (fun j=>j=T∨(Value.slice a n q).ownBlock=some j) W6 w'→P w'):RegF T fo (.slice a n q) e k n (xs.flatMap C) W.heap.size W6 P:=by
 have hnb:∀g,(Value.slice a n q).ownBlock=some g→W.heap.size≤g∧g<wo.heap.size:=fun g hg=>own_lt h.own hg
 have hTo:T<wo.heap.size:=lt_of_cell h.cur;have hb:¬(Value.slice a n q).ownBlock=some T:=fun e=>by have:=(hnb T e).1;omega
 have hc:∀w',KP (fun j=>(Value.slice a n q).ownBlock=some j) W6 w'→w'.cell? ⟨T,fo,none⟩=some (.slice a n q)∧w'.frozen? ⟨T,fo,none⟩=false:=fun w' k=>by
  have c6:=hx.keep h.cur;exact⟨k.keep hb c6,by rw [k.frozen (lt_of_cell c6) hb,hx.frozen hTo,h.fr fo]⟩
 exact⟨fun w' k=>⟨cur_self (hc w' k).1,(hc w' k).2⟩,fun w' x k=>⟨cur_self (World.cell?_setCell_same _ _ _ (hc w' k).1),by rw [World.frozen?_setCell];exact(hc w' k).2⟩,fun w' k=>cur_val (hc w' k.kp).1,fun w' k h=>⟨⟨h,hP w' k⟩,k⟩,fun w' k=>own_extR h.own (hx.trans k),fun w' k=>by have:=h.kp.size;have:=hx.size;have:=k.size;omega⟩
theorem AppR.box (h:AppR k C e W T fo a n q xs wo) {W6:World} {b:Nat} (hb:b=wo.heap.size) {us:List Value} (hu:∀i v,us[i]?=some v→W6.cell? ⟨b,i,none⟩=some v):∀w',KP (fun j=>j=T∨(Value.slice a n q).ownBlock=some j) W6 w'→∀i v,us[i]?=some v→w'.cell? ⟨b,i,none⟩=some v:=by
 intro w' k i v hi
 refine k.keep (fun h1=> ?_) (hu i v hi)
 rcases h1 with h1|h1
 ·have:=lt_of_cell h.cur;simp at this;omega
 ·have:=(own_lt h.own h1).2;omega
theorem AppR.old (h:AppR k C e W T fo a n q xs wo) {W6:World} (hx:Ext wo W6) {b o:Nat} {v:Value} (hbT:b≠T) (hb:b<W.heap.size) (hc:wo.cell? ⟨b,o,none⟩=some v):∀w',KP (fun j=>j=T∨(Value.slice a n q).ownBlock=some j) W6 w'→w'.cell? ⟨b,o,none⟩=some v:=by
 intro w' k
 refine k.keep (fun h1=> ?_) (hx.keep hc)
 rcases h1 with h1|h1
 ·exact hbT h1
 ·have:=(own_lt h.own h1).1;omega
theorem AppR.next (h:AppR k C e W T fo a n q xs wo) (hT:T<W.heap.size) {W6 w9 w':World} (hx:Ext wo W6) (hg:KP (fun j=>(Value.slice a n q).ownBlock=some j) W6 w9) {g cap m:Nat} {us:List Value} {y:α}
  (hown:w9.ownsRow W.heap.size e k (.slice (some ⟨g,0,none⟩) m cap) m us) (hm:m=n+1) (hu:us=xs.flatMap C++C y)
  (hx9:Ext (w9.setCell ⟨T,fo,none⟩ (.slice (some ⟨g,0,none⟩) m cap)) w'):AppR k C e W T fo (some ⟨g,0,none⟩) m cap (xs++ [y]) w':=by
 have hnb:∀g,(Value.slice a n q).ownBlock=some g→W.heap.size≤g∧g<wo.heap.size:=fun g hg=>own_lt h.own hg
 have hb:¬(Value.slice a n q).ownBlock=some T:=fun e=>by have:=(hnb T e).1;omega
 have c9:=hg.keep hb (hx.keep h.cur);have hT9:T<w9.heap.size:=lt_of_cell c9;have hT6:T<W6.heap.size:=lt_of_cell (hx.keep h.cur);have hTo:T<wo.heap.size:=lt_of_cell h.cur;subst hu;refine⟨hx9.keep (World.cell?_setCell_same _ _ _ c9),fun o v ho hc=> ?_,?_,by rw [hm,h.len];simp,?_,fun o=> ?_⟩
 ·exact hx9.keep (cell_ne (.inr ho) (hg.keep hb (hx.keep (h.oth o v ho hc))))
 ·rw [List.flatMap_append, List.flatMap_cons, List.flatMap_nil, List.append_nil]; refine own_extR (own_keep hown (fun j hj => ?_)) hx9
  have:=(own_lt hown hj).1;exact Below.heap_setCell _ _ _ _ (by simp;omega)
 ·exact(KP.setCell (KP.joinH (h.kp.ext hx) hg (fun j hj=> .inr (own_lt h.own hj).1)) rfl _).ext hx9
 ·rw [hx9.frozen (by simpa using hT9),World.frozen?_setCell,hg.frozen hT6 hb,hx.frozen hTo,h.fr o]
end
end Go.Hs
namespace Go.Hs
open Go.RowKit
def bitB (m p:Nat):Bool:=m / 2 ^ p % 2==1
end Go.Hs
namespace Go.Proofs.YtegkdnfeceomdaaGreat
open Go.RowKit Go.Hs
attribute [local irreducible] World.setCell World.alloc
theorem Full_h (A:CaseA) (c:DCas) (w:World) (hn:c.clms.length≤5):
  Calls Tryz.prog 51 #[A.v c] w fun e w'=>e= .returned (.int .i64 (2 ^ c.clms.length - 1))∧Ext w w':=by
 obtain⟨a1,c1,a2,c2,a3,c3,a4,c4⟩:=A;unfold CaseA.v caseV at*;simp only at*;generalize c.clms.length=n at*;go_enter Tryz.func51,Tryz.ntmps51
 (go_wp2_with fail);obtain⟨W,hW,X,HS,HSf,HSz⟩:=bx11 w 41 (.int .i64 c.bk.last) (.int .i64 c.bk.owners) (.slice a1 c.bk.pars.length c1) (.slice a2 c.bk.ents.length c2) (.int .i64 c.soc) (.int .i64 c.day) (.int .i64 c.parcel) (.slice a3 c.covs.length c3) (.int .i64 c.llo) (.int .i64 c.lhi) (.slice a4 n c4);rw [hW];clear hW;obtain⟨⟨q0,q1,q2,q3,q4,q5,q6,q7,q8,q9,q10⟩,-⟩:=HS.out W (Ext.refl _);clear q0 q1 q2 q3 q4 q5 q6 q7 q8 q9;obtain rfl|rfl|rfl|rfl|rfl|rfl:n=0∨n=1∨n=2∨n=3∨n=4∨n=5:=by omega
 all_goals
  (go_wp2_with fail);go_ret;exact⟨congrArg (fun z=>Ending.returned (.int .i64 z)) (by decide+kernel),EX⟩
def canB (all:List Int) (m:Int):Bool:=all.any (fun x=>decide (0≤x)&&(bits BinOp.and IntKind.i64 x m==m))
theorem Can_h (v : Value) (l : List Int) (m : Int) (w : World) (hv : IntsV w v l) :
    Calls Tryz.prog 96 #[v,.int .i64 m] w fun e w'=>e= .returned (.bool (canB l m))∧Ext w w':=by
  obtain⟨p,c,rfl,h1,hr⟩:=hv.cellsI;have HR:=hHd hr
  have HT:Hid (∀k,k<l.length→(decide (0≤l.getD k 0)&&(bits BinOp.and IntKind.i64 (l.getD k 0) m==m))=true→canB l m=true):=hHd (fun k hk h=>by
    unfold canB;rw [List.any_eq_true];have e:l.getD k 0=l[k]:=by simp [hk]
    exact⟨l.getD k 0,by rw [e];exact List.getElem_mem hk,h⟩)
  have HF:Hid ((∀k,k<l.length→(decide (0≤l.getD k 0)&&(bits BinOp.and IntKind.i64 (l.getD k 0) m==m))=false)→canB l m=false):=hHd (fun h=>by
    unfold canB;rw [List.any_eq_false];intro x hx
    obtain⟨k,hk,rfl⟩:=List.getElem_of_mem hx;have e:l.getD k 0=l[k]:=by simp [hk]
    have:=h k hk;rw [e] at this;rw [this];simp)
  have hlen:l.length≤140737488351232:=by obtain⟨_,_,_,_,h,_⟩:=hv;exact h
  clear hv hr;generalize canB l m=res at*;go_enter Tryz.func96,Tryz.ntmps96
  (go_wp2_with fail);go_loopw [5] (fun s5 wr=>∃k:Nat,k≤l.length∧s5= .int .i64 k∧Hid (∀j,j<k→(decide (0≤l.getD j 0)&&(bits BinOp.and IntKind.i64 (l.getD j 0) m==m))=false)∧Ext w wr) (fun s _=>l.length - (intOf s).toNat)
  case atStart=>exact⟨0,Nat.zero_le _,rfl,hHd (fun j hj=>absurd hj (Nat.not_lt_zero _)),Ext.refl _⟩
  case round=>
    obtain⟨k,hk,rfl,HI,hx⟩:=hrel;obtain⟨wo,rfl⟩:∃x,x=wr:=⟨_,rfl⟩;by_cases hlt:k<l.length
    · obtain ⟨b1, o1, rfl, g1⟩ := HR.out k hlt; replace g1 := hx.keep g1; have hk0 : (0 : Int) ≤ (k : Int) := by omega
      have hk1:(k:Int)<(l.length:Int):=by omega
      have HT2:=hHd (HT.out k hlt)
      have HI2:Hid ((decide (0≤l.getD k 0)&&(bits BinOp.and IntKind.i64 (l.getD k 0) m==m))=false→∀j,j<k+1→(decide (0≤l.getD j 0)&&(bits BinOp.and IntKind.i64 (l.getD j 0) m==m))=false):=hHd (fun h j hj=>by
        rcases Nat.lt_succ_iff_lt_or_eq.1 hj with g|rfl
        · exact HI.out j g
        · exact h)
      clear HI HT HF HR;generalize l.getD k 0=x at*;obtain⟨y,hy⟩:∃y,bits BinOp.and IntKind.i64 x m=y:=⟨_,rfl⟩;have HY:=hHd hy;rw [hy] at HT2 HI2;obtain⟨z,hz⟩:∃z,(y==m)=z:=⟨_,rfl⟩;rw [hz] at HT2 HI2;by_cases h0:0≤x
      · have d0 : decide (0 ≤ x) = true := decide_eq_true h0; rw [d0] at HT2 HI2; cases z with
        | true =>
          have he:=HT2.out rfl;subst he;clear HT2 HI2;(go_wp2_with fail);go_ret;exact⟨rfl,hx⟩
        | false =>
          have HI3:=hHd (HI2.out rfl);clear HT2 HI2;(go_wp2_with fail);go_roundw
          case rel=>exact⟨k+1,by omega,by go_num,HI3,hx⟩
          case measure=>simp [intOf];omega
      · have d0 : decide (0 ≤ x) = false := decide_eq_false h0; rw [d0] at HT2 HI2; have HI3 := hHd (HI2.out rfl); clear HT2 HI2; (go_wp2_with fail); go_roundw
        case rel=>exact⟨k+1,by omega,by go_num,HI3,hx⟩
        case measure=>simp [intOf];omega
    · have e : k = l.length := by omega
      subst e;have he:=HF.out HI.out;subst he;clear HI HT HF HR;(go_wp2_with fail);go_ret;exact⟨rfl,hx⟩
end Go.Proofs.YtegkdnfeceomdaaGreat
namespace Go.Hs
open Go.RowKit Go.Proofs.YtegkdnfeceomdaaGreat
end Go.Hs
namespace Go.Proofs.YtegkdnfeceomdaaGreat
open Go.RowKit Go.Hs
attribute [local irreducible] World.setCell World.alloc
end Go.Proofs.YtegkdnfeceomdaaGreat
namespace Go.Hs
open Go.RowKit Go.Proofs.YtegkdnfeceomdaaGreat
theorem digs_next {rs:List (Int×Int)} {n:Int} {k:Nat} (h:k<rs.length):digs (rs.take (k+1)) n=digs (rs.take k) n++ [rs[k].1+digR (rs.take k) n % (rs[k].2 - rs[k].1+1)]:=by
 rw [List.take_succ_eq_append_getElem h,digs_append];rfl
theorem digR_next {rs:List (Int×Int)} {n:Int} {k:Nat} (h:k<rs.length):digR (rs.take (k+1)) n=digR (rs.take k) n / (rs[k].2 - rs[k].1+1):=by
 rw [List.take_succ_eq_append_getElem h,digR_append];rfl
theorem digR_bd {rs:List (Int×Int)} {n:Int} (hr:∀r∈rs,r.1≤r.2) (h0:0≤n) (k:Nat):0≤digR (rs.take k) n∧digR (rs.take k) n≤n:=
 ⟨digR_nonneg (fun r h=>hr r (List.mem_of_mem_take h)) h0,digR_le (fun r h=>hr r (List.mem_of_mem_take h)) h0⟩
theorem digit_in {lo hi n:Int} (h:lo≤hi):lo≤lo+n % (hi - lo+1)∧lo+n % (hi - lo+1)≤hi:=by
 have h1:=Int.emod_nonneg n (show hi - lo+1≠0 by omega);have h2:=Int.emod_lt_of_pos n (show 0<hi - lo+1 by omega);omega
def maskOf:List Bool→Nat
 | []=>0
 |b::l=>(if b then 1 else 0)+2*maskOf l
theorem maskOf_lt:∀l:List Bool,maskOf l<2 ^ l.length
  | []=>by decide
  | b :: l => by
    have:=maskOf_lt l;simp only [maskOf,List.length_cons,Nat.pow_succ];cases b<;>simp<;>omega
theorem maskOf_bit:∀(l:List Bool) (i:Nat),bitB (maskOf l) i=l.getD i false
  | [],i=>by simp [maskOf,bitB]
  | b :: l, 0 => by
    simp only [maskOf,bitB,Nat.pow_zero,Nat.div_one,List.getD_cons_zero];cases b<;>simp<;>omega
  | b :: l, i + 1 => by
    have:=maskOf_bit l i;simp only [List.getD_cons_succ];rw [←this];unfold bitB;rw [Nat.pow_succ,Nat.mul_comm,←Nat.div_div_eq_div_mul]
    have e:maskOf (b::l) / 2=maskOf l:=by
      simp only [maskOf];cases b<;>simp<;>omega
    rw [e]
theorem and_mask:∀x:Nat,x<32→∀m:Nat,m<32→(bits BinOp.and IntKind.i64 (x:Int) (m:Int)==(m:Int))=(List.range 5).all (fun i=> !bitB m i||bitB x i):=by decide+kernel
def backTo (a:Int) (l:List Int) (n:Nat):List Int:=(List.range n).map (fun i:Nat=>min (l.getD i 0) a - (settleL a l).getD i 0)
theorem backTo_next (a:Int) (l:List Int) (n:Nat):backTo a l (n+1)=backTo a l n++ [min (l.getD n 0) a - (settleL a l).getD n 0]:=by simp [backTo,List.range_succ]
def backL (d:Dmg) (n:Nat):List Int:=(List.range n).map (fun k:Nat=>refundD d k)
def NewV (B:Nat) (v:Value):Prop:=∀g,v.ownBlock=some g→B≤g
def PayQ (c:DCas) (t:DTr) (w:World) (e:Ending) (w':World):Prop:=
 ∃v1 v2,(damD c t=none→e= .returned (.tuple #[v1,v2,.int .i64 0,.bool false])∧IntsV w' v1 (List.replicate c.soc.toNat 0))∧
 (∀d,damD c t=some d→e= .returned (.tuple #[v1,v2,.int .i64 d.amount,.bool true])∧IntsV w' v1 (payL d c.soc.toNat)∧IntsV w' v2 (backL d c.soc.toNat)∧NewV w.heap.size v1∧NewV w.heap.size v2)∧Ext w w'
theorem settle_zero (n:Nat):settleL 0 (List.replicate n 0)=List.replicate n 0:=by
 have:sumI (List.replicate n 0)=0:=by
  induction n with
  |zero=>rfl
  |succ n ih=>rw [List.replicate_succ,sumI_cons,ih];rfl
 unfold settleL;rw [this,if_pos (Int.le_refl _)]
theorem back_dmg {d:Dmg} {n:Nat} (h1:1≤n) (h3:n≤3) (hs1:n≤1→d.s1=0) (hs2:n≤2→d.s2=0):backTo d.amount (sumsL d n) n=backL d n:=by
 unfold backTo backL;rw [settle_dmg h1 h3 hs1 hs2];refine List.map_congr_left (fun i hi=> ?_)
 have hi:=List.mem_range.1 hi;have hi3:i<3:=by omega
 unfold refundD sumD payD sumsL payL;rcases i with _|_|_|i
 ·rcases n with _ | n
  ·omega
  ·simp
 ·rcases n with _ | _ | n
  ·omega
  ·omega
  ·simp
 ·rcases n with _ | _ | _ | n
  ·omega
  ·omega
  ·omega
  ·simp
 ·omega
theorem settle_small {a:Int} {l:List Int} (ha:0≤a) (h:∀x∈l,0≤x∧x≤5000):∀i,i<l.length→0≤(settleL a l).getD i 0∧(settleL a l).getD i 0≤5000:=fun i hi=>by
 have:=settle_atH ha (fun x hx=>(h x hx).1) hi;have e:l.getD i 0=l[i]:=by simp [hi]
 have:=h l[i] (List.getElem_mem hi);omega
end Go.Hs
namespace Go.Proofs.YtegkdnfeceomdaaGreat
open Go.RowKit Go.Hs
attribute [local irreducible] World.setCell World.alloc
theorem sums_any (A:CaseA) (c:DCas) (t:DTr) (vd vs vst:Value) (w:World) (hm:CaseM w A c) (hc:caseD c=0) (ht:TruOK c t) (h1:IntsV w vd t.days) (h2:IntsV w vs t.sown) (h3:IntsV w vst t.starts):
    ∃(a:Int) (l:List Int) (b:Bool),(0≤a∧a≤1000)∧l.length=c.soc.toNat∧(∀x∈l,0≤x∧x≤5000)∧(damD c t=none→a=0∧b=false∧settleL a l=List.replicate c.soc.toNat 0)∧(∀d,damD c t=some d→a=d.amount∧b=true∧settleL a l=payL d c.soc.toNat∧backTo a l c.soc.toNat=backL d c.soc.toNat)∧
    Calls Tryz.prog 45 #[A.v c,.agg #[vd,vs,vst,.int .i64 t.loss]] w fun e w'=>∃v,e= .returned (.tuple #[.int .i64 a,v,.bool b])∧IntsV w' v l∧Ext w w':=by
  have H:=Sums_h A c t vd vs vst w hm hc ht h1 h2 h3;have hS:=(caseD_zero hc).2.1;have hsoc:=hS.soc;cases hd:damD c t with
  | none =>
    refine⟨0,List.replicate c.soc.toNat 0,false,by omega,by simp,fun x hx=>by simp at hx;omega,fun _=>⟨rfl,rfl,settle_zero _⟩,fun d h=>(by cases h),H.mono (fun e w' h=> ?_)⟩
    obtain⟨v,rfl,hi⟩:=h.1 hd;exact⟨v,rfl,hi,h.2.2⟩
  | some d =>
    have hk:=damD_ok hS (by have:=hS.loss;have:=ht.loss;omega) hd;obtain⟨g1,g2⟩:=dmg_high hc ht hd;refine⟨d.amount,sumsL d c.soc.toNat,true,hk.a,sumsL_len (by omega),fun x hx=> ?_,fun h=>(by cases h),fun d' h=> ?_,H.mono (fun e w' h=> ?_)⟩
    · have hx':=List.mem_of_mem_take hx;simp only [List.mem_cons,List.not_mem_nil,or_false] at hx';have:=hk.s0;have:=hk.s1;have:=hk.s2;rcases hx' with rfl|rfl|rfl<;>omega
    · cases h
      exact⟨rfl,rfl,settle_dmg (by omega) (by omega) (fun h=>g1 (by omega)) (fun h=>g2 (by omega)),back_dmg (by omega) (by omega) (fun h=>g1 (by omega)) (fun h=>g2 (by omega))⟩
    · obtain⟨v,rfl,hi⟩:=h.2.1 d hd;exact⟨v,rfl,hi,h.2.2⟩
theorem Pays_h (A:CaseA) (c:DCas) (t:DTr) (vd vs vst:Value) (w:World) (hm:CaseM w A c) (hc:caseD c=0) (ht:TruOK c t) (h1:IntsV w vd t.days) (h2:IntsV w vs t.sown) (h3:IntsV w vst t.starts):
  Calls Tryz.prog 32 #[A.v c,.agg #[vd,vs,vst,.int .i64 t.loss]] w (PayQ c t w):=by
 obtain⟨i0,hi0,hz0,hz1,hz2⟩:=info_parts info_int;have hS:=(caseD_zero hc).2.1;have hsoc:=hS.soc;have HSU:=hHd (fun W (hx:Ext w W)=>sums_any A c t vd vs vst W (hm.ext hx) hc ht (h1.ext hx) (h2.ext hx) (h3.ext hx));obtain⟨a1,c1,a2,c2,a3,c3,a4,c4⟩:=A;unfold CaseA.v caseV at*;simp only at*;clear hm hc ht h1 h2 h3 hS;go_enter Tryz.func32,Tryz.ntmps32
 (go_wp2_with fail);obtain⟨W,hW,X,HS,HSf,HSz⟩:=bx11_4 w 41 (.int .i64 c.bk.last) (.int .i64 c.bk.owners) (.slice a1 c.bk.pars.length c1) (.slice a2 c.bk.ents.length c2) (.int .i64 c.soc) (.int .i64 c.day) (.int .i64 c.parcel) (.slice a3 c.covs.length c3) (.int .i64 c.llo) (.int .i64 c.lhi) (.slice a4 c.clms.length c4) 45 (vd) (vs) (vst) (.int .i64 t.loss);rw [hW];clear hW;clear HS HSf;obtain⟨a,l,b,ha,hl,hb,hno,hyes,hcl⟩:=HSU.out W X;(with_reducible refine hcl.mono ?_);rintro e w1 ⟨v,rfl,hv1,hx1⟩;clear hcl HSU;have HSE:=hHd (fun W (hx:Ext w1 W)=>Settle_h a v l W (hv1.ext hx) ha (by omega) hb);obtain⟨p,q,rfl,-,hcs⟩:=hv1.cellsI
 have HSR:Hid (∀W,Ext w1 W→∀i,i<l.length→∃b' off,p=some ⟨b',off,none⟩∧W.cell? ⟨b',off+i,none⟩=some (.int .i64 (l.getD i 0))):=hHd (fun W hx i hi=>by
  obtain⟨b',o,e,k⟩:=hcs i hi;exact⟨b',o,e,hx.keep k⟩)
 have HBB:=hHd (fun i (hi:i<l.length)=>(show (0≤l.getD i 0∧l.getD i 0≤5000)∧0≤(settleL a l).getD i 0∧(settleL a l).getD i 0≤5000 from ⟨by
  have e:l.getD i 0=l[i]:=by simp [hi]
  rw [e];exact hb _ (List.getElem_mem hi),settle_small ha.1 hb i hi⟩))
 have HBN:=hHd (backTo_next a l)
 have HSL:Hid (∀x∈settleL a l,i64ok x):=hHd (fun x hx=>by
  obtain⟨i,hi,rfl⟩:=List.getElem_of_mem hx;rw [settleL_len] at hi;have:=settle_small ha.1 hb i hi;have e:(settleL a l).getD i 0=(settleL a l)[i]'(by rw [settleL_len];exact hi):=by simp [settleL_len,hi]
  rw [e] at this;unfold i64ok;omega)
 have HNO:=hHd hno;have HYES:=hHd hyes;have HLL:=hHd hl;have XX:=X.trans hx1;clear hv1 hcs hno hyes hb hl;(go_wp2_with fail);(with_reducible refine(HSE.out _ (Ext.refl _)).mono ?_);rintro e w2 ⟨u,rfl,hu,hx2⟩;clear HSE;have HU:Hid (IntsV w2 u (settleL a l)):=hHd (own_intsV hu rfl (by rw [settleL_len]) HSL.out (by rw [settleL_len];have:=HLL.out;omega));have HN1:Hid (NewV w.heap.size u):=hHd (fun g hg=>Nat.le_trans XX.size (own_lt hu hg).1);obtain⟨p2,q2,rfl,-,hc2⟩:=HU.out.cellsI
 have HSR2:Hid (∀W,Ext w2 W→∀i,i<l.length→∃b' off,p2=some ⟨b',off,none⟩∧W.cell? ⟨b',off+i,none⟩=some (.int .i64 ((settleL a l).getD i 0))):=hHd (fun W hx i hi=>by
  obtain⟨b',o,e,k⟩:=hc2 i (by rw [settleL_len];exact hi);exact⟨b',o,e,hx.keep k⟩)
 have hl2:(settleL a l).length=l.length:=settleL_len a l;rw [hl2] at HU HN1⊢;clear hu hc2 hl2;have X2:=XX.trans hx2;(go_wp2_with fail);go_loopw [12,13] (fun s12 s13 wr=>∃(k m:Nat) (a5:Option Addr) (cq:Nat),k≤l.length∧m=k∧s13= .int .i64 k∧s12= .slice a5 m cq∧Hid (wr.ownsRow w2.heap.size 3 1 (.slice a5 m cq) m ((backTo a l k).map (.int .i64)))∧Ext w2 wr) (fun _ s _=>l.length - (intOf s).toNat)
 case atStart=>exact⟨0,0,none,0,Nat.zero_le _,rfl,rfl,rfl,hHd (World.ownsRow_nil _ _ _ _),Ext.refl _⟩
 case round=>
  obtain⟨k,m,a5,cq,hk,hmk,rfl,rfl,HO,hx⟩:=hrel;obtain⟨wo,rfl⟩:∃x,x=wr:=⟨_,rfl⟩;by_cases hlt:k<l.length
  ·obtain ⟨b1, o1, rfl, q1⟩ := HSR.out wo (hx2.trans hx) k hlt; obtain ⟨b2, o2, rfl, q2'⟩ := HSR2.out wo hx k hlt; have hbd := HBB.out k hlt; have HNX : Hid ((backTo a l (k + 1)).map (Value.int .i64) = (backTo a l k).map (.int .i64) ++ [.int .i64 (min (l.getD k 0) a - (settleL a l).getD k 0)]) := hHd (by rw [HBN.out, List.map_append]; rfl); generalize l.getD k 0 = x at *; generalize (settleL a l).getD k 0 = y at *; obtain ⟨z, hz⟩ : ∃ z, min x a = z := ⟨_, rfl⟩; have hmin := run_min_h x a z hz; rw [hz] at HNX; have hzb : 0 ≤ z ∧ z ≤ 5000 := by omega
   have hw:IntKind.i64.wrap (z - y)=z - y:=IntWalk.i64_in _ (by omega);have hkb:k≤1000:=by have:=HLL.out;omega
   have g0:(0:Int)≤(k:Int):=by omega
   have g1:(k:Int)<(l.length:Int):=by omega
   have hm3:m+1≤100:=by have:=HLL.out;omega
   have HM:=hHd hmk
   have HSS:Hid (∀w',KP (fun j=>(Value.slice a5 m cq).ownBlock=some j) wo w'→(w'.cell? ⟨b1,o1+k,none⟩=some (.int .i64 x)∧w'.cell? ⟨b2,o2+k,none⟩=some (.int .i64 y))∧KP (fun j=>(Value.slice a5 m cq).ownBlock=some j) wo w'):=hHd (fun w' h=>by
    have n1:¬(Value.slice a5 m cq).ownBlock=some b1:=fun e=>by
     have h1:=own_lt HO.out e;obtain⟨b',o',e',k'⟩:=HSR.out w1 (Ext.refl _) k hlt;cases e'
     have:=lt_of_cell k';have:=hx2.size;simp only at*;omega
    have n2:¬(Value.slice a5 m cq).ownBlock=some b2:=fun e=>by
     have h1:=own_lt HO.out e;obtain⟨b',o',e',k'⟩:=HSR2.out w2 (Ext.refl _) k hlt;cases e'
     have:=lt_of_cell k';simp only at*;omega
    exact⟨⟨h.keep n1 q1,h.keep n2 q2'⟩,h⟩)
   have HONE:Hid (∀u∈([.int .i64 (z - y)]:List Value),u.oneCell'=true):=hHd (by intro u hu;simp only [List.mem_cons,List.not_mem_nil,or_false] at hu;rw [hu];rfl);have HF1:Hid (m+1≤maxLen):=hHd (by simp only [maxLen];omega);have HF2:Hid ((m+1)*8≤140737488355328):=hHd (by omega);have HF3:Hid (w2.heap.size≤wo.heap.size):=hHd hx.size;have HOB:Hid (∀g,(Value.slice a5 m cq).ownBlock=some g→w2.heap.size≤g):=hHd (fun g hg=>(own_lt HO.out hg).1);have HX:=hHd hx;clear hz hzb hbd hmk hx q1 q2';go_wp2_with fail
   go_region_held3 (fun w'=>(w'.cell? ⟨b1,o1+k,none⟩=some (.int .i64 x)∧w'.cell? ⟨b2,o2+k,none⟩=some (.int .i64 y))∧KP (fun j=>(Value.slice a5 m cq).ownBlock=some j) wo w')
    ((refine HSS.out _ ?_;(repeat (first|exact KP.refl _|with_reducible (first|assumption|refine KP.drew ?_|refine KP.alloc ?_ _|refine KP.setCell ?_ (by assumption) _|refine KP.ext ?_ (by assumption)|refine KP.trans ?_ (by assumption)|refine Ext.kp (by assumption))))))
    (((refine step_is_app' _ _ 22 rfl ?_);(refine step_append_lies _ (by rfl) _ _ 22 (by rfl) w2.heap.size 3 i0 (.int .i64 0) 1 8 Tryz.underlying22 hi0 hz0 hz1 hz2 rfl (by decide) (.slice a5 m cq) m ((backTo a l k).map (.int .i64)) rfl (own_extR HO.out EX) ⟨_,0,none⟩ 1 1 [.int .i64 (z - y)] (by rfl) rfl (one_inN EX (by first|rfl|simp)) HONE.out (by decide) HF1.out HF2.out (le_extR HF3.out EX) _ rfl ?_);intro gr cap w9 hown9 hgrow hat hlt9;have hk9:KP (fun j=>(Value.slice a5 m cq).ownBlock=some j) wo w9:=KP.trans (Ext.kp EX) (KP.grown hgrow (fun _ hg=>hg));have HX9:Hid (Ext w2 w9):=hHd (grown_ext (HX.out.trans EX) hgrow HOB.out)))
   all_goals
    have HO9:Hid (w9.ownsRow w2.heap.size 3 1 (.slice (some ⟨gr,0,none⟩) (m+1) cap) (m+1) ((backTo a l (k+1)).map (.int .i64))):=hHd (by rw [HNX.out];exact hown9);clear hk9 hown9 hgrow hat HSS HONE;(go_wp2_with fail);go_roundw
    case rel=>exact⟨k+1,m+1,_,cap,by omega,by rw [HM.out],by go_num,rfl,HO9,HX9.out⟩
    case measure=>simp [intOf];omega
  ·obtain rfl : k = l.length := by omega
   have HU3:=hHd (HU.out.ext hx);have HB3:Hid (∀L,backTo a l c.soc.toNat=L→(∀x∈L,i64ok x)→L.length≤1000→IntsV wo (.slice a5 m cq) L):=hHd (fun L h1 h2 h3=>own_intsV HO.out (by rw [←h1,HLL.out]) (by rw [hmk,←h1,HLL.out];simp [backTo]) h2 h3);have HN2:Hid (NewV w.heap.size (.slice a5 m cq)):=hHd (fun g hg=>Nat.le_trans X2.size (own_lt HO.out hg).1);have X3:=X2.trans hx;clear hlt hmk HO;(go_wp2_with fail);refine bodyPost_ret (v:= .tuple #[.slice p2 l.length q2,.slice a5 m cq,.int .i64 a,.bool b]) (by simp [results,Tryz.results32,go_sem]) rfl ?_
   refine⟨.slice p2 l.length q2,.slice a5 m cq,fun h=> ?_,fun d h=> ?_,X3⟩
   ·obtain⟨h1,h2,h3⟩:=HNO.out h;rw [h3] at HU3;exact⟨by rw [h1,h2],HU3.out⟩
   ·obtain ⟨h1, h2, h3, h4⟩ := HYES.out d h; rw [h3] at HU3; refine ⟨by rw [← h1, h2], HU3.out, HB3.out _ h4 (fun x hx => ?_) (by simp [backL]; omega), HN1.out, HN2.out⟩
    rw [←h4] at hx;obtain⟨i,hi,rfl⟩:=List.mem_map.1 hx;have hi:=List.mem_range.1 hi;have:=HBB.out i (by rw [HLL.out];exact hi);unfold i64ok;omega
end Go.Proofs.YtegkdnfeceomdaaGreat
