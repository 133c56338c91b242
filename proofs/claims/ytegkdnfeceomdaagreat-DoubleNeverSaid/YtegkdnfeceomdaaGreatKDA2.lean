/- Bundled: what the texts JB A N JC JE say one after another. -/
import Derived.Test.YtegkdnfeceomdaaGreatKDA1
import Derived.Test.YtegkdnfeceomdaaGreatRows
import Derived.RegionTactic
set_option maxRecDepth 100000
set_option maxHeartbeats 16000000
set_option linter.unusedSimpArgs false
set_option linter.unusedVariables false
namespace Go.Hs
structure Fd where
 there:Bool
 gone:Bool
 owner:Int
 value:Int
 sown:Int
deriving Inhabited,DecidableEq
def Fd.zero:Fd:=⟨false,false,0,0,0⟩
abbrev Fds:=Nat→Fd
def upd (f:Fds) (i:Nat) (x:Fd):Fds:=fun j=>if j=i then x else f j
def Fd.up (x:Fd):Bool:=x.there&& !x.gone
def Fd.covers (x:Fd) (day:Int):Bool:=x.there&&(!x.gone&&decide (x.sown≤day))
def happenS (b:Bk) (i:Nat) (day:Int) (f:Fds):Option Fds:=
 let e:=b.ents.getD i default
 let p:=e.parcel.toNat
 let x:=f p
 if x.up then
  if e.kind=0 then (if x.owner=e.frm then some (upd f p { x with owner:=e.to }) else none)
  else if e.kind=1 then (if e.part<x.value then some (upd (upd f p { x with value:=x.value - e.part }) (numsTo b i) ⟨true,false,x.owner,e.part,x.sown⟩) else none)
  else if e.kind=2 then (if (f e.other.toNat).up&&decide (x.owner≠(f e.other.toNat).owner) then some (upd (upd f p { x with owner:=(f e.other.toNat).owner }) e.other.toNat { f e.other.toNat with owner:=x.owner }) else none)
  else if e.kind=3 then (if x.sown≤day then some (upd f p { x with gone:=true }) else none)
  else none
 else none
def beginS (b:Bk) (sown:List Int):Fds:=fun i=>if i<b.pars.length then ⟨true,false,(b.pars.getD i default).owner,(b.pars.getD i default).value,sown.getD i 0⟩ else Fd.zero
def stepS (b:Bk) (days:List Int) (out:Nat→Bool) (d:Nat) (acc:Option Fds) (i:Nat):Option Fds:=
 acc.bind fun f=>if days.getD i 0=(d:Int)∧out i=false then happenS b i d f else some f
def dayS (b:Bk) (days:List Int) (out:Nat→Bool) (d n:Nat) (f:Fds):Option Fds:=(List.range n).foldl (stepS b days out d) (some f)
def stateS (b:Bk) (days sown:List Int) (out:Nat→Bool):Nat→Option Fds
 |0=>some (beginS b sown)
 |d+1=>(stateS b days sown out d).bind (dayS b days out d b.ents.length)
def playB (b:Bk) (days sown:List Int) (day:Nat) (out:Nat→Bool):Option Fds:=
 (stateS b days sown out (b.last.toNat+1)).bind fun _=>stateS b days sown out (day+1)
theorem dayS_next (b:Bk) (days:List Int) (out:Nat→Bool) (d n:Nat) (f:Fds):dayS b days out d (n+1) f=stepS b days out d (dayS b days out d n f) n:=by
 unfold dayS;rw [List.range_succ,List.foldl_append];rfl
theorem dayS_none {b:Bk} {days:List Int} {out:Nat→Bool} {d n:Nat} {f:Fds} (h:dayS b days out d n f=none) (m:Nat):dayS b days out d (n+m) f=none:=by
 induction m with
 |zero=>exact h
 |succ m ih=>rw [←Nat.add_assoc,dayS_next,ih];rfl
theorem stateS_none {b:Bk} {days sown:List Int} {out:Nat→Bool} {d:Nat} (h:stateS b days sown out d=none) (m:Nat):stateS b days sown out (d+m)=none:=by
 induction m with
 |zero=>exact h
 |succ m ih=>rw [←Nat.add_assoc];simp only [stateS,ih];rfl
def listedK (b:Bk) (days sown:List Int):Bool:=
 decide (days.length=b.ents.length)&&(decide (sown.length=b.pars.length)&&((List.range b.ents.length).all (fun i=>inR (days.getD i 0) (b.ents.getD i default).dlo (b.ents.getD i default).dhi)&&(List.range b.pars.length).all (fun i=>inR (sown.getD i 0) (b.pars.getD i default).slo (b.pars.getD i default).shi)))
end Go.Hs
namespace Go.Proofs.YtegkdnfeceomdaaGreat
open Go.RowKit Go.Hs
theorem ret_bool {a b:Bool} (h:a=b):Ending.returned (.bool a)= .returned (.bool b):=by rw [h]
def FnOK (F:FuncId):Prop:=∀args w,(callFunc F args).run Tryz.prog w= .ok (.enter F args) w
end Go.Proofs.YtegkdnfeceomdaaGreat
namespace Go.Hs
open Go.RowKit
structure ValidL (l:List Tar):Prop where
 pos:0<l.length
 three:l.length≤3
 first:(l.getD 0 default).start=0
 few:∀i,i<l.length→fewB (l.getD i default)=true
 valid:∀i,i<l.length→validB (l.getD i default)=true
 link:∀i,i<l.length - 1→linkB l i=true
def cropsN (l:List Tar):Nat:=(l.getD 0 default).rates.length
theorem ValidL.crops {l:List Tar} (h:ValidL l) (i:Nat) (hi:i<l.length):(l.getD i default).rates.length=cropsN l:=by
  cases i with
  |zero=>rfl
  | succ i =>
    have:=h.link i (by omega);simp only [linkB,Bool.and_eq_true,decide_eq_true_eq] at this;exact this.2
theorem atS_mem {l:List Tar} {d:Int} (hp:0<l.length) (h0:(l.getD 0 default).start≤d):∃i,i<l.length∧atS l d=l.getD i default:=by
  have:∀k,k<l.length→∃i,i≤k∧atS (l.take (k+1)) d=l.getD i default:=by
    intro k
    induction k with
    | zero =>
      intro hk
      refine⟨0,Nat.le_refl _,?_⟩
      rw [atS_take hk];have e:l[0]=l.getD 0 default:=by simp [hk]
      rw [e,if_pos h0]
    | succ k ih =>
      intro hk
      obtain⟨i,hi,he⟩:=ih (by omega);rw [atS_take hk];split
      · exact⟨k+1,Nat.le_refl _,by simp [hk]⟩
      · exact⟨i,by omega,he⟩
  obtain⟨i,hi,he⟩:=this (l.length - 1) (by omega);rw [show l.length - 1+1=l.length by omega,List.take_length] at he;exact⟨i,by omega,he⟩
theorem inR_iff {n lo hi:Int} :inR n lo hi=true↔lo≤n∧n≤hi:=by simp [inR]
structure Rises (xs:List Int) (most:Int):Prop where
 pos:0<xs.length
 first:xs.getD 0 0=0
 strict:∀a b,a<b→b<xs.length→xs.getD a 0<xs.getD b 0
 bound:∀i,i<xs.length→0≤xs.getD i 0∧xs.getD i 0≤most
theorem strict_of_step {f:Nat→Int} {n:Nat} (h:∀i,i+1<n→f i<f (i+1)):∀a b,a<b→b<n→f a<f b:=by
  intro a b hab hb
  induction b with
  |zero=>omega
  | succ b ih =>
    have h1:=h b hb;rcases Nat.lt_or_ge a b with e|e
    · have:=ih e (by omega);omega
    · have e' : a = b := by omega
      subst e';exact h1
theorem wrap64_id {x:Int} (h0: -9223372036854775808≤x) (h1:x≤9223372036854775807):wrap64 x=x:=IntWalk.wrap64_in x ⟨by omega,by omega⟩
theorem risesB_iff {xs : List Int} {most : Int} (hm : most ≤ 1000) : risesB xs most = true ↔ Rises xs most := by
  unfold risesB;simp only [Bool.and_eq_true,decide_eq_true_eq,allB_iff,beq_iff_eq,inR_iff];constructor
  · rintro ⟨⟨h1, h2⟩, h3⟩
    have e0:xs.getD 0 0=0:=by
      have:xs.getD 0 1=xs.getD 0 0:=by simp [h1]
      rw [←this];exact h2
    have hb:∀i,i<xs.length→0≤xs.getD i 0∧xs.getD i 0≤most∧prevOf xs i<xs.getD i 0:=by
      intro i
      induction i with
      | zero =>
        intro hi
        have:=h3 0 hi;rw [e0] at this⊢;simp [prevOf];omega
      | succ i ih =>
        intro hi
        have h4:=ih (by omega);have h5:=h3 (i+1) hi;have e1:prevOf xs (i+1)=xs.getD i 0:=by simp [prevOf]
        rw [e1] at h5⊢;rw [wrap64_id (by omega) (by omega)] at h5;omega
    refine⟨h1,e0,strict_of_step (f:=fun i=>xs.getD i 0) (n:=xs.length) ?_,fun i hi=>⟨(hb i hi).1,(hb i hi).2.1⟩⟩
    intro i hi
    have:=(hb (i+1) hi).2.2;simpa [prevOf] using this
  · rintro ⟨h1, h2, h3, h4⟩; refine ⟨⟨h1, ?_⟩, ?_⟩
    · have : xs.getD 0 1 = xs.getD 0 0 := by simp [h1]
      rw [this];exact h2
    · intro i hi
      have h5:=h4 i hi;cases i with
      |zero=>simp only [prevOf,if_true];rw [wrap64_id (by omega) (by omega)];omega
      | succ i =>
        have h6:=h3 i (i+1) (by omega) hi;have h7:=h4 i (by omega);have e1:prevOf xs (i+1)=xs.getD i 0:=by simp [prevOf]
        rw [e1,wrap64_id (by omega) (by omega)];omega
structure ValidT (t:Tar):Prop where
 start:0≤t.start∧t.start≤120
 least:0≤t.least∧t.least≤100
 weeks:Rises t.weeks 120
 two:1<t.counts.length
 counts:Rises t.counts 100
 last:t.counts.getD (t.counts.length - 1) 0=100
 crops:0<t.rates.length
 rows:∀c,c<t.rates.length→(t.rates.getD c []).length=t.weeks.length∧∀i,i<t.weeks.length→RowOK t.counts.length ((t.rates.getD c []).getD i [])
theorem validB_iff {t:Tar} :validB t=true↔ValidT t:=by
 unfold validB cropB rowB;simp only [Bool.and_eq_true,decide_eq_true_eq,allB_iff,beq_iff_eq,inR_iff,risesB_iff (show (120:Int)≤1000 by decide),risesB_iff (show (100:Int)≤1000 by decide)];constructor
 ·rintro ⟨⟨⟨⟨⟨⟨⟨h1,h2⟩,h3⟩,h4⟩,h5⟩,h6⟩,h7⟩,h8⟩;exact⟨h1,h2,h3,h4,h5,h6,h7,fun c hc=>⟨(h8 c hc).1,fun i hi=>⟨((h8 c hc).2 i (by rw [(h8 c hc).1];exact hi)).1,((h8 c hc).2 i (by rw [(h8 c hc).1];exact hi)).2⟩⟩⟩
 ·rintro ⟨h1,h2,h3,h4,h5,h6,h7,h8⟩;exact⟨⟨⟨⟨⟨⟨⟨h1,h2⟩,h3⟩,h4⟩,h5⟩,h6⟩,h7⟩,fun c hc=>⟨(h8 c hc).1,fun i hi=>⟨((h8 c hc).2 i (by rw [←(h8 c hc).1];exact hi)).len,((h8 c hc).2 i (by rw [←(h8 c hc).1];exact hi)).bound⟩⟩⟩
theorem Rises.sorted {xs:List Int} {m:Int} (h:Rises xs m):Sorted xs:=fun a b hab hb=>by
 rcases Nat.lt_or_ge a b with e|e
 ·have:=h.strict a b e hb;omega
 ·have : a = b := by omega
  subst this;omega
def rowS (l:List Tar) (c d:Int):List Int:=((atS l d).rates.getD c.toNat []).getD (weekTo (atS l d).weeks d (atS l d).weeks.length) []
def lossS (l:List Tar) (c d n:Int):Int:=interp (atS l d).counts (rowS l c d) n
def partS (l:List Tar) (c d n:Int):Int:=if (atS l d).least≤lossS l c d n then (if (atS l d).whole then lossS l c d n else lossS l c d n - (atS l d).least) else 0
theorem ValidL.at {l:List Tar} (h:ValidL l) {d:Int} (hd:0≤d):ValidT (atS l d)∧(atS l d).rates.length=cropsN l:=by
 obtain⟨i,hi,he⟩:=atS_mem h.pos (by rw [h.first];exact hd);rw [he];exact⟨validB_iff.1 (h.valid i hi),h.crops i hi⟩
end Go.Hs
namespace Go.Proofs.YtegkdnfeceomdaaGreat
open Go.RowKit Go.Hs
attribute [local irreducible] World.setCell World.alloc
theorem within_p (n lo hi:Int) (w:World):
    Calls Tryz.prog 135 #[.int .i64 n,.int .i64 lo,.int .i64 hi] w fun e w'=>e= .returned (.bool (inR n lo hi))∧Ext w w':=by
  by_cases h:lo≤n
  · go_enter Tryz.func135, Tryz.ntmps135
    go_wp2
    go_ret;exact⟨ret_bool (by simp [inR,h]),Ext.refl _⟩
  · go_enter Tryz.func135, Tryz.ntmps135
    go_wp2
    go_ret
    exact ⟨ret_bool (by have : ¬ lo ≤ n := by omega
                        simp [inR,this]),Ext.refl _⟩
theorem has_p (lo hi n:Int) (w:World):
  Calls Tryz.prog 177 #[.agg #[.int .i64 lo,.int .i64 hi],.int .i64 n] w fun e w'=>e= .returned (.bool (inR n lo hi))∧Ext w w':=by
 have HW:=hHd (within_p n lo hi);have XX:Ext w w:=Ext.refl w;go_enter Tryz.func177,Tryz.ntmps177
 (go_wp2_with fail);(with_reducible refine(HW.out _).mono ?_);rintro e w1 ⟨rfl,hx⟩;have hy:Ext w w1:=EX;replace XX:=XX.trans hy;clear hx hy;(go_wp2_with fail);go_ret;exact⟨rfl,XX⟩
theorem size_p (lo hi:Int) (h:0≤lo∧lo≤hi∧hi≤1000) (w:World):
  Calls Tryz.prog 140 #[.agg #[.int .i64 lo,.int .i64 hi]] w fun e w'=>e= .returned (.int .i64 (hi - lo+1))∧Ext w w':=by
 have h1:IntKind.i64.wrap (hi - lo)=hi - lo:=IntWalk.i64_in _ (by omega);have h2:IntKind.i64.wrap (hi - lo+1)=hi - lo+1:=IntWalk.i64_in _ (by omega);go_enter Tryz.func140,Tryz.ntmps140
 (go_wp2_with fail);go_ret;exact⟨rfl,EX⟩
theorem within_d (n lo hi:Int) (w:World):
    Calls Tryz.prog 62 #[.int .i64 n,.int .i64 lo,.int .i64 hi] w fun e w'=>e= .returned (.bool (inR n lo hi))∧Ext w w':=by
  by_cases h:lo≤n
  · go_enter Tryz.func62, Tryz.ntmps62
    go_wp2
    go_ret;exact⟨ret_bool (by simp [inR,h]),Ext.refl _⟩
  · go_enter Tryz.func62, Tryz.ntmps62
    go_wp2
    go_ret
    exact ⟨ret_bool (by have : ¬ lo ≤ n := by omega
                        simp [inR,this]),Ext.refl _⟩
theorem has_d (lo hi n:Int) (w:World):
  Calls Tryz.prog 127 #[.agg #[.int .i64 lo,.int .i64 hi],.int .i64 n] w fun e w'=>e= .returned (.bool (inR n lo hi))∧Ext w w':=by
 have HW:=hHd (within_d n lo hi);have XX:Ext w w:=Ext.refl w;go_enter Tryz.func127,Tryz.ntmps127
 (go_wp2_with fail);(with_reducible refine(HW.out _).mono ?_);rintro e w1 ⟨rfl,hx⟩;have hy:Ext w w1:=EX;replace XX:=XX.trans hy;clear hx hy;(go_wp2_with fail);go_ret;exact⟨rfl,XX⟩
theorem size_d (lo hi:Int) (h:0≤lo∧lo≤hi∧hi≤1000) (w:World):
  Calls Tryz.prog 87 #[.agg #[.int .i64 lo,.int .i64 hi]] w fun e w'=>e= .returned (.int .i64 (hi - lo+1))∧Ext w w':=by
 have h1:IntKind.i64.wrap (hi - lo)=hi - lo:=IntWalk.i64_in _ (by omega);have h2:IntKind.i64.wrap (hi - lo+1)=hi - lo+1:=IntWalk.i64_in _ (by omega);go_enter Tryz.func87,Tryz.ntmps87
 (go_wp2_with fail);go_ret;exact⟨rfl,EX⟩
theorem owner_p (b:Bk) (v:Value) (n:Int) (w:World) (hv:BkV w v b) (ho:1≤b.owners∧b.owners≤4):
  Calls Tryz.prog 166 #[v,.int .i64 n] w fun e w'=>e= .returned (.bool (ownerB b n))∧Ext w w':=by
 have HW:=hHd (within_p n 0 (b.owners - 1));have HE:Hid (ownerB b n=inR n 0 (b.owners - 1)):=rfl;have hw:IntKind.i64.wrap (b.owners - 1)=b.owners - 1:=IntWalk.i64_in _ (by omega);obtain⟨a1,c1,a2,c2,rfl,hp,he,hp1,he1,hp2,he2⟩:=hv.open;clear hv hp he;generalize ownerB b n=r at*;generalize inR n 0 (b.owners - 1)=r2 at*;obtain rfl:=HE.out;clear HE;unfold bkV;generalize b.pars.length=n1 at*;generalize b.ents.length=n2 at*;generalize b.last=last at*;generalize b.owners=owners at*;have XX:Ext w w:=Ext.refl w;go_enter Tryz.func166,Tryz.ntmps166
 (go_wp2_with fail);(with_reducible refine(HW.out _).mono ?_);rintro e w1 ⟨rfl,hx⟩;have hy:Ext w w1:=EX;replace XX:=XX.trans hy;clear hx hy;(go_wp2_with fail);go_ret;exact⟨rfl,XX⟩
theorem day_p (b:Bk) (v:Value) (n:Int) (w:World) (hv:BkV w v b):
  Calls Tryz.prog 154 #[v,.int .i64 n] w fun e w'=>e= .returned (.bool (dayB b n))∧Ext w w':=by
 have HW:=hHd (within_p n 0 b.last);have HE:Hid (dayB b n=inR n 0 b.last):=rfl;obtain⟨a1,c1,a2,c2,rfl,hp,he,hp1,he1,hp2,he2⟩:=hv.open;clear hv hp he;generalize dayB b n=r at*;generalize inR n 0 b.last=r2 at*;obtain rfl:=HE.out;clear HE;unfold bkV;generalize b.pars.length=n1 at*;generalize b.ents.length=n2 at*;generalize b.last=last at*;generalize b.owners=owners at*;have XX:Ext w w:=Ext.refl w;go_enter Tryz.func154,Tryz.ntmps154
 (go_wp2_with fail);(with_reducible refine(HW.out _).mono ?_);rintro e w1 ⟨rfl,hx⟩;have hy:Ext w w1:=EX;replace XX:=XX.trans hy;clear hx hy;(go_wp2_with fail);go_ret;exact⟨rfl,XX⟩
theorem days_p (b : Bk) (v : Value) (lo hi : Int) (w : World) (hv : BkV w v b) :
    Calls Tryz.prog 167 #[v,.agg #[.int .i64 lo,.int .i64 hi]] w fun e w'=>e= .returned (.bool (daysB b lo hi))∧Ext w w':=by
  have HD:Hid (∀n W,Ext w W→Calls Tryz.prog 154 #[v,.int .i64 n] W fun e w'=>e= .returned (.bool (dayB b n))∧Ext W w'):=hHd (fun n W hx=>day_p b v n W (hv.ext hx));have HE:Hid (daysB b lo hi=(dayB b lo&&(dayB b hi&&decide (lo≤hi)))):=rfl;have HD1:=hHd (HD.out lo);have HD2:=hHd (HD.out hi);clear HD;generalize daysB b lo hi=r at*;generalize dayB b lo=b1 at*;generalize dayB b hi=b2 at*;obtain⟨a1,c1,a2,c2,rfl,hp,he,hp1,he1,hp2,he2⟩:=hv.open;clear hv hp he;unfold bkV at*;generalize b.pars.length=n1 at*;generalize b.ents.length=n2 at*;generalize b.last=last at*;generalize b.owners=owners at*;have XX:Ext w w:=Ext.refl w;cases b1 with
  | false =>
    obtain rfl:r=false:=HE.out;clear HE;go_enter Tryz.func167,Tryz.ntmps167
    (go_wp2_with fail);(with_reducible refine(HD1.out _ EX).mono ?_);rintro e w1 ⟨rfl,hx⟩;have hy:Ext w w1:=EX;have b0:=hx.keep (k:=w.heap.size) (o:=0) (v:= .int .i64 last) (by simp [go_sem]);have b1:=hx.keep (k:=w.heap.size) (o:=1) (v:= .int .i64 owners) (by simp [go_sem]);have b2:=hx.keep (k:=w.heap.size) (o:=2) (v:= .slice a1 n1 c1) (by simp [go_sem]);have b3:=hx.keep (k:=w.heap.size) (o:=3) (v:= .slice a2 n2 c2) (by simp [go_sem]);have r0:=hx.keep (k:=w.heap.size+1) (o:=0) (v:= .int .i64 lo) (by simp [go_sem]);have r1:=hx.keep (k:=w.heap.size+1) (o:=1) (v:= .int .i64 hi) (by simp [go_sem]);replace XX:=XX.trans hy;clear hx hy;(go_wp2_with fail);go_ret;exact⟨rfl,XX⟩
  | true =>
    cases b2 with
    | false =>
      obtain rfl:r=false:=HE.out;clear HE;go_enter Tryz.func167,Tryz.ntmps167
      (go_wp2_with fail);(with_reducible refine(HD1.out _ EX).mono ?_);rintro e w1 ⟨rfl,hx⟩;have hy:Ext w w1:=EX;have b0:=hx.keep (k:=w.heap.size) (o:=0) (v:= .int .i64 last) (by simp [go_sem]);have b1:=hx.keep (k:=w.heap.size) (o:=1) (v:= .int .i64 owners) (by simp [go_sem]);have b2:=hx.keep (k:=w.heap.size) (o:=2) (v:= .slice a1 n1 c1) (by simp [go_sem]);have b3:=hx.keep (k:=w.heap.size) (o:=3) (v:= .slice a2 n2 c2) (by simp [go_sem]);have r0:=hx.keep (k:=w.heap.size+1) (o:=0) (v:= .int .i64 lo) (by simp [go_sem]);have r1:=hx.keep (k:=w.heap.size+1) (o:=1) (v:= .int .i64 hi) (by simp [go_sem]);replace XX:=XX.trans hy;clear hx hy;(go_wp2_with fail);(with_reducible refine(HD2.out _ EX).mono ?_);rintro e w2 ⟨rfl,hx⟩;have hy:Ext w1 w2:=EX;replace XX:=XX.trans hy;replace r0:=hy.keep r0;replace r1:=hy.keep r1;clear hx hy;(go_wp2_with fail);go_ret;exact⟨rfl,XX⟩
    | true =>
      have HE2:Hid (r=decide (lo≤hi)):=hHd (by rw [HE.out];rfl);clear HE;by_cases h:lo≤hi
      · have hd : decide (lo ≤ hi) = true := decide_eq_true h; obtain rfl : r = true := by rw [HE2.out, hd]
        clear HE2;go_enter Tryz.func167,Tryz.ntmps167
        (go_wp2_with fail);(with_reducible refine(HD1.out _ EX).mono ?_);rintro e w1 ⟨rfl,hx⟩;have hy:Ext w w1:=EX;have b0:=hx.keep (k:=w.heap.size) (o:=0) (v:= .int .i64 last) (by simp [go_sem]);have b1:=hx.keep (k:=w.heap.size) (o:=1) (v:= .int .i64 owners) (by simp [go_sem]);have b2:=hx.keep (k:=w.heap.size) (o:=2) (v:= .slice a1 n1 c1) (by simp [go_sem]);have b3:=hx.keep (k:=w.heap.size) (o:=3) (v:= .slice a2 n2 c2) (by simp [go_sem]);have r0:=hx.keep (k:=w.heap.size+1) (o:=0) (v:= .int .i64 lo) (by simp [go_sem]);have r1:=hx.keep (k:=w.heap.size+1) (o:=1) (v:= .int .i64 hi) (by simp [go_sem]);replace XX:=XX.trans hy;clear hx hy;(go_wp2_with fail);(with_reducible refine(HD2.out _ EX).mono ?_);rintro e w2 ⟨rfl,hx⟩;have hy:Ext w1 w2:=EX;replace XX:=XX.trans hy;replace r0:=hy.keep r0;replace r1:=hy.keep r1;clear hx hy;(go_wp2_with fail);go_ret;exact⟨rfl,XX⟩
      · have hd : decide (lo ≤ hi) = false := decide_eq_false h; obtain rfl : r = false := by rw [HE2.out, hd]
        clear HE2;go_enter Tryz.func167,Tryz.ntmps167
        (go_wp2_with fail);(with_reducible refine(HD1.out _ EX).mono ?_);rintro e w1 ⟨rfl,hx⟩;have hy:Ext w w1:=EX;have b0:=hx.keep (k:=w.heap.size) (o:=0) (v:= .int .i64 last) (by simp [go_sem]);have b1:=hx.keep (k:=w.heap.size) (o:=1) (v:= .int .i64 owners) (by simp [go_sem]);have b2:=hx.keep (k:=w.heap.size) (o:=2) (v:= .slice a1 n1 c1) (by simp [go_sem]);have b3:=hx.keep (k:=w.heap.size) (o:=3) (v:= .slice a2 n2 c2) (by simp [go_sem]);have r0:=hx.keep (k:=w.heap.size+1) (o:=0) (v:= .int .i64 lo) (by simp [go_sem]);have r1:=hx.keep (k:=w.heap.size+1) (o:=1) (v:= .int .i64 hi) (by simp [go_sem]);replace XX:=XX.trans hy;clear hx hy;(go_wp2_with fail);(with_reducible refine(HD2.out _ EX).mono ?_);rintro e w2 ⟨rfl,hx⟩;have hy:Ext w1 w2:=EX;replace XX:=XX.trans hy;replace r0:=hy.keep r0;replace r1:=hy.keep r1;clear hx hy;(go_wp2_with fail);go_ret;exact⟨rfl,XX⟩
theorem numsTo_yes {b:Bk} {k:Nat} (h:k<b.ents.length) (hk:b.ents[k].kind=1):numsTo b (k+1)=numsTo b k+1:=by
 unfold numsTo;rw [List.take_succ_eq_append_getElem h,List.countP_append];simp [hk];omega
theorem numsTo_no {b:Bk} {k:Nat} (h:k<b.ents.length) (hk:b.ents[k].kind≠1):numsTo b (k+1)=numsTo b k:=by
 unfold numsTo;rw [List.take_succ_eq_append_getElem h,List.countP_append];simp [hk]
theorem numsTo_le (b:Bk) (k:Nat):numsTo b k≤b.pars.length+b.ents.length:=by
 unfold numsTo;have h1:=List.countP_le_length (p:=fun e:Ent=>decide (e.kind=1)) (l:=b.ents.take k);have h2:=List.length_take_le' (l:=b.ents) (i:=k);omega
theorem numbers_p (b:Bk) (v:Value) (w:World) (hv:BkV w v b):
  Calls Tryz.prog 164 #[v] w fun e w'=>e= .returned (.int .i64 (numsB b))∧Ext w w':=by
 have HB:=hHd hv;obtain⟨a1,c1,a2,c2,rfl,hp,he,hp1,he1,hp2,he2⟩:=hv.open;clear hv hp;have HC:Hid (∀W,Ext w W→Cells8 W a2 (b.ents.map Ent.c)):=hHd (fun W hx=>he.ext hx);have HY:=hHd (fun k h hk=>numsTo_yes (b:=b) (k:=k) h hk);have HN:=hHd (fun k h hk=>numsTo_no (b:=b) (k:=k) h hk);have HL:=hHd (numsTo_le b);have HZ:Hid (numsTo b 0=b.pars.length):=hHd (by simp [numsTo]);have HA:Hid (numsB b=numsTo b b.ents.length):=rfl;clear he HB;unfold bkV;generalize b.last=last at*;generalize b.owners=owners at*;go_enter Tryz.func164,Tryz.ntmps164
 (go_wp2_with fail);go_loopw [3,12] (fun s3 s12 wr=>∃k:Nat,k≤b.ents.length∧s12= .int .i64 k∧s3= .int .i64 (numsTo b k)∧Ext w wr) (fun _ s _=>b.ents.length - (intOf s).toNat)
 case atStart=>exact⟨0,Nat.zero_le _,rfl,by rw [HZ.out],EX⟩
 case round=>
  obtain⟨k,hk,rfl,rfl,hx⟩:=hrel;obtain⟨wo,rfl⟩:∃x,x=wr:=⟨_,rfl⟩;by_cases hlt:k<b.ents.length
  ·obtain ⟨b', off, rfl, hce⟩ := HC.out wo hx k (by simpa using hlt); have e1 : (b.ents.map Ent.c)[k]'(by simpa using hlt) = (b.ents[k]).c := by simp
   rw [e1] at hce;obtain⟨m0,m1,m2,m3,m4,m5,m6,m7⟩:=hce;simp only [Ent.c] at m0 m1 m2 m3 m4 m5 m6 m7;clear e1;have hle:=HL.out k;have hk0:(0:Int)≤(k:Int):=by omega
   have hk1:(k:Int)<(b.ents.length:Int):=by omega
   have hw:IntKind.i64.wrap ((numsTo b k:Int)+1)=(numsTo b k:Int)+1:=IntWalk.i64_in _ (by omega);by_cases hq:b.ents[k].kind=1
   ·have HS := hHd (HY.out k hlt hq); have hd : (b.ents[k].kind == 1) = true := by rw [beq_iff_eq]; exact hq
    rw [hq] at m0;clear hq hd;(go_wp2_with fail);go_roundw
    case rel=>exact⟨k+1,by omega,by go_num,by rw [HS.out];go_num,EX⟩
    case measure=>simp [intOf];omega
   ·have HS := hHd (HN.out k hlt hq); have hd : (b.ents[k].kind == 1) = false := by rw [beq_eq_false_iff_ne]; exact hq
    (go_wp2_with fail);go_roundw
    case rel=>exact⟨k+1,by omega,by go_num,by rw [HS.out],EX⟩
    case measure=>simp [intOf];omega
  ·obtain rfl : k = b.ents.length := by omega
   (go_wp2_with fail);go_ret;exact⟨by rw [HA.out];rfl,hx⟩
theorem number_p (b:Bk) (v:Value) (n:Int) (w:World) (hv:BkV w v b):
  Calls Tryz.prog 153 #[v,.int .i64 n] w fun e w'=>e= .returned (.bool (numberB b n))∧Ext w w':=by
 have HN:=hHd (fun W (hx:Ext w W)=>numbers_p b v W (hv.ext hx));have HW:=hHd (within_p n 0 ((numsB b:Int) - 1));have HE:Hid (numberB b n=inR n 0 ((numsB b:Int) - 1)):=rfl;have hle:numsB b≤b.pars.length+b.ents.length:=numsTo_le b _;obtain⟨a1,c1,a2,c2,rfl,hp,he,hp1,he1,hp2,he2⟩:=hv.open;have hw:IntKind.i64.wrap ((numsB b:Int) - 1)=(numsB b:Int) - 1:=IntWalk.i64_in _ (by omega);clear hv hp he;generalize numberB b n=r at*;generalize numsB b=nn at*;generalize inR n 0 ((nn:Int) - 1)=r2 at*;obtain rfl:=HE.out;clear HE;unfold bkV at*;generalize b.pars.length=n1 at*;generalize b.ents.length=n2 at*;generalize b.last=last at*;generalize b.owners=owners at*;have XX:Ext w w:=Ext.refl w;go_enter Tryz.func153,Tryz.ntmps153
 (go_wp2_with fail);(with_reducible refine(HN.out _ EX).mono ?_);rintro e w1 ⟨rfl,hx⟩;have hy:Ext w w1:=EX;replace XX:=XX.trans hy;clear hx hy;(go_wp2_with fail);(with_reducible refine(HW.out _).mono ?_);rintro e w2 ⟨rfl,hx⟩;have hy:Ext w1 w2:=EX;replace XX:=XX.trans hy;clear hx hy;(go_wp2_with fail);go_ret;exact⟨rfl,XX⟩
theorem parcel_p (b:Bk) (v:Value) (p:Par) (w:World) (hv:BkV w v b) (ho:1≤b.owners∧b.owners≤4):
    Calls Tryz.prog 133 #[v,p.c.val] w fun e w'=>e= .returned (.bool (parB b p))∧Ext w w':=by
  have HE:Hid (parB b p=(ownerB b p.owner&&(inR p.value 0 1000&&daysB b p.slo p.shi))):=rfl;have H1:=hHd (fun W (hx:Ext w W)=>owner_p b v p.owner W (hv.ext hx) ho);have H2:=hHd (within_p p.value 0 1000);have H3:=hHd (fun W (hx:Ext w W)=>days_p b v p.slo p.shi W (hv.ext hx));generalize parB b p=r at*;generalize ownerB b p.owner=b1 at*;generalize inR p.value 0 1000=b2 at*;generalize daysB b p.slo p.shi=b3 at*;obtain⟨a1,c1,a2,c2,rfl,hp,he,hp1,he1,hp2,he2⟩:=hv.open;clear hv hp he ho;unfold bkV at*;generalize b.pars.length=n1 at*;generalize b.ents.length=n2 at*;generalize b.last=last at*;generalize b.owners=owners at*;obtain⟨ow,va,sl,sh⟩:=p;simp only [Par.c] at*;have XX:Ext w w:=Ext.refl w;cases b1 with
  | false =>
    obtain rfl:r=false:=HE.out;clear HE;go_enter Tryz.func133,Tryz.ntmps133
    (go_wp2_with fail);(with_reducible refine(H1.out _ EX).mono ?_);rintro e w1 ⟨rfl,hx⟩;have hy:Ext w w1:=EX;have k0:=hx.keep (k:=w.heap.size) (o:=0) (v:= .int .i64 last) (by simp [go_sem]);have k1:=hx.keep (k:=w.heap.size) (o:=1) (v:= .int .i64 owners) (by simp [go_sem]);have k2:=hx.keep (k:=w.heap.size) (o:=2) (v:= .slice a1 n1 c1) (by simp [go_sem]);have k3:=hx.keep (k:=w.heap.size) (o:=3) (v:= .slice a2 n2 c2) (by simp [go_sem]);have r0:=hx.keep (k:=w.heap.size+1) (o:=0) (v:= .int .i64 ow) (by simp [go_sem]);have r1:=hx.keep (k:=w.heap.size+1) (o:=1) (v:= .int .i64 va) (by simp [go_sem]);have r2:=hx.keep (k:=w.heap.size+1) (o:=2) (v:= .int .i64 sl) (by simp [go_sem]);have r3:=hx.keep (k:=w.heap.size+1) (o:=3) (v:= .int .i64 sh) (by simp [go_sem]);replace XX:=XX.trans hy;clear hx hy;(go_wp2_with fail);go_ret;exact⟨rfl,XX⟩
  | true =>
    cases b2 with
    | false =>
      obtain rfl:r=false:=HE.out;clear HE;go_enter Tryz.func133,Tryz.ntmps133
      (go_wp2_with fail);(with_reducible refine(H1.out _ EX).mono ?_);rintro e w1 ⟨rfl,hx⟩;have hy:Ext w w1:=EX;have k0:=hx.keep (k:=w.heap.size) (o:=0) (v:= .int .i64 last) (by simp [go_sem]);have k1:=hx.keep (k:=w.heap.size) (o:=1) (v:= .int .i64 owners) (by simp [go_sem]);have k2:=hx.keep (k:=w.heap.size) (o:=2) (v:= .slice a1 n1 c1) (by simp [go_sem]);have k3:=hx.keep (k:=w.heap.size) (o:=3) (v:= .slice a2 n2 c2) (by simp [go_sem]);have r0:=hx.keep (k:=w.heap.size+1) (o:=0) (v:= .int .i64 ow) (by simp [go_sem]);have r1:=hx.keep (k:=w.heap.size+1) (o:=1) (v:= .int .i64 va) (by simp [go_sem]);have r2:=hx.keep (k:=w.heap.size+1) (o:=2) (v:= .int .i64 sl) (by simp [go_sem]);have r3:=hx.keep (k:=w.heap.size+1) (o:=3) (v:= .int .i64 sh) (by simp [go_sem]);replace XX:=XX.trans hy;clear hx hy;(go_wp2_with fail);(with_reducible refine(H2.out _).mono ?_);rintro e w2 ⟨rfl,hx⟩;have hy:Ext w1 w2:=EX;replace XX:=XX.trans hy;replace k0:=hy.keep k0;replace k1:=hy.keep k1;replace k2:=hy.keep k2;replace k3:=hy.keep k3;replace r0:=hy.keep r0;replace r1:=hy.keep r1;replace r2:=hy.keep r2;replace r3:=hy.keep r3;clear hx hy;(go_wp2_with fail);go_ret;exact⟨rfl,XX⟩
    | true =>
      obtain rfl:r=b3:=HE.out;clear HE;go_enter Tryz.func133,Tryz.ntmps133
      (go_wp2_with fail);(with_reducible refine(H1.out _ EX).mono ?_);rintro e w1 ⟨rfl,hx⟩;have hy:Ext w w1:=EX;have k0:=hx.keep (k:=w.heap.size) (o:=0) (v:= .int .i64 last) (by simp [go_sem]);have k1:=hx.keep (k:=w.heap.size) (o:=1) (v:= .int .i64 owners) (by simp [go_sem]);have k2:=hx.keep (k:=w.heap.size) (o:=2) (v:= .slice a1 n1 c1) (by simp [go_sem]);have k3:=hx.keep (k:=w.heap.size) (o:=3) (v:= .slice a2 n2 c2) (by simp [go_sem]);have r0:=hx.keep (k:=w.heap.size+1) (o:=0) (v:= .int .i64 ow) (by simp [go_sem]);have r1:=hx.keep (k:=w.heap.size+1) (o:=1) (v:= .int .i64 va) (by simp [go_sem]);have r2:=hx.keep (k:=w.heap.size+1) (o:=2) (v:= .int .i64 sl) (by simp [go_sem]);have r3:=hx.keep (k:=w.heap.size+1) (o:=3) (v:= .int .i64 sh) (by simp [go_sem]);replace XX:=XX.trans hy;clear hx hy;(go_wp2_with fail);(with_reducible refine(H2.out _).mono ?_);rintro e w2 ⟨rfl,hx⟩;have hy:Ext w1 w2:=EX;replace XX:=XX.trans hy;replace k0:=hy.keep k0;replace k1:=hy.keep k1;replace k2:=hy.keep k2;replace k3:=hy.keep k3;replace r0:=hy.keep r0;replace r1:=hy.keep r1;replace r2:=hy.keep r2;replace r3:=hy.keep r3;clear hx hy;(go_wp2_with fail);(with_reducible refine(H3.out _ EX).mono ?_);rintro e w3 ⟨rfl,hx⟩;have hy:Ext w2 w3:=EX;replace XX:=XX.trans hy;clear hx hy;(go_wp2_with fail);go_ret;exact⟨rfl,XX⟩
end Go.Proofs.YtegkdnfeceomdaaGreat
namespace Go.Proofs.YtegkdnfeceomdaaGreat
open Go.RowKit Go.Hs
theorem eq_ent (a0 a1 a2 a3 a4 a5 a6 a7 b0 b1 b2 b3 b4 b5 b6 b7:Int) (w:World):(binOp .eql 125 (.agg #[.int .i64 a0,.int .i64 a1,.int .i64 a2,.int .i64 a3,.int .i64 a4,.int .i64 a5,.int .i64 a6,.int .i64 a7]) (.agg #[.int .i64 b0,.int .i64 b1,.int .i64 b2,.int .i64 b3,.int .i64 b4,.int .i64 b5,.int .i64 b6,.int .i64 b7])).run Tryz.prog w= .ok (.bool (decide (a0=b0∧a1=b1∧a2=b2∧a3=b3∧a4=b4∧a5=b5∧a6=b6∧a7=b7))) w:=by
 have u4:=Tryz.underlying3;have a4':=Tryz.isAgg3;have z4:=Tryz.sizeOf3;have u5:=Tryz.underlying123;have a5':=Tryz.isAgg123;have z5:=Tryz.sizeOf123;have hst:Tryz.prog.stoodInHeld 125=false:=by kernel_rfl
 rw [run_eql_struct];rw [show (10000:Nat)=9999+1 from rfl,Op.equalIn];simp only [Sem.run_bind,run_underlying Tryz.underlying125,Result.andThen_ok];go_simp;(repeat' split)<;>simp_all
end Go.Proofs.YtegkdnfeceomdaaGreat
