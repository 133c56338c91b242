/- Bundled: what the texts SC UM UU SJ say one after another. -/
import Derived.Test.YtegkdnfeceomdaaGreatKDA18
import Derived.Test.YtegkdnfeceomdaaGreatKDA16
import Derived.Maps.RangeRun
import Derived.ChangeKeysEq
import Derived.Laws.StructEq
import Derived.Test.YtegkdnfeceomdaaGreatKDA4
set_option maxRecDepth 100000
set_option maxHeartbeats 16000000
set_option linter.unusedSimpArgs false
set_option linter.unusedVariables false
namespace Go.Hs
open Go.RowKit
structure Sh3 (R:Nat) (x y z:Int) (w:World):Prop where
 c0:w.cell? ⟨R,0,none⟩=some (.int .i64 x)
 c1:w.cell? ⟨R,1,none⟩=some (.int .i64 y)
 c2:w.cell? ⟨R,2,none⟩=some (.int .i64 z)
 fr:∀(o:Nat),w.frozen? ⟨R,o,none⟩=false
theorem Sh3.set0 {R:Nat} {x y z:Int} {w:World} (h:Sh3 R x y z w) (v:Int):Sh3 R v y z (w.setCell ⟨R,0,none⟩ (.int .i64 v)):=⟨World.cell?_setCell_same _ _ _ h.c0,cell_ne (.inr (by decide)) h.c1,cell_ne (.inr (by decide)) h.c2,fun o=>by rw [World.frozen?_setCell];exact h.fr o⟩
theorem Sh3.set1 {R:Nat} {x y z:Int} {w:World} (h:Sh3 R x y z w) (v:Int):Sh3 R x v z (w.setCell ⟨R,1,none⟩ (.int .i64 v)):=⟨cell_ne (.inr (by decide)) h.c0,World.cell?_setCell_same _ _ _ h.c1,cell_ne (.inr (by decide)) h.c2,fun o=>by rw [World.frozen?_setCell];exact h.fr o⟩
theorem Sh3.set2 {R:Nat} {x y z:Int} {w:World} (h:Sh3 R x y z w) (v:Int):Sh3 R x y v (w.setCell ⟨R,2,none⟩ (.int .i64 v)):=⟨cell_ne (.inr (by decide)) h.c0,cell_ne (.inr (by decide)) h.c1,World.cell?_setCell_same _ _ _ h.c2,fun o=>by rw [World.frozen?_setCell];exact h.fr o⟩
def settle3 (amount a b c:Int):Int×Int×Int:=
 if a+b+c≤amount then (a,b,c) else (amount*a / (a+b+c),amount*(a+b) / (a+b+c) - amount*a / (a+b+c),amount*(a+b+c) / (a+b+c) - amount*(a+b) / (a+b+c))
theorem settle3_eq (amount a b c:Int):settleL amount [a,b,c]= [(settle3 amount a b c).1,(settle3 amount a b c).2.1,(settle3 amount a b c).2.2]:=by
 have e:sumI [a,b,c]=a+b+c:=by simp [sumI]
 unfold settleL settle3;rw [e];split
 ·rfl
 ·simp [settleGo]
theorem tdiv_ok {x y:Int} (hx:0≤x):x.tdiv y=x / y:=Int.tdiv_eq_ediv_of_nonneg hx
end Go.Hs
namespace Go.Proofs.YtegkdnfeceomdaaGreat
open Go.RowKit Go.Hs
attribute [local irreducible] World.setCell World.alloc
theorem settle_s (a b c amount:Int) (w:World) (ha:0≤a∧a≤5000) (hb:0≤b∧b≤5000) (hc:0≤c∧c≤5000) (hm:0≤amount∧amount≤1000):
  Calls Tryz.prog 65 #[sh3 a b c,.int .i64 amount] w fun e w'=>e= .returned (sh3 (settle3 amount a b c).1 (settle3 amount a b c).2.1 (settle3 amount a b c).2.2)∧Ext w w':=by
 have HT:Hid (∀W,Calls Tryz.prog 121 #[sh3 a b c] W fun e w'=>e= .returned (.int .i64 (a+b+c))∧Ext W w'):=hHd (fun W=>total_s a b c W (by omega) (by omega) (by omega));have h0:=index_sh0 a b c;have h1:=index_sh1 a b c;have h2:=index_sh2 a b c;unfold sh3 at*;by_cases hle:a+b+c≤amount
 ·have HS : Hid (settle3 amount a b c = (a, b, c)) := hHd (by unfold settle3; rw [if_pos hle]); have hd : decide (a + b + c ≤ amount) = true := decide_eq_true hle; rw [HS.out]; go_enter Tryz.func65, Tryz.ntmps65
  (go_wp2_with fail);(with_reducible refine(HT.out _).mono ?_);rintro e w1 ⟨rfl,hx1⟩;have q0:=hx1.keep (k:=w.heap.size) (o:=0) (v:= .int .i64 a) (by simp [go_sem]);have q1:=hx1.keep (k:=w.heap.size) (o:=1) (v:= .int .i64 b) (by simp [go_sem]);have q2:=hx1.keep (k:=w.heap.size) (o:=2) (v:= .int .i64 c) (by simp [go_sem]);have z0:=hx1.keep (k:=w.heap.size+1) (o:=0) (v:= .int .i64 0) (by simp [go_sem]);have z1:=hx1.keep (k:=w.heap.size+1) (o:=1) (v:= .int .i64 0) (by simp [go_sem]);have z2:=hx1.keep (k:=w.heap.size+1) (o:=2) (v:= .int .i64 0) (by simp [go_sem]);have zf:∀o,w1.frozen? ⟨w.heap.size+1,o,none⟩=false:=fun o=>(hx1.frozen (by simp)).trans (by simp [go_sem])
  have X:Ext w w1:=EX;have h3:=(((⟨z0,z1,z2,zf⟩:Sh3 (w.heap.size+1) 0 0 0 w1).set0 a).set1 b).set2 c;clear hx1;(go_wp2_with fail);refine bodyPost_ret (v:= .agg #[.int .i64 a,.int .i64 b,.int .i64 c]) (by simp [results,Tryz.results65,go_sem,h3.c0,h3.c1,h3.c2]) rfl ⟨rfl,?_⟩
  exact(((X.setCell (by omega) _).setCell (by omega) _).setCell (by omega) _)
 ·obtain ⟨al, hal⟩ : ∃ al, al = a + b + c := ⟨_, rfl⟩
  have hp:∀x,0≤x→x≤15000→0≤amount*x∧amount*x≤15000000:=fun x h1 h2=>by
   have e1:0*x≤amount*x:=Int.mul_le_mul_of_nonneg_right hm.1 h1;have e2:amount*x≤1000*x:=Int.mul_le_mul_of_nonneg_right hm.2 h1;omega
  have hq:∀x,0≤x→x≤15000000→0≤x / al∧x / al≤15000000:=fun x h1 h2=>by
   have e1:=Int.ediv_nonneg h1 (show 0≤al by omega);have e2:x / al≤x:=Int.ediv_le_self al h1;omega
  obtain⟨p1,hp1⟩:∃p,p=amount*a / al:=⟨_,rfl⟩;obtain⟨p2,hp2⟩:∃p,p=amount*(a+b) / al:=⟨_,rfl⟩;obtain⟨p3,hp3⟩:∃p,p=amount*(a+b+c) / al:=⟨_,rfl⟩;have HS:Hid (settle3 amount a b c=(p1,p2 - p1,p3 - p2)):=hHd (by unfold settle3;rw [if_neg hle,←hal,hp1,hp2,hp3,←hal]);have m1:=hp a (by omega) (by omega);have m2:=hp (a+b) (by omega) (by omega);have m3:=hp (a+b+c) (by omega) (by omega);have n1:=hq _ m1.1 m1.2;have n2:=hq _ m2.1 m2.2;have n3:=hq _ m3.1 m3.2;rw [←hp1] at n1;rw [←hp2] at n2;rw [←hp3] at n3;have t1:(amount*a).tdiv al=p1:=by rw [hp1];exact tdiv_ok m1.1
  have t2:(amount*(a+b)).tdiv al=p2:=by rw [hp2];exact tdiv_ok m2.1
  have t3:(amount*(a+b+c)).tdiv al=p3:=by rw [hp3];exact tdiv_ok m3.1
  have t1':amount*a / al=p1:=hp1.symm;have t2':amount*(a+b) / al=p2:=hp2.symm;have t3':amount*(a+b+c) / al=p3:=hp3.symm;have v1:IntKind.i64.wrap a=a:=IntWalk.i64_in _ (by omega);have v2:IntKind.i64.wrap (a+b)=a+b:=IntWalk.i64_in _ (by omega);have v3:IntKind.i64.wrap (a+b+c)=a+b+c:=IntWalk.i64_in _ (by omega);have v4:IntKind.i64.wrap (amount*a)=amount*a:=IntWalk.i64_in _ (by omega);have v5:IntKind.i64.wrap (amount*(a+b))=amount*(a+b):=IntWalk.i64_in _ (by omega);have v6:IntKind.i64.wrap (amount*(a+b+c))=amount*(a+b+c):=IntWalk.i64_in _ (by omega);have v7:IntKind.i64.wrap p1=p1:=IntWalk.i64_in _ (by omega);have v8:IntKind.i64.wrap p2=p2:=IntWalk.i64_in _ (by omega);have v9:IntKind.i64.wrap p3=p3:=IntWalk.i64_in _ (by omega);have y2:IntKind.i64.wrap (p2 - p1)=p2 - p1:=IntWalk.i64_in _ (by omega);have y3:IntKind.i64.wrap (p3 - p2)=p3 - p2:=IntWalk.i64_in _ (by omega);have hz:¬al=0:=by omega
  have hd:decide (al≤amount)=false:=decide_eq_false (by omega);rw [←hal] at HT;rw [HS.out];clear hp hq m1 m2 m3 n1 n2 n3 hp1 hp2 hp3 hle ha hb hc hm HS;have HAL:=hHd hal;clear hal;go_enter Tryz.func65,Tryz.ntmps65
  (go_wp2_with fail);(with_reducible refine(HT.out _).mono ?_);rintro e w1 ⟨rfl,hx1⟩;have q0:=hx1.keep (k:=w.heap.size) (o:=0) (v:= .int .i64 a) (by simp [go_sem]);have q1:=hx1.keep (k:=w.heap.size) (o:=1) (v:= .int .i64 b) (by simp [go_sem]);have q2:=hx1.keep (k:=w.heap.size) (o:=2) (v:= .int .i64 c) (by simp [go_sem]);have z0:=hx1.keep (k:=w.heap.size+1) (o:=0) (v:= .int .i64 0) (by simp [go_sem]);have z1:=hx1.keep (k:=w.heap.size+1) (o:=1) (v:= .int .i64 0) (by simp [go_sem]);have z2:=hx1.keep (k:=w.heap.size+1) (o:=2) (v:= .int .i64 0) (by simp [go_sem]);have zf:∀o,w1.frozen? ⟨w.heap.size+1,o,none⟩=false:=fun o=>(hx1.frozen (by simp)).trans (by simp [go_sem])
  have X:Ext w w1:=EX;have HZ:Hid (Sh3 (w.heap.size+1) 0 0 0 w1):=hHd ⟨z0,z1,z2,zf⟩;clear hx1 HT z0 z1 z2 zf;(go_wp2_with fail);go_loopw [6,7,18] (fun s6 s7 s18 wr=>((s18= .int .i64 0∧s6= .int .i64 0∧s7= .int .i64 0∧Hid (Sh3 (w.heap.size+1) 0 0 0 wr))∨(s18= .int .i64 1∧s6= .int .i64 a∧s7= .int .i64 p1∧Hid (Sh3 (w.heap.size+1) p1 0 0 wr))∨(s18= .int .i64 2∧s6= .int .i64 (a+b)∧s7= .int .i64 p2∧Hid (Sh3 (w.heap.size+1) p1 (p2 - p1) 0 wr))∨(s18= .int .i64 3∧s6= .int .i64 (a+b+c)∧s7= .int .i64 p3∧Hid (Sh3 (w.heap.size+1) p1 (p2 - p1) (p3 - p2) wr)))∧Ext w wr) (fun _ _ s _=>3 - (intOf s).toNat)
  case atStart=>exact⟨.inl ⟨rfl,rfl,rfl,HZ⟩,X⟩
  case round=>
   obtain⟨hr,hx⟩:=hrel;obtain⟨wo,rfl⟩:∃x,x=wr:=⟨_,rfl⟩;clear q0 q1 q2;rcases hr with ⟨rfl,rfl,rfl,HC⟩|⟨rfl,rfl,rfl,HC⟩|⟨rfl,rfl,rfl,HC⟩|⟨rfl,rfl,rfl,HC⟩
   ·have f0 := HC.out.c0; have ff := HC.out.fr; (go_wp2_with fail); go_roundw
    case rel=>exact⟨.inr (.inl ⟨rfl,by first|rfl|simp,rfl,hHd (by first|exact HC.out.set0 p1|simpa using HC.out.set0 p1)⟩),Ext.setCell hx (by omega) _⟩
    case measure=>simp [intOf]
   ·have f0 := HC.out.c1; have ff := HC.out.fr; (go_wp2_with fail); go_roundw
    case rel=>exact⟨.inr (.inr (.inl ⟨rfl,rfl,rfl,hHd (HC.out.set1 (p2 - p1))⟩)),Ext.setCell hx (by omega) _⟩
    case measure=>simp [intOf]
   ·have f0 := HC.out.c2; have ff := HC.out.fr; (go_wp2_with fail); go_roundw
    case rel=>exact⟨.inr (.inr (.inr ⟨rfl,rfl,rfl,hHd (HC.out.set2 (p3 - p2))⟩)),Ext.setCell hx (by omega) _⟩
    case measure=>simp [intOf]
   ·have g0 := HC.out.c0; have g1 := HC.out.c1; have g2 := HC.out.c2; have ff := HC.out.fr; have h3 := ((HC.out.set0 p1).set1 (p2 - p1)).set2 (p3 - p2); (go_wp2_with fail); refine bodyPost_ret (v := .agg #[.int .i64 p1, .int .i64 (p2 - p1), .int .i64 (p3 - p2)]) (by simp [results, Tryz.results65, go_sem, h3.c0, h3.c1, h3.c2]) rfl ⟨rfl, ?_⟩
    exact(((hx.setCell (by omega) _).setCell (by omega) _).setCell (by omega) _)
end Go.Proofs.YtegkdnfeceomdaaGreat
namespace Go.Hs
open Go.RowKit Go.Proofs.YtegkdnfeceomdaaGreat
theorem sc_eq {W:World} {b i:Nat} {x v:Value} (hc:W.cell? ⟨b,i,none⟩=some x):(W.setCell ⟨b,i,none⟩ v).cell? ⟨b,i,none⟩=some v:=World.cell?_setCell_same _ _ _ hc
end Go.Hs
namespace Go.Proofs.YtegkdnfeceomdaaGreat
open Go.RowKit Go.Hs
attribute [local irreducible] World.setCell World.alloc
def PlayV (c:Cas) (t:List Thr) (w0 w:World) (v:Value):Prop:=∃a q,v= .agg #[.slice a c.flds.length q,.int .i64 (sumT c c.flds t).award,.int .i64 (feeA c.fee (sumT c c.flds t)),.int .i64 (feeB c.fee (sumT c c.flds t))]∧
 IntsV w (.slice a c.flds.length q) (countsT c.flds t)∧Ext w0 w
theorem PlayV.ext {c:Cas} {t:List Thr} {w0 w w':World} {v:Value} (h:PlayV c t w0 w v) (hx:Ext w w'):PlayV c t w0 w' v:=by
 obtain⟨a,q,he,h1,h2⟩:=h;exact⟨a,q,he,h1.ext hx,h2.trans hx⟩
end Go.Proofs.YtegkdnfeceomdaaGreat
namespace Go.Hs
open Go.RowKit
structure KeyT {α:Type} (P:Program) (T:TypeId) (enc:α→Value):Prop where
 eq:∀a b w,∃r:Bool,(Op.equal T (enc a) (enc b)).run P w= .ok r w∧(r=true↔a=b)
 chk:∀a w,(Instr.checkKey false 10000 T (enc a)).run P w= .ok () w
 und:∃fs,P.underlying T=some (.struct fs)
 same:∀a,Instr.sameBits 10000 (enc a) (enc a)=true
def SetAt {α:Type} (enc:α→Value) (r:Nat) (S:α→Prop) (w:World):Prop:=
 ∃es clock,w.heap[r]?=some (.map es clock)∧(∀e∈es.toList,(∃a,S a∧e.key=enc a)∧e.born<clock)∧(∀a,S a→∃e∈es.toList,e.key=enc a)∧(es.toList.map (·.born)).Nodup
section
variable {α:Type} {P:Program} {T:TypeId} {enc:α→Value}
theorem SetAt.lt {r:Nat} {S:α→Prop} {w:World} (h:SetAt enc r S w):r<w.heap.size:=by
 obtain⟨es,clock,hr,-⟩:=h;exact(Array.getElem?_eq_some_iff.1 hr).1
theorem SetAt.of {r:Nat} {S:α→Prop} {w w':World} (h:SetAt enc r S w) (hx:w'.heap[r]?=w.heap[r]?):SetAt enc r S w':=by
 obtain⟨es,clock,hr,rest⟩:=h;exact⟨es,clock,hx.trans hr,rest⟩
theorem SetAt.congr {r:Nat} {S S':α→Prop} {w:World} (h:SetAt enc r S w) (e:∀a,S a↔S' a):SetAt enc r S' w:=by
 obtain⟨es,clock,hr,h1,h2,h3⟩:=h;exact⟨es,clock,hr,fun x hx=>let ⟨⟨a,ha,hk⟩,hb⟩:=h1 x hx;⟨⟨a,(e a).1 ha,hk⟩,hb⟩,fun a ha=>h2 a ((e a).2 ha),h3⟩
theorem SetAt.empty (w:World):SetAt enc w.heap.size (fun _:α=>False) (w.alloc (.map #[] 0)):=
 ⟨#[],0,World.alloc_heap_new w _,fun e he=>by simp at he,fun a h=>h.elim,by simp⟩
theorem SetAt.noCells {r:Nat} {S:α→Prop} {w:World} (h:SetAt enc r S w):NoCells w r:=fun o=>by
 obtain⟨es,clock,hr,-⟩:=h;simp [World.cell?,hr]
theorem find_key (K : KeyT P T enc) (a : α) (i : Nat) (es : List MapEntry) (h : ∀ e ∈ es, ∃ b, e.key = enc b) :
    ∃r,(∀w,(Instr.findAsking T (enc a) es i).run P w= .ok r w)∧((r=none∧∀e∈es,e.key≠enc a)∨∃j v,r=some (i+j,v)∧∃e,es[j]?=some e∧e.key=enc a):=by
  induction es generalizing i with
  |nil=>exact⟨none,fun _=>rfl,.inl ⟨rfl,fun e he=>by cases he⟩⟩
  | cons e es ih =>
    obtain⟨b,hk⟩:=h e (by simp);obtain⟨r,hr,hor⟩:=ih (i+1) (fun e he=>h e (by simp [he]));by_cases heq:a=b
    · subst heq; refine ⟨some (i, e.val), fun w => ?_, .inr ⟨0, e.val, by simp, e, by simp, hk⟩⟩
      obtain⟨q,hq,hqi⟩:=K.eq a a w;have:q=true:=hqi.2 rfl;subst this;unfold Instr.findAsking;rw [hk,Sem.run_bind,hq];rfl
    · refine ⟨r, fun w => ?_, ?_⟩
      · obtain ⟨q, hq, hqi⟩ := K.eq a b w
        have:q=false:=by
          cases q with
          |false=>rfl
          |true=>exact absurd (hqi.1 rfl) heq
        subst this;unfold Instr.findAsking;rw [hk,Sem.run_bind,hq];exact hr w
      · rcases hor with ⟨h1, h2⟩ | ⟨j, v, h1, e', h2, h3⟩
        · refine .inl ⟨h1, fun e' he' => ?_⟩
          rcases List.mem_cons.1 he' with rfl|h'
          · rw [hk]; intro hc
            obtain⟨q,hq,hqi⟩:=K.eq b a default;obtain⟨q2,hq2,hqi2⟩:=K.eq a a default;rw [hc] at hq;rw [hq] at hq2;have e2:q=q2:=by injection hq2
            exact heq (hqi.1 (e2.trans (hqi2.2 rfl))).symm
          · exact h2 e' h'
        · exact .inr ⟨j+1,v,by rw [h1];congr 2;omega,e',by simpa using h2,h3⟩
theorem findKey_key (K:KeyT P T enc) (hagg:∀a,∃c,enc a= .agg c) (a:α) (es:List MapEntry) (h:∀e∈es,∃b,e.key=enc b):
    ∃r,(∀w,(Instr.findKey T (enc a) es).run P w= .ok r w)∧((r=none∧∀e∈es,e.key≠enc a)∨∃j v,r=some (j,v)∧∃e,es[j]?=some e∧e.key=enc a):=by
  obtain⟨r,hr,ho⟩:=find_key K a 0 es h;obtain⟨fs,hu⟩:=K.und;obtain⟨c,hc⟩:=hagg a;cases es with
  | nil =>
    refine⟨none,fun w=> ?_,.inl ⟨rfl,fun e he=>by cases he⟩⟩
    simp only [Instr.findKey,Sem.run_bind,run_underlying hu,Result.andThen_ok,Instr.findNow,Sem.run_pure]
  | cons e es =>
    refine⟨r,fun w=> ?_,by simpa using ho⟩
    have:Instr.findNow (.struct fs) (enc a) (e::es) 0=none:=by
      rw [hc];simp [Instr.findNow,Instr.sameNow]
    simp only [Instr.findKey,Sem.run_bind,run_underlying hu,Result.andThen_ok,this];exact hr w
theorem SetAt.put (K:KeyT P T enc) (hagg:∀a,∃c,enc a= .agg c) {M E:TypeId} (hM:P.underlying M=some (.map T E)) {r:Nat} {S:α→Prop} {w:World} (h:SetAt enc r S w) (a:α) (v:Value):
  ∃o,(Instr.mapUpdate M (.map (some r)) (enc a) v).run P w= .ok () (w.putObj r o)∧SetAt enc r (fun x=>S x∨x=a) (w.putObj r o):=by
 obtain⟨es,clock,hr,h1,h2,h3⟩:=h;obtain⟨x,hx,ho⟩:=findKey_key K hagg a es.toList (fun e he=>let ⟨⟨b,_,hk⟩,_⟩:=h1 e he;⟨b,hk⟩);have hg:(getObj r).run P w= .ok (.map es clock) w:=by simp [getObj,Sem.run,hr]
 have hlt:r<w.heap.size:=(Array.getElem?_eq_some_iff.1 hr).1;have hs:∀o:Obj,(setObj r o).run P w= .ok () (w.putObj r o):=fun o=>by simp [setObj,Sem.run,hr,World.putObj]
 have hck:=K.chk a;rcases ho with ⟨rfl,hno⟩|⟨j,v',rfl,e,hj,hk⟩
 ·refine ⟨_, ?_, es.push { key := enc a, val := v, born := clock }, clock + 1, World.putObj_heap_same hlt, ?_, ?_, ?_⟩
  ·simp [Instr.mapUpdate,run_underlying hM,hg,hck,hx,hs]
  ·intro e he'
   simp only [Array.toList_push,List.mem_append,List.mem_cons,List.not_mem_nil,or_false] at he';rcases he' with he'|rfl
   ·obtain⟨⟨b,hb,hbk⟩,hc⟩:=h1 e he';exact⟨⟨b,.inl hb,hbk⟩,by omega⟩
   ·exact⟨⟨a,.inr rfl,rfl⟩,by simp⟩
  ·intro b hb
   rcases hb with hb|rfl
   ·obtain⟨e,he,hke⟩:=h2 b hb;exact⟨e,by simp only [Array.toList_push,List.mem_append];exact .inl he,hke⟩
   ·exact⟨_,by simp only [Array.toList_push,List.mem_append,List.mem_cons,List.not_mem_nil,or_false];exact .inr rfl,rfl⟩
  ·simp only [Array.toList_push, List.map_append, List.map_cons, List.map_nil]; rw [List.nodup_append]; refine ⟨h3, by simp, fun x hx y hy => ?_⟩
   simp only [List.mem_cons,List.not_mem_nil,or_false] at hy;subst hy;obtain⟨e,he,rfl⟩:=List.mem_map.1 hx;have:=(h1 e he).2;omega
 ·have hks : (Instr.keyThatStays (((es[j]?).map (·.key)).getD (enc a)) (enc a)).run P w = .ok (enc a) w := by
   have e1:es[j]?=some e:=by simpa using hj
   rw [e1];simp only [Option.map_some,Option.getD_some,hk,Instr.keyThatStays];rw [K.same a];rfl
  have hbn:∀l:List MapEntry,∀j,((l.modify j fun e=> { e with key:=enc a,val:=v }).map (·.born))=l.map (·.born):=by
   intro l
   induction l with
   |nil=>intro j;simp
   |cons y l ih=>intro j;cases j<;>simp [ih]
  refine⟨_,?_,es.modify j fun e=> { e with key:=enc a,val:=v },clock,World.putObj_heap_same hlt,?_,?_,?_⟩
  ·simp [Instr.mapUpdate,run_underlying hM,hg,hck,hx,hs,hks]
  ·intro e' he'
   obtain⟨k,hk',hke⟩:=List.getElem_of_mem he';simp only [Array.toList_modify,List.getElem_modify] at hke;split at hke
   ·subst hke;exact⟨⟨a,.inr rfl,rfl⟩,(h1 _ (List.getElem_mem _)).2⟩
   ·subst hke;obtain⟨⟨b,hb,hbk⟩,hc⟩:=h1 _ (List.getElem_mem (l:=es.toList) (by simpa using hk'));exact⟨⟨b,.inl hb,hbk⟩,hc⟩
  ·have hjl : j < es.toList.length := (List.getElem?_eq_some_iff.1 hj).1; intro b hb
   by_cases hba:b=a
   ·subst hba; refine ⟨{ e with key := enc b, val := v }, ?_, rfl⟩
    rw [Array.toList_modify];refine List.mem_iff_getElem.2 ⟨j,by simpa using hjl,?_⟩
    have e1:es.toList[j]=e:=(List.getElem?_eq_some_iff.1 hj).2;simp only [List.getElem_modify_eq,e1]
   ·rcases hb with hb | rfl
    ·obtain ⟨e', he', hke⟩ := h2 b hb; obtain ⟨k, hk', rfl⟩ := List.getElem_of_mem he'; by_cases hjk : j = k
     ·subst hjk; have e1 : es.toList[j] = e := (List.getElem?_eq_some_iff.1 hj).2; rw [e1, hk] at hke; obtain ⟨q, hq, hqi⟩ := K.eq b a default; obtain ⟨q2, hq2, hqi2⟩ := K.eq a a default; rw [← hke] at hq; rw [hq] at hq2; have e2 : q = q2 := by injection hq2
      exact absurd (hqi.1 (e2.trans (hqi2.2 rfl))) hba
     ·refine ⟨es.toList[k], ?_, hke⟩
      rw [Array.toList_modify];refine List.mem_iff_getElem.2 ⟨k,by simpa using hk',?_⟩
      rw [List.getElem_modify_ne _ _ hjk]
    ·exact absurd rfl hba
  ·rw [Array.toList_modify,hbn];exact h3
end
abbrev Dmg.v (d:Dmg):Value:= .agg #[.int .i64 d.amount,.int .i64 d.s0,.int .i64 d.s1,.int .i64 d.s2]
def paysD (d:Dmg):Int×Int×Int:=settle3 d.amount d.s0 d.s1 d.s2
def paysV (d:Dmg):Value:=sh3 (paysD d).1 (paysD d).2.1 (paysD d).2.2
structure DmgOK (d:Dmg):Prop where
 a:0≤d.amount∧d.amount≤1000
 s0:0≤d.s0∧d.s0≤5000
 s1:0≤d.s1∧d.s1≤5000
 s2:0≤d.s2∧d.s2≤5000
def Stl (r:Nat) (w:World):Prop:=∃es clock,w.heap[r]?=some (.map es clock)∧∀e∈es.toList,∃d:Dmg,e.key=d.v∧e.val=paysV d
theorem Stl.lt {r:Nat} {w:World} (h:Stl r w):r<w.heap.size:=by
 obtain⟨es,clock,hr,-⟩:=h;exact(Array.getElem?_eq_some_iff.1 hr).1
theorem Stl.of {r:Nat} {w w':World} (h:Stl r w) (hx:w'.heap[r]?=w.heap[r]?):Stl r w':=by
 obtain⟨es,clock,hr,rest⟩:=h;exact⟨es,clock,hx.trans hr,rest⟩
theorem Stl.ext {r:Nat} {w w':World} (h:Stl r w) (hx:Ext w w'):Stl r w':=h.of (hx.heap h.lt)
theorem Stl.empty (w:World):Stl w.heap.size (w.alloc (.map #[] 0)):=⟨#[],0,World.alloc_heap_new w _,fun e he=>by simp at he⟩
theorem Stl.noCells {r:Nat} {w:World} (h:Stl r w):NoCells w r:=fun o=>by
 obtain⟨es,clock,hr,-⟩:=h;simp [World.cell?,hr]
theorem Stl.ne {r b o:Nat} {v:Value} {w:World} (h:Stl r w) (hc:w.cell? ⟨b,o,none⟩=some v):b≠r:=by
 rintro rfl;obtain⟨es,clock,hr,-⟩:=h;simp [World.cell?,hr] at hc
structure MM (m:Nat) (w w':World):Prop where
 kp:KP (fun j=>j=m) w w'
 stl:Stl m w→Stl m w'
section
variable {m:Nat} {a b c:World}
theorem MM.refl (w:World):MM m w w:=⟨KP.refl w,id⟩
theorem MM.trans (h:MM m a b) (k:MM m b c):MM m a c:=⟨h.kp.trans k.kp,fun q=>k.stl (h.stl q)⟩
theorem MM.ext (h:MM m a b) (k:Ext b c):MM m a c:=⟨h.kp.ext k,fun q=>(h.stl q).ext k⟩
theorem Ext.mm (h:Ext a b):MM m a b:=(MM.refl a).ext h
theorem MM.drew (h:MM m a b):MM m a b.drew:=h.ext (Ext.refl b).drew
theorem MM.alloc (h:MM m a b) (o:Obj):MM m a (b.alloc o):=h.ext ((Ext.refl b).alloc o)
theorem MM.setCell (h:MM m a b) {T i:Nat} (hT:a.heap.size≤T) (hm:Stl m a) (v:Value):MM m a (b.setCell ⟨T,i,none⟩ v):=
  have E:Below 0 b (b.setCell ⟨T,i,none⟩ v):=Below.setCell (Below.refl 0 b) (Nat.zero_le _) v
  ⟨⟨E.os.trans h.kp.os, E.tape.trans h.kp.tape, E.output.trans h.kp.output, Nat.le_trans h.kp.size E.size, fun k hk hr => (Below.heap_setCell _ _ _ _ (show k ≠ T by omega)).trans (h.kp.block k hk hr)⟩,
   fun q=>(h.stl q).of (Below.heap_setCell _ _ _ _ (show m≠T by have:=hm.lt;omega))⟩
theorem MM.put (h:MM m a b) {o:Obj} (hm:Stl m (b.putObj m o)):MM m a (b.putObj m o):=
 ⟨⟨h.kp.os,h.kp.tape,h.kp.output,by simpa using h.kp.size,fun k hk hr=>(World.putObj_heap_other hr).trans (h.kp.block k hk hr)⟩,fun _=>hm⟩
theorem MM.keep (h:MM m a b) (hm:Stl m a) {k o:Nat} {v:Value} (hc:a.cell? ⟨k,o,none⟩=some v):b.cell? ⟨k,o,none⟩=some v:=h.kp.keep (hm.ne hc) hc
theorem MM.keep' (h:MM m a b) {k o:Nat} {v:Value} (hne:k≠m) (hc:a.cell? ⟨k,o,none⟩=some v):b.cell? ⟨k,o,none⟩=some v:=h.kp.keep hne hc
theorem MM.toExt (h:MM m a b) {w:World} (hx:Ext w a) (hm:w.heap.size≤m):Ext w b:=h.kp.toExt hx (fun k hk=>by subst hk;exact hm)
theorem MM.size (h:MM m a b):a.heap.size≤b.heap.size:=h.kp.size
end
theorem find_val {P : Program} {T : TypeId} {α : Type} {enc : α → Value} (K : KeyT P T enc) (a : α) (i : Nat) (es : List MapEntry) (h : ∀ e ∈ es, ∃ b, e.key = enc b) :
    ∃r,(∀w,(Instr.findAsking T (enc a) es i).run P w= .ok r w)∧((r=none∧∀e∈es,e.key≠enc a)∨∃j e,r=some (i+j,e.val)∧es[j]?=some e∧e.key=enc a):=by
  induction es generalizing i with
  |nil=>exact⟨none,fun _=>rfl,.inl ⟨rfl,fun e he=>by cases he⟩⟩
  | cons e es ih =>
    obtain⟨b,hk⟩:=h e (by simp);obtain⟨r,hr,hor⟩:=ih (i+1) (fun e he=>h e (by simp [he]));by_cases heq:a=b
    · subst heq; refine ⟨some (i, e.val), fun w => ?_, .inr ⟨0, e, by simp, by simp, hk⟩⟩
      obtain⟨q,hq,hqi⟩:=K.eq a a w;have:q=true:=hqi.2 rfl;subst this;unfold Instr.findAsking;rw [hk,Sem.run_bind,hq];rfl
    · refine ⟨r, fun w => ?_, ?_⟩
      · obtain ⟨q, hq, hqi⟩ := K.eq a b w
        have:q=false:=by
          cases q with
          |false=>rfl
          |true=>exact absurd (hqi.1 rfl) heq
        subst this;unfold Instr.findAsking;rw [hk,Sem.run_bind,hq];exact hr w
      · rcases hor with ⟨h1, h2⟩ | ⟨j, e', h1, h2, h3⟩
        · refine .inl ⟨h1, fun e' he' => ?_⟩
          rcases List.mem_cons.1 he' with rfl|h'
          · rw [hk]; intro hc
            obtain⟨q,hq,hqi⟩:=K.eq b a default;obtain⟨q2,hq2,hqi2⟩:=K.eq a a default;rw [hc] at hq;rw [hq] at hq2;have e2:q=q2:=by injection hq2
            exact heq (hqi.1 (e2.trans (hqi2.2 rfl))).symm
          · exact h2 e' h'
        · exact .inr ⟨j+1,e',by rw [h1];congr 2;omega,by simpa using h2,h3⟩
theorem findKey_val {P:Program} {T:TypeId} {α:Type} {enc:α→Value} (K:KeyT P T enc) (hagg:∀a,∃c,enc a= .agg c) (a:α) (es:List MapEntry) (h:∀e∈es,∃b,e.key=enc b):
    ∃r,(∀w,(Instr.findKey T (enc a) es).run P w= .ok r w)∧((r=none∧∀e∈es,e.key≠enc a)∨∃j e,r=some (j,e.val)∧es[j]?=some e∧e.key=enc a):=by
  obtain⟨r,hr,ho⟩:=find_val K a 0 es h;obtain⟨fs,hu⟩:=K.und;obtain⟨c,hc⟩:=hagg a;cases es with
  | nil =>
    refine⟨none,fun w=> ?_,.inl ⟨rfl,fun e he=>by cases he⟩⟩
    simp only [Instr.findKey,Sem.run_bind,run_underlying hu,Result.andThen_ok,Instr.findNow,Sem.run_pure]
  | cons e es =>
    refine⟨r,fun w=> ?_,by simpa using ho⟩
    have:Instr.findNow (.struct fs) (enc a) (e::es) 0=none:=by
      rw [hc];simp [Instr.findNow,Instr.sameNow]
    simp only [Instr.findKey,Sem.run_bind,run_underlying hu,Result.andThen_ok,this];exact hr w
end Go.Hs
namespace Go.Proofs.YtegkdnfeceomdaaGreat
open Go.RowKit Go.Hs
theorem Dmg.v_inj (a b:Dmg) (h:a.v=b.v):a=b:=by
 obtain⟨a0,a1,a2,a3⟩:=a;obtain⟨b0,b1,b2,b3⟩:=b;simp [Dmg.v] at h
 obtain⟨rfl,rfl,rfl,rfl⟩:=h;rfl
theorem eqd_int_n (n:Nat) (a b:Int) (w:World):(Op.equalIn (n+1) 3 (.int .i64 a) (.int .i64 b)).run Tryz.prog w= .ok (a==b) w:=by
 simp [Op.equalIn,go_sem]
theorem eqd_arr_n (n:Nat) (b c d b' c' d':Int) (w:World):
  (Op.equalIn (n+2) 133 (.agg #[.int .i64 b,.int .i64 c,.int .i64 d]) (.agg #[.int .i64 b',.int .i64 c',.int .i64 d'])).run Tryz.prog w= .ok (b==b'&&(c==c'&&d==d')) w:=by
 rw [Op.equalIn];simp only [Sem.run_bind,run_underlying Tryz.underlying133,Result.andThen_ok];simp only [Std.Legacy.Range.forIn_eq_forIn_range',Std.Legacy.Range.size,Nat.sub_zero,Nat.add_sub_cancel,Nat.div_one,List.range'_succ,List.range'_zero,List.forIn_cons,List.forIn_nil];have h:=eqd_int_n n;generalize Op.equalIn (n+1)=eqn at*;go_simp;by_cases h2:b=b'<;>by_cases h3:c=c'<;>by_cases h4:d=d'<;>simp [h2,h3,h4]
theorem eqd_n (n:Nat) (a b c d a' b' c' d':Int) (w:World):
  (Op.equalIn (n+3) 139 (.agg #[.int .i64 a,.int .i64 b,.int .i64 c,.int .i64 d]) (.agg #[.int .i64 a',.int .i64 b',.int .i64 c',.int .i64 d'])).run Tryz.prog w= .ok (a==a'&&(b==b'&&(c==c'&&d==d'))) w:=by
 have h:=eqd_arr_n n;have h1:=eqd_int_n (n+1);rw [Op.equalIn];generalize Op.equalIn (n+2)=eqn at*;simp only [Sem.run_bind,run_underlying Tryz.underlying139,Result.andThen_ok];go_simp;by_cases h0:a=a'<;>simp [h0]
 by_cases h2:b=b'<;>by_cases h3:c=c'<;>by_cases h4:d=d'<;>simp [h2,h3,h4]
theorem eqd (a b c d a' b' c' d':Int) (w:World):
  (Op.equal 139 (.agg #[.int .i64 a,.int .i64 b,.int .i64 c,.int .i64 d]) (.agg #[.int .i64 a',.int .i64 b',.int .i64 c',.int .i64 d'])).run Tryz.prog w= .ok (a==a'&&(b==b'&&(c==c'&&d==d'))) w:=
 eqd_n 9997 a b c d a' b' c' d' w
theorem check_dmg (em:Bool) (a b c d:Int) (w:World):
  (Instr.checkKey em 10000 139 (.agg #[.int .i64 a,.int .i64 b,.int .i64 c,.int .i64 d])).run Tryz.prog w= .ok () w:=by
 have:∀n,(Instr.checkKey em (n+3) 139 (.agg #[.int .i64 a,.int .i64 b,.int .i64 c,.int .i64 d])).run Tryz.prog w= .ok () w:=by
  intro n
  simp [Instr.checkKey,go_sem,Std.Legacy.Range.forIn_eq_forIn_range',Std.Legacy.Range.size,List.range'_succ]
 exact this 9997
theorem kDmg:KeyT Tryz.prog 139 Dmg.v:=by
 refine⟨fun a b w=>⟨_,eqd _ _ _ _ _ _ _ _ w,?_⟩,fun a w=>check_dmg _ _ _ _ _ w,⟨_,Tryz.underlying139⟩,fun a=> ?_⟩
 ·obtain⟨a0,a1,a2,a3⟩:=a;obtain⟨b0,b1,b2,b3⟩:=b;simp only [Bool.and_eq_true,beq_iff_eq,Dmg.mk.injEq]
 ·have : ∀ n, Instr.sameBits (n + 2) a.v a.v = true := by intro n; simp [Instr.sameBits, Dmg.v]
  exact this 9998
theorem zero_sh (w:World):(zeroValue 133).run Tryz.prog w= .ok (sh3 0 0 0) w:=by kernel_rfl
theorem memo_get {r:Nat} {w:World} (h:Stl r w) (d:Dmg):∃k:Bool,∀w',w'.heap[r]?=w.heap[r]?→(Instr.lookup 168 (.map (some r)) d.v true).run Tryz.prog w'= .ok (.tuple #[if k then paysV d else sh3 0 0 0,.bool k]) w':=by
 obtain⟨es,clock,hr,h1⟩:=h;obtain⟨x,hx,ho⟩:=findKey_val kDmg (fun a=>⟨_,rfl⟩) d es.toList (fun e he=>let ⟨b,hk,_⟩:=h1 e he;⟨b,hk⟩);rw [hr];rcases ho with ⟨rfl,hno⟩|⟨j,e,rfl,hj,hk⟩
 ·refine ⟨false, fun w' hr => ?_⟩
  have hg:(getObj r).run Tryz.prog w'= .ok (.map es clock) w':=by simp [getObj,Sem.run,hr]
  have hck:=fun em=>check_dmg em d.amount d.s0 d.s1 d.s2 w'
  have hz:=zero_sh w';simp [Instr.lookup,run_underlying Tryz.underlying168,hg,hck,hx]
  rfl
 ·refine ⟨true, fun w' hr => ?_⟩
  have hg:(getObj r).run Tryz.prog w'= .ok (.map es clock) w':=by simp [getObj,Sem.run,hr]
  have hck:=fun em=>check_dmg em d.amount d.s0 d.s1 d.s2 w'
  obtain⟨b,hb,hv⟩:=h1 e (List.mem_of_getElem? hj);have:b=d:=Dmg.v_inj _ _ (hb.symm.trans hk);subst this;simp [Instr.lookup,run_underlying Tryz.underlying168,hg,hck,hx,hv]
theorem memo_put {r:Nat} {w:World} (h:Stl r w) (d:Dmg):∃o,(Instr.mapUpdate 168 (.map (some r)) d.v (paysV d)).run Tryz.prog w= .ok () (w.putObj r o)∧Stl r (w.putObj r o):=by
 obtain⟨es,clock,hr,h1⟩:=h;obtain⟨x,hx,ho⟩:=findKey_val kDmg (fun a=>⟨_,rfl⟩) d es.toList (fun e he=>let ⟨b,hk,_⟩:=h1 e he;⟨b,hk⟩);have hg:(getObj r).run Tryz.prog w= .ok (.map es clock) w:=by simp [getObj,Sem.run,hr]
 have hlt:r<w.heap.size:=(Array.getElem?_eq_some_iff.1 hr).1;have hs:∀o:Obj,(setObj r o).run Tryz.prog w= .ok () (w.putObj r o):=fun o=>by simp [setObj,Sem.run,hr,World.putObj]
 have hck:=fun em=>check_dmg em d.amount d.s0 d.s1 d.s2 w
 have hsame:=kDmg.same d;rcases ho with ⟨rfl,hno⟩|⟨j,e,rfl,hj,hk⟩
 ·refine ⟨_, ?_, es.push { key := d.v, val := paysV d, born := clock }, clock + 1, World.putObj_heap_same hlt, ?_⟩
  ·simp [Instr.mapUpdate,run_underlying Tryz.underlying168,hg,hck,hx,hs]
  ·intro e he'
   simp only [Array.toList_push,List.mem_append,List.mem_cons,List.not_mem_nil,or_false] at he';rcases he' with he'|rfl
   ·exact h1 e he'
   ·exact⟨d,rfl,rfl⟩
 ·have hks : (Instr.keyThatStays (((es[j]?).map (·.key)).getD d.v) d.v).run Tryz.prog w = .ok d.v w := by
   have e1:es[j]?=some e:=by simpa using hj
   rw [e1];simp only [Option.map_some,Option.getD_some,hk,Instr.keyThatStays];rw [hsame];rfl
  refine⟨_,?_,es.modify j fun e=> { e with key:=d.v,val:=paysV d },clock,World.putObj_heap_same hlt,?_⟩
  ·simp [Instr.mapUpdate,run_underlying Tryz.underlying168,hg,hck,hx,hs,hks]
  ·intro e' he'
   obtain⟨k,hk',hke⟩:=List.getElem_of_mem he';simp only [Array.toList_modify,List.getElem_modify] at hke;split at hke
   ·subst hke;exact⟨d,rfl,rfl⟩
   ·subst hke;exact h1 _ (List.getElem_mem (l:=es.toList) (by simpa using hk'))
attribute [local irreducible] World.setCell World.alloc
theorem pays_d (p m:Nat) (d:Dmg) (w:World) (hp:w.cell? ⟨p,11,none⟩=some (.map (some m))) (hs:Stl m w) (hd:DmgOK d):
    Calls Tryz.prog 75 #[.pointer (some ⟨p,0,none⟩),d.v] w fun e w'=>e= .returned (paysV d)∧MM m w w':=by
  have HST:=hHd (fun W=>settle_s d.s0 d.s1 d.s2 d.amount W hd.s0 hd.s1 hd.s2 hd.a);have HPV:Hid (paysV d=sh3 (settle3 d.amount d.s0 d.s1 d.s2).1 (settle3 d.amount d.s0 d.s1 d.s2).2.1 (settle3 d.amount d.s0 d.s1 d.s2).2.2):=rfl;have HGET:=hHd (fun W (h:Stl m W)=>memo_get h d);have HPUT:=hHd (fun W (h:Stl m W)=>memo_put h d);have hml:=hs.lt;have hS:=hHd hs;rw [HPV.out] at HGET HPUT⊢;clear hd hs HPV;generalize (settle3 d.amount d.s0 d.s1 d.s2).1=z0 at*;generalize (settle3 d.amount d.s0 d.s1 d.s2).2.1=z1 at*;generalize (settle3 d.amount d.s0 d.s1 d.s2).2.2=z2 at*;obtain⟨am,s0,s1,s2⟩:=d;simp only [Dmg.v] at*;unfold sh3 at*;go_enter Tryz.func75,Tryz.ntmps75
  (go_wp2_with fail);obtain⟨W,hW,X,HS,HSf,HSz⟩:=bx4_3 w 139 (.int .i64 am) (.int .i64 s0) (.int .i64 s1) (.int .i64 s2) 133 (.int .i64 0) (.int .i64 0) (.int .i64 0);rw [hW];clear hW;obtain⟨⟨q0,q1,q2,q3,r0,r1,r2⟩,-⟩:=HS.out W (Ext.refl _);have rf:=HSf.out W (Ext.refl _);have hpW:=X.keep hp;have hpW0:=hp;have hSW:=hHd (hS.out.ext X);have hne:¬p=m:=hS.out.ne hp;clear HS HSf hp;obtain⟨k,hk⟩:=HGET.out W hSW.out;have hmW:m<W.heap.size:=hSW.out.lt;have hk0:=hk W.drew rfl;have hk1:=fun o=>hk (W.alloc o).drew (Below.heap_alloc _ _ _ hmW)
  have a0:=fun o=>((Ext.refl W).alloc o).keep q0
  have a1:=fun o=>((Ext.refl W).alloc o).keep q1
  have a2:=fun o=>((Ext.refl W).alloc o).keep q2
  have a3:=fun o=>((Ext.refl W).alloc o).keep q3
  have a4:=fun o=>((Ext.refl W).alloc o).keep hpW
  clear hk;have XM:Hid (MM m w W):=hHd X.mm;cases k with
  | true =>
    simp only [if_true] at hk0 hk1;go_region;clear hk0 hk1 a0 a1 a2 a3 a4;have Y:Ext W (W.alloc (.cells #[.int .i64 z0,.int .i64 z1,.int .i64 z2] 133)).drew:=EX;have u0:(W.alloc (.cells #[.int .i64 z0,.int .i64 z1,.int .i64 z2] 133)).drew.cell? ⟨W.heap.size,0,none⟩=some (.int .i64 z0):=by simp [go_sem]
    have u1:(W.alloc (.cells #[.int .i64 z0,.int .i64 z1,.int .i64 z2] 133)).drew.cell? ⟨W.heap.size,1,none⟩=some (.int .i64 z1):=by simp [go_sem]
    have u2:(W.alloc (.cells #[.int .i64 z0,.int .i64 z1,.int .i64 z2] 133)).drew.cell? ⟨W.heap.size,2,none⟩=some (.int .i64 z2):=by simp [go_sem]
    have uf:∀o,(W.alloc (.cells #[.int .i64 z0,.int .i64 z1,.int .i64 z2] 133)).drew.frozen? ⟨W.heap.size,o,none⟩=false:=by simp [go_sem]
    replace rf:=fun o=>(Y.frozen (o:=o) (lt_of_cell r0)).trans (rf o)
    replace q0:=Y.keep q0;replace q1:=Y.keep q1;replace q2:=Y.keep q2;replace q3:=Y.keep q3;replace r0:=Y.keep r0;replace r1:=Y.keep r1;replace r2:=Y.keep r2;replace hpW:=Y.keep hpW;generalize (W.alloc (.cells #[.int .i64 z0,.int .i64 z1,.int .i64 z2] 133)).drew=V at*;(go_wp2_with fail);refine bodyPost_ret (v:= .agg #[.int .i64 z0,.int .i64 z1,.int .i64 z2]) (by simp [results,Tryz.results75,go_sem,r0,r1,r2]) rfl ⟨rfl,?_⟩
    exact(((XM.out.ext Y).setCell (by omega) hS.out _).setCell (by omega) hS.out _).setCell (by omega) hS.out _
  | false =>
    simp only [Bool.false_eq_true,if_false] at hk0 hk1;go_region;clear hk0 hk1 a0 a1 a2 a3 a4;have Y:Ext W (W.alloc (.cells #[.int .i64 0,.int .i64 0,.int .i64 0] 133)).drew:=EX;have u0:(W.alloc (.cells #[.int .i64 0,.int .i64 0,.int .i64 0] 133)).drew.cell? ⟨W.heap.size,0,none⟩=some (.int .i64 0):=by simp [go_sem]
    have u1:(W.alloc (.cells #[.int .i64 0,.int .i64 0,.int .i64 0] 133)).drew.cell? ⟨W.heap.size,1,none⟩=some (.int .i64 0):=by simp [go_sem]
    have u2:(W.alloc (.cells #[.int .i64 0,.int .i64 0,.int .i64 0] 133)).drew.cell? ⟨W.heap.size,2,none⟩=some (.int .i64 0):=by simp [go_sem]
    have uf:∀o,(W.alloc (.cells #[.int .i64 0,.int .i64 0,.int .i64 0] 133)).drew.frozen? ⟨W.heap.size,o,none⟩=false:=by simp [go_sem]
    replace rf:=fun o=>(Y.frozen (o:=o) (lt_of_cell r0)).trans (rf o)
    replace q0:=Y.keep q0;replace q1:=Y.keep q1;replace q2:=Y.keep q2;replace q3:=Y.keep q3;replace r0:=Y.keep r0;replace r1:=Y.keep r1;replace r2:=Y.keep r2;replace hpW:=Y.keep hpW;generalize (W.alloc (.cells #[.int .i64 0,.int .i64 0,.int .i64 0] 133)).drew=V at*;(go_wp2_with fail);(with_reducible refine(HST.out _).mono ?_);rintro e w1 ⟨rfl,hx1⟩;have Y1:=hHd (Y.trans hx1);replace rf:=fun o=>(hx1.frozen (o:=o) (lt_of_cell r0)).trans (rf o)
    replace uf:=fun o=>(hx1.frozen (o:=o) (lt_of_cell u0)).trans (uf o)
    replace q0:=hx1.keep q0;replace q1:=hx1.keep q1;replace q2:=hx1.keep q2;replace q3:=hx1.keep q3;replace r0:=hx1.keep r0;replace r1:=hx1.keep r1;replace r2:=hx1.keep r2;replace hpW:=hx1.keep hpW;replace u0:=hx1.keep u0;replace u1:=hx1.keep u1;replace u2:=hx1.keep u2;have hw1:W.heap.size<w1.heap.size:=lt_of_cell u0;clear hx1 Y;have hnm:¬w.heap.size+1=m:=by omega
    have hnq:¬w.heap.size=W.heap.size:=by omega
    have hnq1:¬w.heap.size+1=W.heap.size:=by omega
    have hnp:¬p=W.heap.size:=by have h:p<w.heap.size:=lt_of_cell hpW0;have:=X.size;omega
    have M1:Hid (MM m w (((w1.setCell ⟨W.heap.size,0,none⟩ (.int .i64 z0)).setCell ⟨W.heap.size,1,none⟩ (.int .i64 z1)).setCell ⟨W.heap.size,2,none⟩ (.int .i64 z2)).drew):=hHd (((((XM.out.ext Y1.out).setCell (by omega) hS.out _).setCell (by omega) hS.out _).setCell (by omega) hS.out _).drew);have v0:(((w1.setCell ⟨W.heap.size,0,none⟩ (.int .i64 z0)).setCell ⟨W.heap.size,1,none⟩ (.int .i64 z1)).setCell ⟨W.heap.size,2,none⟩ (.int .i64 z2)).drew.cell? ⟨W.heap.size,0,none⟩=some (.int .i64 z0):=by simp [go_sem,u0,u1,u2]
    have v1:(((w1.setCell ⟨W.heap.size,0,none⟩ (.int .i64 z0)).setCell ⟨W.heap.size,1,none⟩ (.int .i64 z1)).setCell ⟨W.heap.size,2,none⟩ (.int .i64 z2)).drew.cell? ⟨W.heap.size,1,none⟩=some (.int .i64 z1):=by simp [go_sem,u0,u1,u2]
    have v2:(((w1.setCell ⟨W.heap.size,0,none⟩ (.int .i64 z0)).setCell ⟨W.heap.size,1,none⟩ (.int .i64 z1)).setCell ⟨W.heap.size,2,none⟩ (.int .i64 z2)).drew.cell? ⟨W.heap.size,2,none⟩=some (.int .i64 z2):=by simp [go_sem,u0,u1,u2]
    have x0:(((w1.setCell ⟨W.heap.size,0,none⟩ (.int .i64 z0)).setCell ⟨W.heap.size,1,none⟩ (.int .i64 z1)).setCell ⟨W.heap.size,2,none⟩ (.int .i64 z2)).drew.cell? ⟨w.heap.size+1,0,none⟩=some (.int .i64 0):=by simp [go_sem,r0,hnq1]
    have x1:(((w1.setCell ⟨W.heap.size,0,none⟩ (.int .i64 z0)).setCell ⟨W.heap.size,1,none⟩ (.int .i64 z1)).setCell ⟨W.heap.size,2,none⟩ (.int .i64 z2)).drew.cell? ⟨w.heap.size+1,1,none⟩=some (.int .i64 0):=by simp [go_sem,r1,hnq1]
    have x2:(((w1.setCell ⟨W.heap.size,0,none⟩ (.int .i64 z0)).setCell ⟨W.heap.size,1,none⟩ (.int .i64 z1)).setCell ⟨W.heap.size,2,none⟩ (.int .i64 z2)).drew.cell? ⟨w.heap.size+1,2,none⟩=some (.int .i64 0):=by simp [go_sem,r2,hnq1]
    have xf:∀o,(((w1.setCell ⟨W.heap.size,0,none⟩ (.int .i64 z0)).setCell ⟨W.heap.size,1,none⟩ (.int .i64 z1)).setCell ⟨W.heap.size,2,none⟩ (.int .i64 z2)).drew.frozen? ⟨w.heap.size+1,o,none⟩=false:=fun o=>by simp [go_sem,rf]
    obtain⟨o,hput,hst2⟩:=HPUT.out _ (M1.out.stl hS.out);have MV:MM m _ (((((w1.setCell ⟨W.heap.size,0,none⟩ (.int .i64 z0)).setCell ⟨W.heap.size,1,none⟩ (.int .i64 z1)).setCell ⟨W.heap.size,2,none⟩ (.int .i64 z2)).drew).putObj m o):=(MM.refl _).put hst2;have M2:=hHd (M1.out.trans MV);replace v0:=MV.keep' (by omega) v0;replace v1:=MV.keep' (by omega) v1;replace v2:=MV.keep' (by omega) v2;replace xf:=fun o=>(MV.kp.frozen (o:=o) (lt_of_cell x0) hnm).trans (xf o)
    replace x0:=MV.keep' (by omega) x0;replace x1:=MV.keep' (by omega) x1;replace x2:=MV.keep' (by omega) x2;clear hst2 MV;(go_wp2_with fail);go_region;clear hput hnm r0 r1 r2 u0 u1 u2 rf uf q0 q1 q2 q3 hpW;generalize ((((w1.setCell ⟨W.heap.size,0,none⟩ (.int .i64 z0)).setCell ⟨W.heap.size,1,none⟩ (.int .i64 z1)).setCell ⟨W.heap.size,2,none⟩ (.int .i64 z2)).drew).putObj m o=V9 at*;(go_wp2_with fail);refine bodyPost_ret (v:= .agg #[.int .i64 z0,.int .i64 z1,.int .i64 z2]) (by simp [results,Tryz.results75,go_sem,x0,x1,x2]) rfl ⟨rfl,?_⟩
    exact((M2.out.setCell (by omega) hS.out _).setCell (by omega) hS.out _).setCell (by omega) hS.out _
end Go.Proofs.YtegkdnfeceomdaaGreat
