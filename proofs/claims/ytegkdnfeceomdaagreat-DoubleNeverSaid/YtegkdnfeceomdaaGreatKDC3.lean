/- Bundled: what the texts HP HQ HG say one after another. -/
import Derived.Test.YtegkdnfeceomdaaGreatKDA24
import Derived.Test.YtegkdnfeceomdaaGreatKDA20
import Derived.Test.YtegkdnfeceomdaaGreatKDA22
import Derived.Test.YtegkdnfeceomdaaGreatKDA23
import Derived.Test.YtegkdnfeceomdaaGreatKDA2
import Derived.RegionTactic
import Derived.Test.YtegkdnfeceomdaaGreatKDA4
set_option maxRecDepth 100000
set_option maxHeartbeats 16000000
set_option linter.unusedSimpArgs false
set_option linter.unusedVariables false
namespace Go.Hs
open Go.RowKit
def entR (b:Bk):List (Int×Int):=b.ents.map (fun e=>(e.dlo,e.dhi))
def parR (b:Bk):List (Int×Int):=b.pars.map (fun p=>(p.slo,p.shi))
def covR (c:DCas):List (Int×Int):=c.covs.map (fun x=>(x.slo,x.shi))
theorem rngsB_eq (b:Bk):rngsB b=entR b++parR b:=rfl
def manyRef (b:Bk):Int:=manyTo 2000 (rngsB b) 1
def manyC (c:DCas):Int:=manyTo 3000 (covR c) (min 3000 (manyRef c.bk*(c.lhi - c.llo+1)))
theorem manyRef_eq {b:Bk} (h:bookE b=0):manyRef b=prodR (rngsB b)∧1≤prodR (rngsB b)∧prodR (rngsB b)≤1000∧∀r∈rngsB b,r.1≤r.2:=by
 have hb:=bks_of h
 have hr:∀r∈rngsB b,r.1≤r.2:=fun r hr=>by
  unfold rngsB at hr;rw [List.mem_append] at hr;rcases hr with hr|hr
  ·obtain⟨e,he,rfl⟩:=List.mem_map.1 hr;have:=hb.ent e he;simp only [entB,Bool.and_eq_true,daysB_iff] at this;exact this.1.2.2.1
  ·obtain⟨p,hp,rfl⟩:=List.mem_map.1 hr;have:=hb.par p hp;simp only [parB,Bool.and_eq_true,daysB_iff] at this;exact this.2.2.2.1
 have hp:=prodR_pos hr
 have hle:prodR (rngsB b)≤1000:=by
  unfold bookE at h;split at h
  ·cases h
  ·split at h
   ·split at h
    ·cases h
    ·rename_i h1
     rw [manyL_lt (by omega) hr] at h1;omega
   ·cases h
 refine⟨?_,hp,hle,hr⟩
 have:=manyTo_eq (top:=2000) (by omega) hr (n:=1) (by omega);rw [Int.min_eq_left (by omega),Int.one_mul,Int.min_eq_left (by omega)] at this;exact this
theorem caseD_many {c:DCas} (h:caseD c=0):(∀r∈rngsD c,r.1≤r.2)∧prodR (rngsD c)≤2000:=by
 have hS:=(caseD_zero h).2.1
 have hr:∀r∈rngsD c,r.1≤r.2:=fun r hr=>by
  have hb:=(manyRef_eq (caseD_zero h).1).2.2.2;unfold rngsD at hr;rw [←List.append_assoc,List.mem_append] at hr;rcases hr with hr|hr
  ·exact hb r hr
  ·rw [List.mem_append] at hr; rcases hr with hr | hr
   ·obtain⟨x,hx,rfl⟩:=List.mem_map.1 hr;have:=hS.cov x hx;simp only [covB,Bool.and_eq_true,ofR_iff] at this;exact this.2.2.2.2.2.2.1
   ·simp only [List.mem_cons,List.not_mem_nil,or_false] at hr;subst hr;exact hS.loss.2.1
 refine⟨hr,?_⟩
 unfold caseD at h;split at h
 ·rename_i h1;exact absurd h h1
 ·split at h
  ·cases h
  ·split at h
   ·split at h
    ·cases h
    ·rename_i h1
     rw [manyL_lt (by omega) hr] at h1;omega
   ·cases h
theorem prodR_rngsD (c:DCas):prodR (rngsD c)=prodR (rngsB c.bk)*(prodR (covR c)*(c.lhi - c.llo+1)):=by
 have e:rngsD c=rngsB c.bk++(covR c++ [(c.llo,c.lhi)]):=by unfold rngsD rngsB covR;rw [List.append_assoc]
 rw [e,prodR_append,prodR_append];congr 2
 rw [prodR_cons];simp [prodR]
theorem covR_le {c:DCas} (h:caseD c=0):(∀r∈covR c,r.1≤r.2)∧c.llo≤c.lhi:=by
 have hr:=(caseD_many h).1;constructor
 ·intro r hm
  refine hr r ?_
  unfold rngsD;rw [List.mem_append,List.mem_append,List.mem_append];exact .inr (.inr (.inl hm))
 ·exact(caseD_zero h).2.1.loss.2.1
def InL (rs:List (Int×Int)) (l:List Int):Prop:=l.length=rs.length∧∀i (h:i<rs.length),rs[i].1≤l.getD i 0∧l.getD i 0≤rs[i].2
theorem InL.app {a b:List (Int×Int)} {x y:List Int} (hl:x.length=a.length):InL (a++b) (x++y)↔InL a x∧InL b y:=by
 constructor
 ·rintro ⟨h1, h2⟩; simp only [List.length_append] at h1; refine ⟨⟨hl, fun i hi => ?_⟩, ⟨by omega, fun i hi => ?_⟩⟩
  ·have := h2 i (by rw [List.length_append]; omega); rw [List.getElem_append_left hi] at this; have e : (x ++ y).getD i 0 = x.getD i 0 := by simp [List.getD_eq_getElem?_getD, List.getElem?_append_left (show i < x.length by omega)]
   rw [e] at this;exact this
  ·have := h2 (a.length + i) (by rw [List.length_append]; omega); rw [List.getElem_append_right (by omega)] at this; simp only [Nat.add_sub_cancel_left] at this
   have e:(x++y).getD (a.length+i) 0=y.getD i 0:=by
    rw [List.getD_eq_getElem?_getD,List.getD_eq_getElem?_getD,List.getElem?_append_right (by omega),hl,Nat.add_sub_cancel_left]
   rw [e] at this;exact this
 ·rintro ⟨⟨h1, h2⟩, ⟨h3, h4⟩⟩; refine ⟨by simp only [List.length_append]; omega, fun i hi => ?_⟩
  by_cases h:i<a.length
  ·rw [List.getElem_append_left h]; have e : (x ++ y).getD i 0 = x.getD i 0 := by simp [List.getD_eq_getElem?_getD, List.getElem?_append_left (show i < x.length by omega)]
   rw [e];exact h2 i h
  ·have hi' : i - a.length < b.length := by rw [List.length_append] at hi; omega
   rw [List.getElem_append_right (by omega)]
   have e:(x++y).getD i 0=y.getD (i - a.length) 0:=by
    rw [List.getD_eq_getElem?_getD,List.getD_eq_getElem?_getD,List.getElem?_append_right (by omega),hl]
   rw [e];exact h4 _ hi'
theorem InL.one {r:Int×Int} {x:Int} :InL [r] [x]↔r.1≤x∧x≤r.2:=by
 constructor
 ·rintro ⟨-,h⟩;simpa using h 0 (by simp)
 ·intro h
  refine⟨rfl,fun i hi=> ?_⟩
  obtain rfl:i=0:=by simpa using hi
  simpa using h
theorem rngsD_eq (c:DCas):rngsD c=entR c.bk++(parR c.bk++(covR c++ [(c.llo,c.lhi)])):=rfl
theorem listedD_iff {c:DCas} {t:DTr} :listedD c t=true↔InL (entR c.bk) t.days∧InL (parR c.bk) t.sown∧InL (covR c) t.starts∧c.llo≤t.loss∧t.loss≤c.lhi:=by
 have key:∀l:List Int,((List.range (rngsD c).length).all (fun i=>inR (l.getD i 0) ((rngsD c).getD i default).1 ((rngsD c).getD i default).2)=true)↔∀i (h:i<(rngsD c).length),(rngsD c)[i].1≤l.getD i 0∧l.getD i 0≤(rngsD c)[i].2:=fun l=>by
  rw [List.all_eq_true];constructor
  ·intro h i hi
   have:=h i (List.mem_range.2 hi);rw [inR_iff] at this;simpa [hi] using this
  ·intro h i hi
   have hi:=List.mem_range.1 hi;rw [inR_iff];simpa [hi] using h i hi
 unfold listedD;rw [Bool.and_eq_true,Bool.and_eq_true,Bool.and_eq_true,key];simp only [decide_eq_true_eq];constructor
 ·rintro ⟨h1,h2,h3,h4⟩;have hl:InL (rngsD c) (t.days++(t.sown++(t.starts++ [t.loss]))):=⟨by rw [rngsD_eq];simp [entR,parR,covR,h1,h2,h3],h4⟩;rw [rngsD_eq,InL.app (by simp [entR,h1]),InL.app (by simp [parR,h2]),InL.app (by simp [covR,h3]),InL.one] at hl;exact hl
 ·rintro ⟨h1, h2, h3, h4⟩; have e1 : t.days.length = c.bk.ents.length := by simpa [entR] using h1.1
  have e2:t.sown.length=c.bk.pars.length:=by simpa [parR] using h2.1
  have e3:t.starts.length=c.covs.length:=by simpa [covR] using h3.1
  have hl:InL (rngsD c) (t.days++(t.sown++(t.starts++ [t.loss]))):=by
   rw [rngsD_eq,InL.app (by simp [entR,e1]),InL.app (by simp [parR,e2]),InL.app (by simp [covR,e3]),InL.one];exact⟨h1,h2,h3,h4⟩
  exact⟨e1,e2,e3,hl.2⟩
theorem allL_of:∀ {rs:List (Int×Int)} {l:List Int},InL rs l→l∈allL rs
  | [], l, h => by
    have:l= []:=List.eq_nil_of_length_eq_zero (by simpa using h.1);subst this;simp [allL]
  |r::t,[],h=>by have:=h.1;simp at this
  | r :: t, a :: l, h => by
    rw [allL_cons];have h0:=h.2 0 (by simp);simp only [List.getElem_cons_zero,List.getD_cons_zero] at h0;refine List.mem_flatMap.2 ⟨(a - r.1).toNat,List.mem_range.2 (by omega),List.mem_map.2 ⟨l,allL_of ⟨by have:=h.1;simpa using this,fun i hi=> ?_⟩,?_⟩⟩
    · have:=h.2 (i+1) (by simp;omega);simpa using this
    · congr 1
      omega
theorem truD_of {c:DCas} {t:DTr} (h:listedD c t=true):∃l∈allL (rngsD c),truD c l=t:=by
 obtain⟨h1,h2,h3,h4⟩:=listedD_iff.1 h;have e1:t.days.length=c.bk.ents.length:=by simpa [entR] using h1.1
 have e2:t.sown.length=c.bk.pars.length:=by simpa [parR] using h2.1
 have e3:t.starts.length=c.covs.length:=by simpa [covR] using h3.1
 refine⟨t.days++(t.sown++(t.starts++ [t.loss])),allL_of ?_,?_⟩
 ·rw [rngsD_eq,InL.app (by simp [entR,e1]),InL.app (by simp [parR,e2]),InL.app (by simp [covR,e3]),InL.one];exact⟨h1,h2,h3,h4⟩
 ·obtain ⟨da, sa, sta, lo⟩ := t; simp only at *; unfold truD; rw [← e1, ← e2, ← e3]; congr 1
  ·simp
  ·simp
  ·rw [←List.drop_drop];simp
  ·rw [List.getD_eq_getElem?_getD,List.getElem?_append_right (by omega),List.getElem?_append_right (by omega),List.getElem?_append_right (by omega)];simp [Nat.add_sub_cancel_left,show da.length+sa.length+sta.length - da.length - sa.length - sta.length=0 by omega]
theorem truD_listed {c:DCas} {l:List Int} (h:l∈allL (rngsD c)):listedD c (truD c l)=true:=by
 obtain⟨hl,hr⟩:=mem_allL h;have hk:=truD_ok h;have e1:=hk.l1;have e2:=hk.l2;have e3:=hk.l3;have hl':l.length=c.bk.ents.length+c.bk.pars.length+c.covs.length+1:=by rw [hl,rngsD_len]
 have e:(truD c l).days++((truD c l).sown++((truD c l).starts++ [(truD c l).loss]))=l:=by
  have g4: [(truD c l).loss]=l.drop (c.bk.ents.length+c.bk.pars.length+c.covs.length):=by
   simp only [truD];rw [List.drop_eq_getElem_cons (by omega),List.drop_of_length_le (by omega)];congr 1
   rw [List.getD_eq_getElem?_getD,List.getElem?_eq_getElem (by omega)];rfl
  rw [g4];simp only [truD];rw [←List.drop_drop (l:=l) (i:=c.covs.length) (j:=c.bk.ents.length+c.bk.pars.length),List.take_append_drop,←List.drop_drop (l:=l) (i:=c.bk.pars.length) (j:=c.bk.ents.length),List.take_append_drop,List.take_append_drop]
 have hI:InL (rngsD c) ((truD c l).days++((truD c l).sown++((truD c l).starts++ [(truD c l).loss]))):=by rw [e];exact⟨hl,hr⟩
 rw [rngsD_eq,InL.app (by simp [entR,e1]),InL.app (by simp [parR,e2]),InL.app (by simp [covR,e3]),InL.one] at hI;rw [listedD_iff];exact hI
theorem mem_truthsD {c:DCas} {out:List Int} {x:DTr×Dmg} :x∈truthsD c out↔listedD c x.1=true∧damD c x.1=some x.2∧goodD c out x.2=true:=by
 unfold truthsD;rw [List.mem_filterMap];constructor
 ·rintro ⟨l, hl, he⟩; unfold tryD at he; obtain ⟨d, hd, he⟩ := Option.bind_eq_some_iff.1 he; split at he
  ·rename_i hg
   cases he
   exact⟨truD_listed hl,hd,hg⟩
  ·cases he
 ·rintro ⟨h1, h2, h3⟩; obtain ⟨l, hl, he⟩ := truD_of h1; refine ⟨l, hl, ?_⟩
  unfold tryD;rw [he,h2];simp only [Option.bind_some];rw [if_pos h3]
end Go.Hs
namespace Go.Hs
open Go.RowKit Go.Proofs.YtegkdnfeceomdaaGreat
def FdsZ (f:Fds):Prop:=∀i,(f i).there=false→(f i).value=0
theorem FdsZ.upd {f:Fds} (h:FdsZ f) {i:Nat} {x:Fd} (hx:x.there=true):FdsZ (upd f i x):=fun j hj=>by
 unfold Hs.upd at*;by_cases e:j=i
 ·rw [if_pos e] at hj;rw [hx] at hj;cases hj
 ·rw [if_neg e] at hj⊢;exact h j hj
end Go.Hs
namespace Go.Hs
open Go.RowKit
theorem manyTo_snoc (top:Int) (l:List (Int×Int)) (r:Int×Int) (n:Int):manyTo top (l++ [r]) n=min top (manyTo top l n*(r.2 - r.1+1)):=by
 unfold manyTo;rw [List.foldl_append];rfl
theorem manyTo_app (top:Int) (a b:List (Int×Int)) (n:Int):manyTo top (a++b) n=manyTo top b (manyTo top a n):=by
 unfold manyTo;rw [List.foldl_append]
theorem manyTo_bd {top:Int} (ht:1≤top):∀ {l:List (Int×Int)} {n:Int},(∀r∈l,r.1≤r.2)→1≤n→n≤top→1≤manyTo top l n∧manyTo top l n≤top
  | [],n,_,h1,h2=>⟨h1,h2⟩
  | r :: t, n, hr, h1, h2 => by
    have h:=hr r (by simp);have e:manyTo top (r::t) n=manyTo top t (min top (n*(r.2 - r.1+1))):=rfl;rw [e]
    have h3:1≤n*(r.2 - r.1+1):=by
      have:=Int.mul_le_mul h1 (show 1≤r.2 - r.1+1 by omega) (by omega) (by omega);omega
    exact manyTo_bd ht (fun x hx=>hr x (by simp [hx])) (by omega) (by omega)
theorem manyTo_next {top:Int} {l:List (Int×Int)} {k:Nat} (h:k<l.length) (n:Int):manyTo top (l.take (k+1)) n=min top (manyTo top (l.take k) n*((l[k]).2 - (l[k]).1+1)):=by
 rw [List.take_succ_eq_append_getElem h,manyTo_snoc]
end Go.Hs
namespace Go.Proofs.YtegkdnfeceomdaaGreat
open Go.RowKit Go.Hs
attribute [local irreducible] World.setCell World.alloc
theorem run_min_h (a b c:Int) (h:min a b=c):∀w,(Builtin.min_ #[3,3] 3 #[.int .i64 a,.int .i64 b]).run Tryz.prog w= .ok (.int .i64 c) w:=fun w=>by
 have e:(if b<a then b else a)=c:=by rw [←h];split<;>omega
 rw [←e];simp [go_sem]
theorem Many_h (b:Bk) (v:Value) (w:World) (hv:BkV w v b) (hE:∀e∈b.ents,0≤e.dlo∧e.dlo≤e.dhi∧e.dhi≤900) (hP:∀p∈b.pars,0≤p.slo∧p.slo≤p.shi∧p.shi≤900):
  Calls Tryz.prog 109 #[v] w fun e w'=>e= .returned (.int .i64 (manyRef b))∧Ext w w':=by
 obtain⟨a1,c1,a2,c2,rfl,hp,he,hp1,he1,hp2,he2⟩:=hv.open;have HE:Hid (∀W,Ext w W→Cells8 W a2 (b.ents.map Ent.c)):=hHd (fun W hx=>he.ext hx);have HP:Hid (∀W,Ext w W→Cells4 W a1 (b.pars.map Par.c)):=hHd (fun W hx=>hp.ext hx);have HDE:Hid (∀k (h:k<b.ents.length),0≤b.ents[k].dlo∧b.ents[k].dlo≤b.ents[k].dhi∧b.ents[k].dhi≤900):=hHd (fun k h=>hE _ (List.getElem_mem h));have HDP:Hid (∀k (h:k<b.pars.length),0≤b.pars[k].slo∧b.pars[k].slo≤b.pars[k].shi∧b.pars[k].shi≤900):=hHd (fun k h=>hP _ (List.getElem_mem h))
 have hre:∀r∈entR b,r.1≤r.2:=fun r hr=>by
  obtain⟨e,he,rfl⟩:=List.mem_map.1 hr;exact(hE e he).2.1
 have hrp:∀r∈parR b,r.1≤r.2:=fun r hr=>by
  obtain⟨e,he,rfl⟩:=List.mem_map.1 hr;exact(hP e he).2.1
 have hm0:=manyTo_bd (top:=2000) (by omega) hre (n:=1) (by omega) (by omega);have HBE:Hid (∀k,1≤manyTo 2000 ((entR b).take k) 1∧manyTo 2000 ((entR b).take k) 1≤2000):=hHd (fun k=>manyTo_bd (by omega) (fun r hr=>hre r (List.mem_of_mem_take hr)) (by omega) (by omega));have HBP:Hid (∀k,1≤manyTo 2000 ((parR b).take k) (manyTo 2000 (entR b) 1)∧manyTo 2000 ((parR b).take k) (manyTo 2000 (entR b) 1)≤2000):=hHd (fun k=>manyTo_bd (by omega) (fun r hr=>hrp r (List.mem_of_mem_take hr)) hm0.1 hm0.2);have HR:Hid (manyRef b=manyTo 2000 (parR b) (manyTo 2000 (entR b) 1)):=hHd (by unfold manyRef;rw [rngsB_eq,manyTo_app]);clear hv hp he hre hrp hm0 hE hP;generalize manyRef b=res at*;unfold bkV;generalize b.last=last at*;generalize b.owners=owners at*;go_enter Tryz.func109,Tryz.ntmps109
 (go_wp2_with fail);obtain⟨W,hW,X,HS,HSf,HSz⟩:=bx4 w 35 (.int .i64 last) (.int .i64 owners) (.slice a1 b.pars.length c1) (.slice a2 b.ents.length c2);rw [hW];clear hW;go_loopw [3,4] (fun s3 s4 wr=>∃k:Nat,k≤b.ents.length∧s4= .int .i64 k∧s3= .int .i64 (manyTo 2000 ((entR b).take k) 1)∧Ext W wr) (fun _ s _=>b.ents.length - (intOf s).toNat)
 case atStart=>exact⟨0,Nat.zero_le _,rfl,by simp [manyTo],Ext.refl _⟩
 case round=>
  obtain⟨k,hk,rfl,rfl,hx⟩:=hrel;obtain⟨wo,rfl⟩:∃x,x=wr:=⟨_,rfl⟩;obtain⟨⟨-,-,q2,q3⟩,-⟩:=HS.out wo hx;by_cases hlt:k<b.ents.length
  ·obtain ⟨b', off, rfl, hce⟩ := HE.out wo (X.trans hx) k (by simpa using hlt); have e1 : (b.ents.map Ent.c)[k]'(by simpa using hlt) = (b.ents[k]).c := by simp
   rw [e1] at hce;have m0:=hce.2.2.2.2.2.2.1;have m1:=hce.2.2.2.2.2.2.2;simp only [Ent.c] at m0 m1;have HV:=hHd (HDE.out k hlt);have HN:Hid (manyTo 2000 ((entR b).take (k+1)) 1=min 2000 (manyTo 2000 ((entR b).take k) 1*(b.ents[k].dhi - b.ents[k].dlo+1))):=hHd (by rw [manyTo_next (by simpa [entR] using hlt)];simp [entR]);have HB:=hHd (HBE.out k);clear hce e1;have hk0:(0:Int)≤(k:Int):=by omega
   have hk1:(k:Int)<(b.ents.length:Int):=by omega
   generalize b.ents[k].dlo=lo at*;generalize b.ents[k].dhi=hi at*;generalize manyTo 2000 ((entR b).take k) 1=mn at*;have hv:=HV.out;have hb:=HB.out;have w1:IntKind.i64.wrap (hi - lo)=hi - lo:=IntWalk.i64_in _ (by omega);have w2:IntKind.i64.wrap (hi - lo+1)=hi - lo+1:=IntWalk.i64_in _ (by omega);have hp0:0≤mn*(hi - lo+1):=Int.mul_nonneg (by omega) (by omega);have hp1:mn*(hi - lo+1)≤2000*1000:=Int.mul_le_mul (by omega) (by omega) (by omega) (by omega);have w3:IntKind.i64.wrap (mn*(hi - lo+1))=mn*(hi - lo+1):=IntWalk.i64_in _ (by omega);have hmin:=run_min_h 2000 (mn*(hi - lo+1)) _ rfl;clear hp0 hp1 hv hb;(go_wp2_with fail);go_region;(go_wp2_with fail);go_roundw
   case rel=>exact⟨k+1,by omega,by go_num,by rw [HN.out],hx.drew⟩
   case measure=>simp [intOf];omega
  ·obtain rfl : k = b.ents.length := by omega
   rw [show (entR b).take b.ents.length=entR b from List.take_of_length_le (by simp [entR])];clear hlt;(go_wp2_with fail);go_loopw [3,5] (fun s3 s4 wr=>∃k:Nat,k≤b.pars.length∧s4= .int .i64 k∧s3= .int .i64 (manyTo 2000 ((parR b).take k) (manyTo 2000 (entR b) 1))∧Ext W wr) (fun _ s _=>b.pars.length - (intOf s).toNat)
   case atStart=>exact⟨0,Nat.zero_le _,rfl,by simp [manyTo],hx⟩
   case round=>
    obtain⟨k,hk,rfl,rfl,hx⟩:=hrel;obtain⟨wo,rfl⟩:∃x,x=wr:=⟨_,rfl⟩;obtain⟨⟨-,-,q2,q3⟩,-⟩:=HS.out wo hx;by_cases hlt:k<b.pars.length
    ·obtain ⟨b', off, rfl, hce⟩ := HP.out wo (X.trans hx) k (by simpa using hlt); have e1 : (b.pars.map Par.c)[k]'(by simpa using hlt) = (b.pars[k]).c := by simp
     rw [e1] at hce;have m0:=hce.2.2.1;have m1:=hce.2.2.2;simp only [Par.c] at m0 m1;have HV:=hHd (HDP.out k hlt);have HN:Hid (manyTo 2000 ((parR b).take (k+1)) (manyTo 2000 (entR b) 1)=min 2000 (manyTo 2000 ((parR b).take k) (manyTo 2000 (entR b) 1)*(b.pars[k].shi - b.pars[k].slo+1))):=hHd (by rw [manyTo_next (by simpa [parR] using hlt)];simp [parR]);have HB:=hHd (HBP.out k);clear hce e1;have hk0:(0:Int)≤(k:Int):=by omega
     have hk1:(k:Int)<(b.pars.length:Int):=by omega
     generalize b.pars[k].slo=lo at*;generalize b.pars[k].shi=hi at*;generalize manyTo 2000 ((parR b).take k) (manyTo 2000 (entR b) 1)=mn at*;have hv:=HV.out;have hb:=HB.out;have w1:IntKind.i64.wrap (hi - lo)=hi - lo:=IntWalk.i64_in _ (by omega);have w2:IntKind.i64.wrap (hi - lo+1)=hi - lo+1:=IntWalk.i64_in _ (by omega);have hp0:0≤mn*(hi - lo+1):=Int.mul_nonneg (by omega) (by omega);have hp1:mn*(hi - lo+1)≤2000*1000:=Int.mul_le_mul (by omega) (by omega) (by omega) (by omega);have w3:IntKind.i64.wrap (mn*(hi - lo+1))=mn*(hi - lo+1):=IntWalk.i64_in _ (by omega);have hmin:=run_min_h 2000 (mn*(hi - lo+1)) _ rfl;clear hp0 hp1 hv hb;(go_wp2_with fail);go_region;(go_wp2_with fail);go_roundw
     case rel=>exact⟨k+1,by omega,by go_num,by rw [HN.out],hx.drew⟩
     case measure=>simp [intOf];omega
    ·obtain rfl : k = b.pars.length := by omega
     rw [show (parR b).take b.pars.length=parR b from List.take_of_length_le (by simp [parR])];clear hlt;(go_wp2_with fail);go_ret;exact⟨by rw [HR.out];rfl,X.trans hx⟩
end Go.Proofs.YtegkdnfeceomdaaGreat
