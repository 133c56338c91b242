/- Bundled: what the texts HP HQ HG say one after another. -/
import Derived.Test.YtegkdnfeceomdaaGreatKDA24
import Derived.Test.YtegkdnfeceomdaaGreatKDA20
import Derived.Test.YtegkdnfeceomdaaGreatKDA22
import Derived.Test.YtegkdnfeceomdaaGreatKDA23
import Derived.Test.YtegkdnfeceomdaaGreatKDA2
import Derived.RegionTactic
import Derived.Test.YtegkdnfeceomdaaGreatKDA4
set_option maxRecDepth 100000
set_option maxHeartbeats 16000000
set_option linter.unusedSimpArgs false
set_option linter.unusedVariables false
namespace Go.Hs
open Go.RowKit
def digs:List (Int×Int)→Int→List Int
 | [],_=> []
 |r::t,n=>(r.1+n % (r.2 - r.1+1))::digs t (n / (r.2 - r.1+1))
def digR:List (Int×Int)→Int→Int
 | [],n=>n
 |r::t,n=>digR t (n / (r.2 - r.1+1))
theorem digs_append:∀(a b:List (Int×Int)) (n:Int),digs (a++b) n=digs a n++digs b (digR a n)
 | [],_,_=>rfl
 |r::a,b,n=>by rw [List.cons_append,digs,digs_append a b,digs,digR,List.cons_append]
theorem digR_append:∀(a b:List (Int×Int)) (n:Int),digR (a++b) n=digR b (digR a n)
 | [],_,_=>rfl
 |r::a,b,n=>by rw [List.cons_append,digR,digR_append a b,digR]
theorem digs_len:∀(rs:List (Int×Int)) (n:Int),(digs rs n).length=rs.length
 | [],_=>rfl
 |r::t,n=>by rw [digs,List.length_cons,List.length_cons,digs_len t]
theorem digR_nonneg:∀ {rs:List (Int×Int)} {n:Int},(∀r∈rs,r.1≤r.2)→0≤n→0≤digR rs n
  | [],_,_,h=>h
  | r :: t, n, hr, h => by
    rw [digR];have:=hr r (by simp);exact digR_nonneg (fun x hx=>hr x (by simp [hx])) (Int.ediv_nonneg h (by omega))
theorem digR_le:∀ {rs:List (Int×Int)} {n:Int},(∀r∈rs,r.1≤r.2)→0≤n→digR rs n≤n
  | [],_,_,_=>Int.le_refl _
  | r :: t, n, hr, h => by
    rw [digR];have h1:=hr r (by simp);have h2:=Int.ediv_le_self (r.2 - r.1+1) h;have h3:=digR_le (rs:=t) (n:=n / (r.2 - r.1+1)) (fun x hx=>hr x (by simp [hx])) (Int.ediv_nonneg h (by omega));omega
theorem digs_in:∀ {rs:List (Int×Int)} (n:Int),(∀r∈rs,r.1≤r.2)→∀i (h:i<rs.length),rs[i].1≤(digs rs n).getD i 0∧(digs rs n).getD i 0≤rs[i].2
  | [],_,_,i,h=>absurd h (Nat.not_lt_zero _)
  | r :: t, n, hr, i, h => by
    have h1:=hr r (by simp);cases i with
    | zero =>
      rw [digs,List.getD_cons_zero,List.getElem_cons_zero];have a1:=Int.emod_nonneg n (show r.2 - r.1+1≠0 by omega);have a2:=Int.emod_lt_of_pos n (show 0<r.2 - r.1+1 by omega);omega
    | succ i =>
      rw [digs,List.getD_cons_succ];simp only [List.getElem_cons_succ];exact digs_in _ (fun x hx=>hr x (by simp [hx])) i (by simpa using h)
theorem digs_of : ∀ {rs : List (Int × Int)} {l : List Int}, l.length = rs.length → (∀ i (h : i < rs.length), rs[i].1 ≤ l.getD i 0 ∧ l.getD i 0 ≤ rs[i].2) → (∀ r ∈ rs, r.1 ≤ r.2) →
    ∃n,0≤n∧n<prodR rs∧∀k,0≤k→digs rs (n+prodR rs*k)=l∧digR rs (n+prodR rs*k)=k
  | [], l, hl, _, _ => by
    have:l= []:=List.eq_nil_of_length_eq_zero (by simpa using hl);subst this;exact⟨0,Int.le_refl _,by simp [prodR],fun k _=>⟨rfl,by simp [digR,prodR]⟩⟩
  |r::t,[],hl,_,_=>by simp at hl
  | r :: t, a :: l, hl, hr, hv => by
    obtain⟨n,h0,h1,h2⟩:=digs_of (rs:=t) (l:=l) (by simpa using hl) (fun i hi=>by
      have:=hr (i+1) (by simp;omega);simpa using this) (fun x hx=>hv x (by simp [hx]))
    have ha:=hr 0 (by simp);simp only [List.getElem_cons_zero,List.getD_cons_zero] at ha;have hs:0<r.2 - r.1+1:=by omega
    have hlt:a - r.1<r.2 - r.1+1:=by omega
    have hge:0≤a - r.1:=by omega
    rw [prodR_cons];simp only [digs,digR];generalize r.2 - r.1+1=s at*;generalize hx:a - r.1=x at*;have hsn:0≤s*n:=Int.mul_nonneg (by omega) h0;refine⟨x+s*n,by omega,?_,fun k hk=> ?_⟩
    · have:s*(n+1)≤s*prodR t:=Int.mul_le_mul_of_nonneg_left (by omega) (by omega);rw [Int.mul_add,Int.mul_one] at this;omega
    · have e : x + s * n + s * prodR t * k = x + s * (n + prodR t * k) := by rw [Int.mul_add, Int.mul_assoc, Int.add_assoc]
      have e1:(x+s*(n+prodR t*k)) % s=x:=by rw [Int.add_mul_emod_self_left,Int.emod_eq_of_lt hge hlt]
      have e2:(x+s*(n+prodR t*k)) / s=n+prodR t*k:=by
        rw [Int.add_mul_ediv_left _ _ (by omega),Int.ediv_eq_zero_of_lt hge hlt,Int.zero_add]
      rw [e,e1,e2];obtain⟨g1,g2⟩:=h2 k hk;rw [g1,g2];exact⟨by rw [show r.1+x=a by omega],rfl⟩
def entR (b:Bk):List (Int×Int):=b.ents.map (fun e=>(e.dlo,e.dhi))
def parR (b:Bk):List (Int×Int):=b.pars.map (fun p=>(p.slo,p.shi))
def covR (c:DCas):List (Int×Int):=c.covs.map (fun x=>(x.slo,x.shi))
theorem rngsB_eq (b:Bk):rngsB b=entR b++parR b:=rfl
def manyRef (b:Bk):Int:=manyTo 2000 (rngsB b) 1
def manyC (c:DCas):Int:=manyTo 3000 (covR c) (min 3000 (manyRef c.bk*(c.lhi - c.llo+1)))
def nthT (c:DCas) (n:Int):DTr:=
 ⟨digs (entR c.bk) (n % manyRef c.bk),digs (parR c.bk) (digR (entR c.bk) (n % manyRef c.bk)),digs (covR c) (n / manyRef c.bk / (c.lhi - c.llo+1)),c.llo+n / manyRef c.bk % (c.lhi - c.llo+1)⟩
theorem manyRef_eq {b:Bk} (h:bookE b=0):manyRef b=prodR (rngsB b)∧1≤prodR (rngsB b)∧prodR (rngsB b)≤1000∧∀r∈rngsB b,r.1≤r.2:=by
 have hb:=bks_of h
 have hr:∀r∈rngsB b,r.1≤r.2:=fun r hr=>by
  unfold rngsB at hr;rw [List.mem_append] at hr;rcases hr with hr|hr
  ·obtain⟨e,he,rfl⟩:=List.mem_map.1 hr;have:=hb.ent e he;simp only [entB,Bool.and_eq_true,daysB_iff] at this;exact this.1.2.2.1
  ·obtain⟨p,hp,rfl⟩:=List.mem_map.1 hr;have:=hb.par p hp;simp only [parB,Bool.and_eq_true,daysB_iff] at this;exact this.2.2.2.1
 have hp:=prodR_pos hr
 have hle:prodR (rngsB b)≤1000:=by
  unfold bookE at h;split at h
  ·cases h
  ·split at h
   ·split at h
    ·cases h
    ·rename_i h1
     rw [manyL_lt (by omega) hr] at h1;omega
   ·cases h
 refine⟨?_,hp,hle,hr⟩
 have:=manyTo_eq (top:=2000) (by omega) hr (n:=1) (by omega);rw [Int.min_eq_left (by omega),Int.one_mul,Int.min_eq_left (by omega)] at this;exact this
theorem caseD_many {c:DCas} (h:caseD c=0):(∀r∈rngsD c,r.1≤r.2)∧prodR (rngsD c)≤2000:=by
 have hS:=(caseD_zero h).2.1
 have hr:∀r∈rngsD c,r.1≤r.2:=fun r hr=>by
  have hb:=(manyRef_eq (caseD_zero h).1).2.2.2;unfold rngsD at hr;rw [←List.append_assoc,List.mem_append] at hr;rcases hr with hr|hr
  ·exact hb r hr
  ·rw [List.mem_append] at hr; rcases hr with hr | hr
   ·obtain⟨x,hx,rfl⟩:=List.mem_map.1 hr;have:=hS.cov x hx;simp only [covB,Bool.and_eq_true,ofR_iff] at this;exact this.2.2.2.2.2.2.1
   ·simp only [List.mem_cons,List.not_mem_nil,or_false] at hr;subst hr;exact hS.loss.2.1
 refine⟨hr,?_⟩
 unfold caseD at h;split at h
 ·rename_i h1;exact absurd h h1
 ·split at h
  ·cases h
  ·split at h
   ·split at h
    ·cases h
    ·rename_i h1
     rw [manyL_lt (by omega) hr] at h1;omega
   ·cases h
theorem prodR_rngsD (c:DCas):prodR (rngsD c)=prodR (rngsB c.bk)*(prodR (covR c)*(c.lhi - c.llo+1)):=by
 have e:rngsD c=rngsB c.bk++(covR c++ [(c.llo,c.lhi)]):=by unfold rngsD rngsB covR;rw [List.append_assoc]
 rw [e,prodR_append,prodR_append];congr 2
 rw [prodR_cons];simp [prodR]
theorem covR_le {c:DCas} (h:caseD c=0):(∀r∈covR c,r.1≤r.2)∧c.llo≤c.lhi:=by
 have hr:=(caseD_many h).1;constructor
 ·intro r hm
  refine hr r ?_
  unfold rngsD;rw [List.mem_append,List.mem_append,List.mem_append];exact .inr (.inr (.inl hm))
 ·exact(caseD_zero h).2.1.loss.2.1
theorem manyC_eq {c:DCas} (h:caseD c=0):manyC c=prodR (rngsB c.bk)*((c.lhi - c.llo+1)*prodR (covR c))∧1≤manyC c∧manyC c≤2000:=by
 obtain⟨h1,h2,h3,-⟩:=manyRef_eq (caseD_zero h).1;obtain⟨h4,h5⟩:=covR_le h;have h6:=(caseD_many h).2;rw [prodR_rngsD] at h6;have h7:=prodR_pos h4;have hL:1≤c.lhi - c.llo+1:=by omega
 unfold manyC;rw [h1]
 have hn:1≤prodR (rngsB c.bk)*(c.lhi - c.llo+1):=by
  have:=Int.mul_le_mul h2 hL (by omega) (by omega);omega
 rw [Int.min_comm,manyTo_eq (by omega) h4 hn];have e:prodR (rngsB c.bk)*(c.lhi - c.llo+1)*prodR (covR c)=prodR (rngsB c.bk)*(prodR (covR c)*(c.lhi - c.llo+1)):=by rw [Int.mul_assoc,Int.mul_comm (c.lhi - c.llo+1)]
 have e2:1≤prodR (rngsB c.bk)*(c.lhi - c.llo+1)*prodR (covR c):=by
  have:=Int.mul_le_mul hn h7 (by omega) (by omega);omega
 rw [Int.min_eq_left (by omega),Int.mul_assoc];refine⟨rfl,?_,?_⟩
 ·rw [←Int.mul_assoc];exact e2
 ·rw [←Int.mul_assoc,e];exact h6
theorem nthT_ok {c:DCas} (h:caseD c=0) {n:Int} (h0:0≤n):TruOK c (nthT c n):=by
 obtain⟨h1,h2,h3,hr⟩:=manyRef_eq (caseD_zero h).1;obtain⟨h4,h5⟩:=covR_le h;have hE:∀r∈entR c.bk,r.1≤r.2:=fun r hm=>hr r (by rw [rngsB_eq];exact List.mem_append_left _ hm)
 have hP:∀r∈parR c.bk,r.1≤r.2:=fun r hm=>hr r (by rw [rngsB_eq];exact List.mem_append_right _ hm)
 refine⟨by simp [nthT,digs_len,entR],by simp [nthT,digs_len,parR],by simp [nthT,digs_len,covR],?_,?_⟩
 ·unfold listedK; rw [decide_eq_true (by simp [nthT, digs_len, entR]), decide_eq_true (by simp [nthT, digs_len, parR]), Bool.true_and, Bool.true_and, Bool.and_eq_true]; refine ⟨List.all_eq_true.2 (fun i hi => ?_), List.all_eq_true.2 (fun i hi => ?_)⟩
  ·have hi := List.mem_range.1 hi; have := digs_in (rs := entR c.bk) (n % manyRef c.bk) hE i (by simpa [entR] using hi); have e : c.bk.ents.getD i default = c.bk.ents[i] := by simp [hi]
   rw [inR_iff,e];simpa [entR,nthT] using this
  ·have hi := List.mem_range.1 hi; have := digs_in (rs := parR c.bk) (digR (entR c.bk) (n % manyRef c.bk)) hP i (by simpa [parR] using hi); have e : c.bk.pars.getD i default = c.bk.pars[i] := by simp [hi]
   rw [inR_iff,e];simpa [parR,nthT] using this
 ·have hL : 0 < c.lhi - c.llo + 1 := by omega
  have a1:=Int.emod_nonneg (n / manyRef c.bk) (show c.lhi - c.llo+1≠0 by omega);have a2:=Int.emod_lt_of_pos (n / manyRef c.bk) hL;simp only [nthT];omega
def InL (rs:List (Int×Int)) (l:List Int):Prop:=l.length=rs.length∧∀i (h:i<rs.length),rs[i].1≤l.getD i 0∧l.getD i 0≤rs[i].2
theorem InL.app {a b:List (Int×Int)} {x y:List Int} (hl:x.length=a.length):InL (a++b) (x++y)↔InL a x∧InL b y:=by
 constructor
 ·rintro ⟨h1, h2⟩; simp only [List.length_append] at h1; refine ⟨⟨hl, fun i hi => ?_⟩, ⟨by omega, fun i hi => ?_⟩⟩
  ·have := h2 i (by rw [List.length_append]; omega); rw [List.getElem_append_left hi] at this; have e : (x ++ y).getD i 0 = x.getD i 0 := by simp [List.getD_eq_getElem?_getD, List.getElem?_append_left (show i < x.length by omega)]
   rw [e] at this;exact this
  ·have := h2 (a.length + i) (by rw [List.length_append]; omega); rw [List.getElem_append_right (by omega)] at this; simp only [Nat.add_sub_cancel_left] at this
   have e:(x++y).getD (a.length+i) 0=y.getD i 0:=by
    rw [List.getD_eq_getElem?_getD,List.getD_eq_getElem?_getD,List.getElem?_append_right (by omega),hl,Nat.add_sub_cancel_left]
   rw [e] at this;exact this
 ·rintro ⟨⟨h1, h2⟩, ⟨h3, h4⟩⟩; refine ⟨by simp only [List.length_append]; omega, fun i hi => ?_⟩
  by_cases h:i<a.length
  ·rw [List.getElem_append_left h]; have e : (x ++ y).getD i 0 = x.getD i 0 := by simp [List.getD_eq_getElem?_getD, List.getElem?_append_left (show i < x.length by omega)]
   rw [e];exact h2 i h
  ·have hi' : i - a.length < b.length := by rw [List.length_append] at hi; omega
   rw [List.getElem_append_right (by omega)]
   have e:(x++y).getD i 0=y.getD (i - a.length) 0:=by
    rw [List.getD_eq_getElem?_getD,List.getD_eq_getElem?_getD,List.getElem?_append_right (by omega),hl]
   rw [e];exact h4 _ hi'
theorem InL.one {r:Int×Int} {x:Int} :InL [r] [x]↔r.1≤x∧x≤r.2:=by
 constructor
 ·rintro ⟨-,h⟩;simpa using h 0 (by simp)
 ·intro h
  refine⟨rfl,fun i hi=> ?_⟩
  obtain rfl:i=0:=by simpa using hi
  simpa using h
theorem rngsD_eq (c:DCas):rngsD c=entR c.bk++(parR c.bk++(covR c++ [(c.llo,c.lhi)])):=rfl
theorem listedD_iff {c:DCas} {t:DTr} :listedD c t=true↔InL (entR c.bk) t.days∧InL (parR c.bk) t.sown∧InL (covR c) t.starts∧c.llo≤t.loss∧t.loss≤c.lhi:=by
 have key:∀l:List Int,((List.range (rngsD c).length).all (fun i=>inR (l.getD i 0) ((rngsD c).getD i default).1 ((rngsD c).getD i default).2)=true)↔∀i (h:i<(rngsD c).length),(rngsD c)[i].1≤l.getD i 0∧l.getD i 0≤(rngsD c)[i].2:=fun l=>by
  rw [List.all_eq_true];constructor
  ·intro h i hi
   have:=h i (List.mem_range.2 hi);rw [inR_iff] at this;simpa [hi] using this
  ·intro h i hi
   have hi:=List.mem_range.1 hi;rw [inR_iff];simpa [hi] using h i hi
 unfold listedD;rw [Bool.and_eq_true,Bool.and_eq_true,Bool.and_eq_true,key];simp only [decide_eq_true_eq];constructor
 ·rintro ⟨h1,h2,h3,h4⟩;have hl:InL (rngsD c) (t.days++(t.sown++(t.starts++ [t.loss]))):=⟨by rw [rngsD_eq];simp [entR,parR,covR,h1,h2,h3],h4⟩;rw [rngsD_eq,InL.app (by simp [entR,h1]),InL.app (by simp [parR,h2]),InL.app (by simp [covR,h3]),InL.one] at hl;exact hl
 ·rintro ⟨h1, h2, h3, h4⟩; have e1 : t.days.length = c.bk.ents.length := by simpa [entR] using h1.1
  have e2:t.sown.length=c.bk.pars.length:=by simpa [parR] using h2.1
  have e3:t.starts.length=c.covs.length:=by simpa [covR] using h3.1
  have hl:InL (rngsD c) (t.days++(t.sown++(t.starts++ [t.loss]))):=by
   rw [rngsD_eq,InL.app (by simp [entR,e1]),InL.app (by simp [parR,e2]),InL.app (by simp [covR,e3]),InL.one];exact⟨h1,h2,h3,h4⟩
  exact⟨e1,e2,e3,hl.2⟩
theorem nthT_listed {c:DCas} (h:caseD c=0) {n:Int} :listedD c (nthT c n)=true:=by
 obtain⟨h1,h2,h3,hr⟩:=manyRef_eq (caseD_zero h).1;obtain⟨h4,h5⟩:=covR_le h;have hE:∀r∈entR c.bk,r.1≤r.2:=fun r hm=>hr r (by rw [rngsB_eq];exact List.mem_append_left _ hm)
 have hP:∀r∈parR c.bk,r.1≤r.2:=fun r hm=>hr r (by rw [rngsB_eq];exact List.mem_append_right _ hm)
 rw [listedD_iff];refine⟨⟨digs_len _ _,digs_in _ hE⟩,⟨digs_len _ _,digs_in _ hP⟩,⟨digs_len _ _,digs_in _ h4⟩,?_⟩
 have hL:0<c.lhi - c.llo+1:=by omega
 have a1:=Int.emod_nonneg (n / manyRef c.bk) (show c.lhi - c.llo+1≠0 by omega);have a2:=Int.emod_lt_of_pos (n / manyRef c.bk) hL;simp only [nthT];omega
theorem nthT_of {c:DCas} (h:caseD c=0) {t:DTr} (ht:listedD c t=true):∃n:Nat,(n:Int)<manyC c∧nthT c n=t:=by
 obtain⟨h1,h2,h3,hr⟩:=manyRef_eq (caseD_zero h).1;obtain⟨h4,h5⟩:=covR_le h;obtain⟨hm,-,-⟩:=manyC_eq h;obtain⟨t1,t2,t3,t4⟩:=listedD_iff.1 ht;have tb:InL (rngsB c.bk) (t.days++t.sown):=by rw [rngsB_eq,InL.app t1.1];exact⟨t1,t2⟩
 obtain⟨m,m0,m1,m2⟩:=digs_of tb.1 tb.2 hr;obtain⟨y,y0,y1,y2⟩:=digs_of t3.1 t3.2 h4;have hL:0<c.lhi - c.llo+1:=by omega
 rw [hm];obtain⟨e1,e2⟩:=m2 0 (Int.le_refl _);rw [Int.mul_zero,Int.add_zero] at e1;rw [rngsB_eq,digs_append] at e1;have ed:digs (entR c.bk) m=t.days∧digs (parR c.bk) (digR (entR c.bk) m)=t.sown:=List.append_inj e1 (by rw [digs_len,t1.1]);obtain⟨e3,-⟩:=y2 0 (Int.le_refl _);rw [Int.mul_zero,Int.add_zero] at e3;have hx0:0≤t.loss - c.llo:=by omega
 have hx1:t.loss - c.llo<c.lhi - c.llo+1:=by omega
 unfold nthT;rw [h1];obtain⟨da,sa,sta,lo⟩:=t;simp only at*;generalize hs:c.lhi - c.llo+1=L at*;generalize prodR (rngsB c.bk)=PB at*;generalize prodR (covR c)=PC at*;generalize hxx:lo - c.llo=x at*;have hLy:0≤L*y:=Int.mul_nonneg (by omega) y0;have hz:0≤x+L*y:=by omega
 have hzb:x+L*y<L*PC:=by
  have:=Int.mul_le_mul_of_nonneg_left (show y+1≤PC by omega) (show 0≤L by omega);rw [Int.mul_add,Int.mul_one] at this;omega
 generalize hzz:x+L*y=z at*;have hPz:0≤PB*z:=Int.mul_nonneg (by omega) hz
 have hb:m+PB*z<PB*(L*PC):=by
  have:=Int.mul_le_mul_of_nonneg_left (show z+1≤L*PC by omega) (show 0≤PB by omega);rw [Int.mul_add,Int.mul_one] at this;omega
 refine⟨(m+PB*z).toNat,by omega,?_⟩
 have en:(((m+PB*z).toNat:Nat):Int)=m+PB*z:=by omega
 rw [en];have f1:(m+PB*z) % PB=m:=by rw [Int.add_mul_emod_self_left,Int.emod_eq_of_lt m0 m1]
 have f2:(m+PB*z) / PB=z:=by rw [Int.add_mul_ediv_left _ _ (by omega),Int.ediv_eq_zero_of_lt m0 m1,Int.zero_add]
 rw [f1,f2];have f3:z % L=x:=by rw [←hzz,Int.add_mul_emod_self_left,Int.emod_eq_of_lt hx0 hx1]
 have f4:z / L=y:=by rw [←hzz,Int.add_mul_ediv_left _ _ (by omega),Int.ediv_eq_zero_of_lt hx0 hx1,Int.zero_add]
 rw [f3,f4,ed.1,ed.2,e3];congr 1
 omega
theorem allL_of:∀ {rs:List (Int×Int)} {l:List Int},InL rs l→l∈allL rs
  | [], l, h => by
    have:l= []:=List.eq_nil_of_length_eq_zero (by simpa using h.1);subst this;simp [allL]
  |r::t,[],h=>by have:=h.1;simp at this
  | r :: t, a :: l, h => by
    rw [allL_cons];have h0:=h.2 0 (by simp);simp only [List.getElem_cons_zero,List.getD_cons_zero] at h0;refine List.mem_flatMap.2 ⟨(a - r.1).toNat,List.mem_range.2 (by omega),List.mem_map.2 ⟨l,allL_of ⟨by have:=h.1;simpa using this,fun i hi=> ?_⟩,?_⟩⟩
    · have:=h.2 (i+1) (by simp;omega);simpa using this
    · congr 1
      omega
theorem truD_of {c:DCas} {t:DTr} (h:listedD c t=true):∃l∈allL (rngsD c),truD c l=t:=by
 obtain⟨h1,h2,h3,h4⟩:=listedD_iff.1 h;have e1:t.days.length=c.bk.ents.length:=by simpa [entR] using h1.1
 have e2:t.sown.length=c.bk.pars.length:=by simpa [parR] using h2.1
 have e3:t.starts.length=c.covs.length:=by simpa [covR] using h3.1
 refine⟨t.days++(t.sown++(t.starts++ [t.loss])),allL_of ?_,?_⟩
 ·rw [rngsD_eq,InL.app (by simp [entR,e1]),InL.app (by simp [parR,e2]),InL.app (by simp [covR,e3]),InL.one];exact⟨h1,h2,h3,h4⟩
 ·obtain ⟨da, sa, sta, lo⟩ := t; simp only at *; unfold truD; rw [← e1, ← e2, ← e3]; congr 1
  ·simp
  ·simp
  ·rw [←List.drop_drop];simp
  ·rw [List.getD_eq_getElem?_getD,List.getElem?_append_right (by omega),List.getElem?_append_right (by omega),List.getElem?_append_right (by omega)];simp [Nat.add_sub_cancel_left,show da.length+sa.length+sta.length - da.length - sa.length - sta.length=0 by omega]
theorem truD_listed {c:DCas} {l:List Int} (h:l∈allL (rngsD c)):listedD c (truD c l)=true:=by
 obtain⟨hl,hr⟩:=mem_allL h;have hk:=truD_ok h;have e1:=hk.l1;have e2:=hk.l2;have e3:=hk.l3;have hl':l.length=c.bk.ents.length+c.bk.pars.length+c.covs.length+1:=by rw [hl,rngsD_len]
 have e:(truD c l).days++((truD c l).sown++((truD c l).starts++ [(truD c l).loss]))=l:=by
  have g4: [(truD c l).loss]=l.drop (c.bk.ents.length+c.bk.pars.length+c.covs.length):=by
   simp only [truD];rw [List.drop_eq_getElem_cons (by omega),List.drop_of_length_le (by omega)];congr 1
   rw [List.getD_eq_getElem?_getD,List.getElem?_eq_getElem (by omega)];rfl
  rw [g4];simp only [truD];rw [←List.drop_drop (l:=l) (i:=c.covs.length) (j:=c.bk.ents.length+c.bk.pars.length),List.take_append_drop,←List.drop_drop (l:=l) (i:=c.bk.pars.length) (j:=c.bk.ents.length),List.take_append_drop,List.take_append_drop]
 have hI:InL (rngsD c) ((truD c l).days++((truD c l).sown++((truD c l).starts++ [(truD c l).loss]))):=by rw [e];exact⟨hl,hr⟩
 rw [rngsD_eq,InL.app (by simp [entR,e1]),InL.app (by simp [parR,e2]),InL.app (by simp [covR,e3]),InL.one] at hI;rw [listedD_iff];exact hI
theorem mem_truthsD {c:DCas} {out:List Int} {x:DTr×Dmg} :x∈truthsD c out↔listedD c x.1=true∧damD c x.1=some x.2∧goodD c out x.2=true:=by
 unfold truthsD;rw [List.mem_filterMap];constructor
 ·rintro ⟨l, hl, he⟩; unfold tryD at he; obtain ⟨d, hd, he⟩ := Option.bind_eq_some_iff.1 he; split at he
  ·rename_i hg
   cases he
   exact⟨truD_listed hl,hd,hg⟩
  ·cases he
 ·rintro ⟨h1, h2, h3⟩; obtain ⟨l, hl, he⟩ := truD_of h1; refine ⟨l, hl, ?_⟩
  unfold tryD;rw [he,h2];simp only [Option.bind_some];rw [if_pos h3]
end Go.Hs
namespace Go.Hs
open Go.RowKit Go.Proofs.YtegkdnfeceomdaaGreat
def sumsL (d:Dmg) (n:Nat):List Int:= [d.s0,d.s1,d.s2].take n
theorem sumsL_len {d:Dmg} {n:Nat} (h:n≤3):(sumsL d n).length=n:=by simp [sumsL];omega
def FdsZ (f:Fds):Prop:=∀i,(f i).there=false→(f i).value=0
theorem FdsZ.upd {f:Fds} (h:FdsZ f) {i:Nat} {x:Fd} (hx:x.there=true):FdsZ (upd f i x):=fun j hj=>by
 unfold Hs.upd at*;by_cases e:j=i
 ·rw [if_pos e] at hj;rw [hx] at hj;cases hj
 ·rw [if_neg e] at hj⊢;exact h j hj
theorem Fd.up_there {x:Fd} (h:x.up=true):x.there=true:=by
 unfold Fd.up at h;rw [Bool.and_eq_true] at h;exact h.1
theorem happen_z {b:Bk} {i:Nat} {day:Int} {f g:Fds} (hf:FdsZ f) (h:happenS b i day f=some g):FdsZ g:=by
 unfold happenS at h;generalize b.ents.getD i default=en at*;dsimp only at h
 split at h
 ·rename_i hup
  have ht:=Fd.up_there hup;split at h
  ·split at h
   ·cases h
    refine FdsZ.upd hf ?_
    exact ht
   ·cases h
  ·split at h
   ·split at h
    ·cases h
     refine FdsZ.upd (FdsZ.upd hf ?_) ?_
     ·exact ht
     ·rfl
    ·cases h
   ·split at h
    ·split at h
     ·rename_i h2
      rw [Bool.and_eq_true] at h2;cases h
      refine FdsZ.upd (FdsZ.upd hf ?_) ?_
      ·exact ht
      ·exact Fd.up_there h2.1
     ·cases h
    ·split at h
     ·split at h
      ·cases h
       refine FdsZ.upd hf ?_
       exact ht
      ·cases h
     ·cases h
 ·cases h
theorem dayS_z {b:Bk} {days:List Int} {out:Nat→Bool} {d:Nat} :∀(n:Nat) {f g:Fds},FdsZ f→dayS b days out d n f=some g→FdsZ g
  |0,f,g,hf,h=>by simp [dayS] at h;subst h;exact hf
  | n + 1, f, g, hf, h => by
    rw [dayS_next] at h;cases hq:dayS b days out d n f with
    |none=>rw [hq] at h;cases h
    | some f' =>
      rw [hq] at h;have:=dayS_z n hf hq;unfold stepS at h;simp only [Option.bind_some] at h;split at h
      · exact happen_z this h
      · cases h;exact this
theorem stateS_z {b:Bk} {days sown:List Int} {out:Nat→Bool} :∀(d:Nat) {f:Fds},stateS b days sown out d=some f→FdsZ f
  | 0, f, h => by
    simp only [stateS,Option.some.injEq] at h;subst h;intro i hi
    unfold beginS at*;split at hi
    · cases hi
    · rename_i hn;rw [if_neg hn];rfl
  | d + 1, f, h => by
    simp only [stateS] at h;cases hq:stateS b days sown out d with
    |none=>rw [hq] at h;cases h
    |some f'=>rw [hq] at h;exact dayS_z _ (stateS_z d hq) h
theorem playK_of {c:DCas} {t:DTr} (h:caseD c=0) (ht:TruOK c t):playK c.bk t.days t.sown c.day=if (playB c.bk t.days t.sown c.day.toNat (fun _=>false)).isSome then 0 else 11:=by
 have hS:=(caseD_zero h).2.1;unfold playK;rw [if_neg (by simp [(caseD_zero h).1]),if_pos];rw [ht.listed,Bool.true_and];unfold dayB;rw [inR_iff];exact hS.day
theorem dam_none {c:DCas} {t:DTr} (h:caseD c=0) (ht:TruOK c t) (hs:stateS c.bk t.days t.sown (fun _=>false) (c.bk.last.toNat+1)=none):damD c t=none:=by
 refine damD_none ?_
 rw [playK_of h ht];unfold playB;rw [hs];simp
theorem dam_some {c:DCas} {t:DTr} (h:caseD c=0) (ht:TruOK c t) {f f1:Fds} (hs:stateS c.bk t.days t.sown (fun _=>false) (c.bk.last.toNat+1)=some f1) (hd:stateS c.bk t.days t.sown (fun _=>false) (c.day.toNat+1)=some f):
  damD c t=some ⟨(f c.parcel.toNat).value*t.loss / 100,sumsD c (f c.parcel.toNat) t.starts 0 c.covs.length,sumsD c (f c.parcel.toNat) t.starts 1 c.covs.length,sumsD c (f c.parcel.toNat) t.starts 2 c.covs.length⟩:=by
 have hp:playB c.bk t.days t.sown c.day.toNat (fun _=>false)=some f:=by
  unfold playB;rw [hs];exact hd
 unfold damD;rw [playK_of h ht,hp];simp
theorem sumsD_none {c:DCas} {x:Fd} {starts:List Int} {j:Int} (h:∀k∈c.covs,k.soc≠j):∀n,n≤c.covs.length→sumsD c x starts j n=0
  |0,_=>rfl
  | n + 1, hn => by
    rw [sumsD_next,sumsD_none h n (by omega)];have e:c.covs.getD n default=c.covs[n]'(by omega):=by simp [show n<c.covs.length by omega]
    have:=h _ (List.getElem_mem (show n<c.covs.length by omega));rw [e,decide_eq_false this,Bool.and_false];simp
theorem dmg_high {c:DCas} {t:DTr} (h:caseD c=0) (ht:TruOK c t) {d:Dmg} (hd:damD c t=some d):(c.soc≤1→d.s1=0)∧(c.soc≤2→d.s2=0):=by
 have hS:=(caseD_zero h).2.1
 have hc:∀k∈c.covs,0≤k.soc∧k.soc≤c.soc - 1:=fun k hk=>by
  have:=hS.cov k hk;simp only [covB,socB,Bool.and_eq_true,inR_iff] at this;exact this.1
 unfold damD at hd;split at hd
 ·simp only [Option.some.injEq] at hd;subst hd;exact⟨fun h1=>sumsD_none (fun k hk e=>by have:=hc k hk;omega) _ (Nat.le_refl _),fun h1=>sumsD_none (fun k hk e=>by have:=hc k hk;omega) _ (Nat.le_refl _)⟩
 ·cases hd
theorem settle_dmg {d:Dmg} {n:Nat} (h1:1≤n) (h3:n≤3) (hs1:n≤1→d.s1=0) (hs2:n≤2→d.s2=0):settleL d.amount (sumsL d n)=payL d n:=by
 rw [settle_pad (by rw [sumsL_len h3];exact h3),sumsL_len h3]
 have e0:padS (sumsL d n) 3 0=d.s0:=by
  unfold padS sumsL;rcases n with _|n
  ·omega
  ·simp
 have e1:padS (sumsL d n) 3 1=d.s1:=by
  unfold padS sumsL;rcases n with _|_|n
  ·omega
  ·simp [hs1 (by omega)]
  ·simp
 have e2:padS (sumsL d n) 3 2=d.s2:=by
  unfold padS sumsL;rcases n with _|_|_|n
  ·omega
  ·simp [hs2 (by omega)]
  ·simp [hs2 (by omega)]
  ·simp
 rw [e0,e1,e2];rfl
theorem settle_atH {amount:Int} {sums:List Int} (ha:0≤amount) (h:∀x∈sums,0≤x) {i:Nat} (hi:i<sums.length):
  0≤(settleL amount sums).getD i 0∧(settleL amount sums).getD i 0≤sums.getD i 0:=by
 have hl:i<(settleL amount sums).length:=by rw [settleL_len];exact hi
 have:=(settleL_ok ha h).1 i (sums[i]) ((settleL amount sums)[i]) (by simp [hi]) (by simp [hl]);have e1:sums.getD i 0=sums[i]:=by simp [hi]
 have e2:(settleL amount sums).getD i 0=(settleL amount sums)[i]:=by simp [hl]
 rw [e1,e2];exact⟨this.1,this.2.1⟩
end Go.Hs
namespace Go.Hs
open Go.RowKit
theorem manyTo_snoc (top:Int) (l:List (Int×Int)) (r:Int×Int) (n:Int):manyTo top (l++ [r]) n=min top (manyTo top l n*(r.2 - r.1+1)):=by
 unfold manyTo;rw [List.foldl_append];rfl
theorem manyTo_app (top:Int) (a b:List (Int×Int)) (n:Int):manyTo top (a++b) n=manyTo top b (manyTo top a n):=by
 unfold manyTo;rw [List.foldl_append]
theorem manyTo_bd {top:Int} (ht:1≤top):∀ {l:List (Int×Int)} {n:Int},(∀r∈l,r.1≤r.2)→1≤n→n≤top→1≤manyTo top l n∧manyTo top l n≤top
  | [],n,_,h1,h2=>⟨h1,h2⟩
  | r :: t, n, hr, h1, h2 => by
    have h:=hr r (by simp);have e:manyTo top (r::t) n=manyTo top t (min top (n*(r.2 - r.1+1))):=rfl;rw [e]
    have h3:1≤n*(r.2 - r.1+1):=by
      have:=Int.mul_le_mul h1 (show 1≤r.2 - r.1+1 by omega) (by omega) (by omega);omega
    exact manyTo_bd ht (fun x hx=>hr x (by simp [hx])) (by omega) (by omega)
theorem manyTo_next {top:Int} {l:List (Int×Int)} {k:Nat} (h:k<l.length) (n:Int):manyTo top (l.take (k+1)) n=min top (manyTo top (l.take k) n*((l[k]).2 - (l[k]).1+1)):=by
 rw [List.take_succ_eq_append_getElem h,manyTo_snoc]
end Go.Hs
namespace Go.Proofs.YtegkdnfeceomdaaGreat
open Go.RowKit Go.Hs
attribute [local irreducible] World.setCell World.alloc
theorem run_min_h (a b c:Int) (h:min a b=c):∀w,(Builtin.min_ #[3,3] 3 #[.int .i64 a,.int .i64 b]).run Tryz.prog w= .ok (.int .i64 c) w:=fun w=>by
 have e:(if b<a then b else a)=c:=by rw [←h];split<;>omega
 rw [←e];simp [go_sem]
theorem Many_h (b:Bk) (v:Value) (w:World) (hv:BkV w v b) (hE:∀e∈b.ents,0≤e.dlo∧e.dlo≤e.dhi∧e.dhi≤900) (hP:∀p∈b.pars,0≤p.slo∧p.slo≤p.shi∧p.shi≤900):
  Calls Tryz.prog 109 #[v] w fun e w'=>e= .returned (.int .i64 (manyRef b))∧Ext w w':=by
 obtain⟨a1,c1,a2,c2,rfl,hp,he,hp1,he1,hp2,he2⟩:=hv.open;have HE:Hid (∀W,Ext w W→Cells8 W a2 (b.ents.map Ent.c)):=hHd (fun W hx=>he.ext hx);have HP:Hid (∀W,Ext w W→Cells4 W a1 (b.pars.map Par.c)):=hHd (fun W hx=>hp.ext hx);have HDE:Hid (∀k (h:k<b.ents.length),0≤b.ents[k].dlo∧b.ents[k].dlo≤b.ents[k].dhi∧b.ents[k].dhi≤900):=hHd (fun k h=>hE _ (List.getElem_mem h));have HDP:Hid (∀k (h:k<b.pars.length),0≤b.pars[k].slo∧b.pars[k].slo≤b.pars[k].shi∧b.pars[k].shi≤900):=hHd (fun k h=>hP _ (List.getElem_mem h))
 have hre:∀r∈entR b,r.1≤r.2:=fun r hr=>by
  obtain⟨e,he,rfl⟩:=List.mem_map.1 hr;exact(hE e he).2.1
 have hrp:∀r∈parR b,r.1≤r.2:=fun r hr=>by
  obtain⟨e,he,rfl⟩:=List.mem_map.1 hr;exact(hP e he).2.1
 have hm0:=manyTo_bd (top:=2000) (by omega) hre (n:=1) (by omega) (by omega);have HBE:Hid (∀k,1≤manyTo 2000 ((entR b).take k) 1∧manyTo 2000 ((entR b).take k) 1≤2000):=hHd (fun k=>manyTo_bd (by omega) (fun r hr=>hre r (List.mem_of_mem_take hr)) (by omega) (by omega));have HBP:Hid (∀k,1≤manyTo 2000 ((parR b).take k) (manyTo 2000 (entR b) 1)∧manyTo 2000 ((parR b).take k) (manyTo 2000 (entR b) 1)≤2000):=hHd (fun k=>manyTo_bd (by omega) (fun r hr=>hrp r (List.mem_of_mem_take hr)) hm0.1 hm0.2);have HR:Hid (manyRef b=manyTo 2000 (parR b) (manyTo 2000 (entR b) 1)):=hHd (by unfold manyRef;rw [rngsB_eq,manyTo_app]);clear hv hp he hre hrp hm0 hE hP;generalize manyRef b=res at*;unfold bkV;generalize b.last=last at*;generalize b.owners=owners at*;go_enter Tryz.func109,Tryz.ntmps109
 (go_wp2_with fail);obtain⟨W,hW,X,HS,HSf,HSz⟩:=bx4 w 35 (.int .i64 last) (.int .i64 owners) (.slice a1 b.pars.length c1) (.slice a2 b.ents.length c2);rw [hW];clear hW;go_loopw [3,4] (fun s3 s4 wr=>∃k:Nat,k≤b.ents.length∧s4= .int .i64 k∧s3= .int .i64 (manyTo 2000 ((entR b).take k) 1)∧Ext W wr) (fun _ s _=>b.ents.length - (intOf s).toNat)
 case atStart=>exact⟨0,Nat.zero_le _,rfl,by simp [manyTo],Ext.refl _⟩
 case round=>
  obtain⟨k,hk,rfl,rfl,hx⟩:=hrel;obtain⟨wo,rfl⟩:∃x,x=wr:=⟨_,rfl⟩;obtain⟨⟨-,-,q2,q3⟩,-⟩:=HS.out wo hx;by_cases hlt:k<b.ents.length
  ·obtain ⟨b', off, rfl, hce⟩ := HE.out wo (X.trans hx) k (by simpa using hlt); have e1 : (b.ents.map Ent.c)[k]'(by simpa using hlt) = (b.ents[k]).c := by simp
   rw [e1] at hce;have m0:=hce.2.2.2.2.2.2.1;have m1:=hce.2.2.2.2.2.2.2;simp only [Ent.c] at m0 m1;have HV:=hHd (HDE.out k hlt);have HN:Hid (manyTo 2000 ((entR b).take (k+1)) 1=min 2000 (manyTo 2000 ((entR b).take k) 1*(b.ents[k].dhi - b.ents[k].dlo+1))):=hHd (by rw [manyTo_next (by simpa [entR] using hlt)];simp [entR]);have HB:=hHd (HBE.out k);clear hce e1;have hk0:(0:Int)≤(k:Int):=by omega
   have hk1:(k:Int)<(b.ents.length:Int):=by omega
   generalize b.ents[k].dlo=lo at*;generalize b.ents[k].dhi=hi at*;generalize manyTo 2000 ((entR b).take k) 1=mn at*;have hv:=HV.out;have hb:=HB.out;have w1:IntKind.i64.wrap (hi - lo)=hi - lo:=IntWalk.i64_in _ (by omega);have w2:IntKind.i64.wrap (hi - lo+1)=hi - lo+1:=IntWalk.i64_in _ (by omega);have hp0:0≤mn*(hi - lo+1):=Int.mul_nonneg (by omega) (by omega);have hp1:mn*(hi - lo+1)≤2000*1000:=Int.mul_le_mul (by omega) (by omega) (by omega) (by omega);have w3:IntKind.i64.wrap (mn*(hi - lo+1))=mn*(hi - lo+1):=IntWalk.i64_in _ (by omega);have hmin:=run_min_h 2000 (mn*(hi - lo+1)) _ rfl;clear hp0 hp1 hv hb;(go_wp2_with fail);go_region;(go_wp2_with fail);go_roundw
   case rel=>exact⟨k+1,by omega,by go_num,by rw [HN.out],hx.drew⟩
   case measure=>simp [intOf];omega
  ·obtain rfl : k = b.ents.length := by omega
   rw [show (entR b).take b.ents.length=entR b from List.take_of_length_le (by simp [entR])];clear hlt;(go_wp2_with fail);go_loopw [3,5] (fun s3 s4 wr=>∃k:Nat,k≤b.pars.length∧s4= .int .i64 k∧s3= .int .i64 (manyTo 2000 ((parR b).take k) (manyTo 2000 (entR b) 1))∧Ext W wr) (fun _ s _=>b.pars.length - (intOf s).toNat)
   case atStart=>exact⟨0,Nat.zero_le _,rfl,by simp [manyTo],hx⟩
   case round=>
    obtain⟨k,hk,rfl,rfl,hx⟩:=hrel;obtain⟨wo,rfl⟩:∃x,x=wr:=⟨_,rfl⟩;obtain⟨⟨-,-,q2,q3⟩,-⟩:=HS.out wo hx;by_cases hlt:k<b.pars.length
    ·obtain ⟨b', off, rfl, hce⟩ := HP.out wo (X.trans hx) k (by simpa using hlt); have e1 : (b.pars.map Par.c)[k]'(by simpa using hlt) = (b.pars[k]).c := by simp
     rw [e1] at hce;have m0:=hce.2.2.1;have m1:=hce.2.2.2;simp only [Par.c] at m0 m1;have HV:=hHd (HDP.out k hlt);have HN:Hid (manyTo 2000 ((parR b).take (k+1)) (manyTo 2000 (entR b) 1)=min 2000 (manyTo 2000 ((parR b).take k) (manyTo 2000 (entR b) 1)*(b.pars[k].shi - b.pars[k].slo+1))):=hHd (by rw [manyTo_next (by simpa [parR] using hlt)];simp [parR]);have HB:=hHd (HBP.out k);clear hce e1;have hk0:(0:Int)≤(k:Int):=by omega
     have hk1:(k:Int)<(b.pars.length:Int):=by omega
     generalize b.pars[k].slo=lo at*;generalize b.pars[k].shi=hi at*;generalize manyTo 2000 ((parR b).take k) (manyTo 2000 (entR b) 1)=mn at*;have hv:=HV.out;have hb:=HB.out;have w1:IntKind.i64.wrap (hi - lo)=hi - lo:=IntWalk.i64_in _ (by omega);have w2:IntKind.i64.wrap (hi - lo+1)=hi - lo+1:=IntWalk.i64_in _ (by omega);have hp0:0≤mn*(hi - lo+1):=Int.mul_nonneg (by omega) (by omega);have hp1:mn*(hi - lo+1)≤2000*1000:=Int.mul_le_mul (by omega) (by omega) (by omega) (by omega);have w3:IntKind.i64.wrap (mn*(hi - lo+1))=mn*(hi - lo+1):=IntWalk.i64_in _ (by omega);have hmin:=run_min_h 2000 (mn*(hi - lo+1)) _ rfl;clear hp0 hp1 hv hb;(go_wp2_with fail);go_region;(go_wp2_with fail);go_roundw
     case rel=>exact⟨k+1,by omega,by go_num,by rw [HN.out],hx.drew⟩
     case measure=>simp [intOf];omega
    ·obtain rfl : k = b.pars.length := by omega
     rw [show (parR b).take b.pars.length=parR b from List.take_of_length_le (by simp [parR])];clear hlt;(go_wp2_with fail);go_ret;exact⟨by rw [HR.out];rfl,X.trans hx⟩
end Go.Proofs.YtegkdnfeceomdaaGreat
