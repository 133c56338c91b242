/- Bundled: what the texts HV HVR say one after another. -/
import Derived.Test.YtegkdnfeceomdaaGreatKDC8
import Derived.Test.YtegkdnfeceomdaaGreatKDC4
import Derived.Test.YtegkdnfeceomdaaGreatKDA18
import Derived.Test.YtegkdnfeceomdaaGreatKDA4
set_option maxRecDepth 100000
set_option maxHeartbeats 16000000
set_option linter.unusedSimpArgs false
set_option linter.unusedVariables false
namespace Go.Hs
open Go.RowKit Go.Proofs.YtegkdnfeceomdaaGreat
structure RngS (c:DCas):Prop where
 ent:∀e∈c.bk.ents,0≤e.dlo∧e.dlo≤e.dhi∧e.dhi≤900
 par:∀p∈c.bk.pars,0≤p.slo∧p.slo≤p.shi∧p.shi≤900
 loss:0≤c.llo∧c.llo≤c.lhi∧c.lhi≤900
 cov:∀x∈c.covs,0≤x.slo∧x.slo≤x.shi∧x.shi≤900
structure FauD (c:DCas):Prop where
 bk:bookE c.bk≠0→caseD c=bookE c.bk
 big:bookE c.bk=0→(3<c.soc∨5<c.covs.length∨5<c.clms.length)→caseD c=3
 head:bookE c.bk=0→¬(3<c.soc∨5<c.covs.length∨5<c.clms.length)→(c.soc<1∨dayB c.bk c.day=false∨numberB c.bk c.parcel=false∨ofR c.llo c.lhi 100=false)→caseD c=1
 cov:bookE c.bk=0→¬(3<c.soc∨5<c.covs.length∨5<c.clms.length)→∀k (h:k<c.covs.length),covB c c.covs[k]=false→caseD c=1
 clm:bookE c.bk=0→¬(3<c.soc∨5<c.covs.length∨5<c.clms.length)→∀k (h:k<c.clms.length),clmB c c.clms[k]=false→caseD c=1
 ok:bookE c.bk=0→¬(3<c.soc∨5<c.covs.length∨5<c.clms.length)→1≤c.soc→dayB c.bk c.day=true→numberB c.bk c.parcel=true→ofR c.llo c.lhi 100=true→(∀k (h:k<c.covs.length),covB c c.covs[k]=true)→(∀k (h:k<c.clms.length),clmB c c.clms[k]=true)→
  RngS c∧caseD c=if 2000<manyC c then 3 else 0
theorem fauD (c:DCas):FauD c:=by
 have hall:∀ {α:Type} (l:List α) (p:α→Bool) (k:Nat) (h:k<l.length),p l[k]=false→l.all p=false:=fun l p k h e=>by
  rw [List.all_eq_false];exact⟨l[k],List.getElem_mem h,by simp [e]⟩
 refine⟨fun h=> ?_,fun h0 h=> ?_,fun h0 h h2=> ?_,fun h0 h k hk e=> ?_,fun h0 h k hk e=> ?_,fun h0 h h1 h2 h3 h4 h5 h6=> ?_⟩
 ·unfold caseD;rw [if_pos h]
 ·unfold caseD;rw [if_neg (by simp [h0]),if_pos h]
 ·unfold caseD; rw [if_neg (by simp [h0]), if_neg h, if_neg]; intro hc
  simp only [Bool.and_eq_true,decide_eq_true_eq] at hc;rcases h2 with h2|h2|h2|h2
  ·omega
  ·rw [h2] at hc;cases hc.2.1
  ·rw [h2] at hc;cases hc.2.2.1
  ·rw [h2] at hc;cases hc.2.2.2.1
 ·unfold caseD; rw [if_neg (by simp [h0]), if_neg h, if_neg]; intro hc
  simp only [Bool.and_eq_true] at hc;rw [hall _ _ k hk e] at hc;cases hc.2.2.2.2.1
 ·unfold caseD; rw [if_neg (by simp [h0]), if_neg h, if_neg]; intro hc
  simp only [Bool.and_eq_true] at hc;rw [hall _ _ k hk e] at hc;cases hc.2.2.2.2.2
 ·have hp : c.covs.all (covB c) = true := List.all_eq_true.2 (fun x hx => by
   obtain⟨k,hk,rfl⟩:=List.getElem_of_mem hx;exact h5 k hk)
  have he:c.clms.all (clmB c)=true:=List.all_eq_true.2 (fun x hx=>by
   obtain⟨k,hk,rfl⟩:=List.getElem_of_mem hx;exact h6 k hk)
  have hb:=bks_of h0;have hlast:=hb.last;have hlo:=ofR_iff.1 h4
  have re:∀e∈c.bk.ents,0≤e.dlo∧e.dlo≤e.dhi∧e.dhi≤900:=fun e hm=>by
   have:=hb.ent e hm;simp only [entB,Bool.and_eq_true,daysB_iff] at this;have:=this.1.2;omega
  have rp:∀p∈c.bk.pars,0≤p.slo∧p.slo≤p.shi∧p.shi≤900:=fun p hm=>by
   have:=hb.par p hm;simp only [parB,Bool.and_eq_true,daysB_iff] at this;have:=this.2.2;omega
  have rc:∀x∈c.covs,0≤x.slo∧x.slo≤x.shi∧x.shi≤900:=fun x hm=>by
   have:=List.all_eq_true.1 hp x hm;simp only [covB,Bool.and_eq_true,ofR_iff] at this;have:=this.2.2.2.2.2;omega
  refine⟨⟨re,rp,by omega,rc⟩,?_⟩
  have hr:∀r∈rngsD c,r.1≤r.2:=fun r hr=>by
   rw [rngsD_eq,List.mem_append,List.mem_append,List.mem_append] at hr;rcases hr with hr|hr|hr|hr
   ·obtain⟨e,he,rfl⟩:=List.mem_map.1 hr;exact(re e he).2.1
   ·obtain⟨e,he,rfl⟩:=List.mem_map.1 hr;exact(rp e he).2.1
   ·obtain⟨e,he,rfl⟩:=List.mem_map.1 hr;exact(rc e he).2.1
   ·simp only [List.mem_cons,List.not_mem_nil,or_false] at hr;subst hr;exact hlo.2.1
  unfold caseD;rw [if_neg (by simp [h0]),if_neg h,if_pos (by rw [h2,h3,h4,hp,he];simp [h1])];have h7:=manyL_lt (cap:=2000) (by omega) hr;obtain⟨m1,m2,m3,m4⟩:=manyRef_eq h0;have rcv:∀r∈covR c,r.1≤r.2:=fun r hr'=>hr r (by rw [rngsD_eq,List.mem_append,List.mem_append,List.mem_append];exact .inr (.inr (.inl hr')))
  have hcp:=prodR_pos rcv;have hL:1≤c.lhi - c.llo+1:=by omega
  have hn:1≤prodR (rngsB c.bk)*(c.lhi - c.llo+1):=by
   have:=Int.mul_le_mul m2 hL (by omega) (by omega);omega
  have e:(2000<manyC c)↔(2000<manyL 2000 (rngsD c)):=by
   rw [h7,prodR_rngsD];unfold manyC;rw [m1,Int.min_comm,manyTo_eq (by omega) rcv hn,Int.mul_assoc,Int.mul_comm (c.lhi - c.llo+1)];omega
  by_cases hx:2000<manyC c
  ·rw [if_pos hx,if_pos (e.1 hx)]
  ·rw [if_neg hx,if_neg (fun h=>hx (e.2 h))]
end Go.Hs
namespace Go.Proofs.YtegkdnfeceomdaaGreat
open Go.RowKit Go.Hs
attribute [local irreducible] World.setCell World.alloc
theorem Many_dh (A:CaseA) (c:DCas) (w:World) (hm:CaseM w A c) (hr':RngS c):
  Calls Tryz.prog 47 #[A.v c] w fun e w'=>e= .returned (.int .i64 (manyC c))∧Ext w w':=by
 have hb:=manyTo_bd (top:=2000) (l:=rngsB c.bk) (n:=1) (by omega) (fun r hr=>by
  rw [rngsB_eq,List.mem_append] at hr;rcases hr with hr|hr
  ·obtain⟨e,he,rfl⟩:=List.mem_map.1 hr;exact(hr'.ent e he).2.1
  ·obtain⟨e,he,rfl⟩:=List.mem_map.1 hr;exact(hr'.par e he).2.1) (by omega) (by omega)
 have hbr:1≤manyRef c.bk∧manyRef c.bk≤2000:=hb;have hlo:=hr'.loss;have HM1:=hHd (fun W (hx:Ext w W)=>Many_h c.bk (A.b c) W (hm.bk.ext hx) hr'.ent hr'.par);have HC1:=hHd (fun W=>Count_h c.llo c.lhi W (by omega));have HCX:=hHd (fun lo hi W h=>Count_h lo hi W h);have HCO:=hHd (fun W (hx:Ext w W)=>Cells7.ext hx hm.covs);have hl3:=hm.l3.2;have HRC:=hHd (fun k (h:k<c.covs.length)=>hr'.cov _ (List.getElem_mem h))
 have hrc:∀r∈covR c,r.1≤r.2:=fun r hr=>by
  obtain⟨e,he,rfl⟩:=List.mem_map.1 hr;exact(hr'.cov e he).2.1
 have hp0:1≤manyRef c.bk*(c.lhi - c.llo+1):=by have:=Int.mul_le_mul hbr.1 (show 1≤c.lhi - c.llo+1 by omega) (by omega) (by omega);omega
 have hp1:manyRef c.bk*(c.lhi - c.llo+1)≤2000*1000:=Int.mul_le_mul (by omega) (by omega) (by omega) (by omega);have HB:Hid (∀k,1≤manyTo 3000 ((covR c).take k) (min 3000 (manyRef c.bk*(c.lhi - c.llo+1)))∧manyTo 3000 ((covR c).take k) (min 3000 (manyRef c.bk*(c.lhi - c.llo+1)))≤3000):=hHd (fun k=>manyTo_bd (by omega) (fun r hr=>hrc r (List.mem_of_mem_take hr)) (by omega) (by omega));have HE:Hid (manyC c=manyTo 3000 (covR c) (min 3000 (manyRef c.bk*(c.lhi - c.llo+1)))):=rfl;have HNX:Hid (∀k (h:k<c.covs.length),manyTo 3000 ((covR c).take (k+1)) (min 3000 (manyRef c.bk*(c.lhi - c.llo+1)))=min 3000 (manyTo 3000 ((covR c).take k) (min 3000 (manyRef c.bk*(c.lhi - c.llo+1)))*(c.covs[k].shi - c.covs[k].slo+1))):=hHd (fun k h=>by rw [manyTo_next (by simpa [covR] using h)];simp [covR]);have HAL:Hid ((covR c).take c.covs.length=covR c):=hHd (List.take_of_length_le (by simp [covR]));clear hm hr' hb hrc;generalize manyRef c.bk=mr at*;obtain⟨n0,hn0⟩:∃n,min 3000 (mr*(c.lhi - c.llo+1))=n:=⟨_,rfl⟩;have hmin0:=run_min_h 3000 (mr*(c.lhi - c.llo+1)) n0 hn0;rw [hn0] at HB HE HNX;clear hn0;have w1:IntKind.i64.wrap (mr*(c.lhi - c.llo+1))=mr*(c.lhi - c.llo+1):=IntWalk.i64_in _ (by omega);obtain⟨a1,c1,a2,c2,a3,c3,a4,c4⟩:=A;unfold CaseA.v CaseA.b caseV bkV at*;simp only at*;clear hp0 hp1 hbr hlo;go_enter Tryz.func47,Tryz.ntmps47
 (go_wp2_with fail);obtain⟨W,hW,X,HS,HSf,HSz⟩:=bx11 w 41 (.int .i64 c.bk.last) (.int .i64 c.bk.owners) (.slice a1 c.bk.pars.length c1) (.slice a2 c.bk.ents.length c2) (.int .i64 c.soc) (.int .i64 c.day) (.int .i64 c.parcel) (.slice a3 c.covs.length c3) (.int .i64 c.llo) (.int .i64 c.lhi) (.slice a4 c.clms.length c4);rw [hW];clear hW;clear HSf
 go_region_held3 (fun w'=>(w'.cell? ⟨w.heap.size,0,none⟩=some (.int .i64 c.bk.last)∧w'.cell? ⟨w.heap.size,1,none⟩=some (.int .i64 c.bk.owners)∧w'.cell? ⟨w.heap.size,2,none⟩=some (.slice a1 c.bk.pars.length c1)∧w'.cell? ⟨w.heap.size,3,none⟩=some (.slice a2 c.bk.ents.length c2)∧w'.cell? ⟨w.heap.size,4,none⟩=some (.int .i64 c.soc)∧w'.cell? ⟨w.heap.size,5,none⟩=some (.int .i64 c.day)∧w'.cell? ⟨w.heap.size,6,none⟩=some (.int .i64 c.parcel)∧w'.cell? ⟨w.heap.size,7,none⟩=some (.slice a3 c.covs.length c3)∧w'.cell? ⟨w.heap.size,8,none⟩=some (.int .i64 c.llo)∧w'.cell? ⟨w.heap.size,9,none⟩=some (.int .i64 c.lhi)∧w'.cell? ⟨w.heap.size,10,none⟩=some (.slice a4 c.clms.length c4))∧Ext W w')
  ((refine HS.out _ ?_;exact EX))
  (first
   |(go_at_call 109;((with_reducible refine(HM1.out _ (X.trans EX)).mono ?_);rintro e wm ⟨rfl,hxm⟩))
   |(go_at_call 110;((with_reducible refine(HC1.out _).mono ?_);rintro e wn ⟨rfl,hxn⟩)))
 all_goals
  (go_wp2_with fail);go_loopw [3,4] (fun s3 s4 wr=>∃k:Nat,k≤c.covs.length∧s4= .int .i64 k∧s3= .int .i64 (manyTo 3000 ((covR c).take k) n0)∧Ext W wr) (fun _ s _=>c.covs.length - (intOf s).toNat)
  case atStart=>exact⟨0,Nat.zero_le _,rfl,by simp [manyTo],EX⟩
  case round=>
   obtain⟨k,hk,rfl,rfl,hx⟩:=hrel;obtain⟨wo,rfl⟩:∃x,x=wr:=⟨_,rfl⟩;obtain⟨⟨-,-,-,-,-,-,-,q7,-,-,-⟩,-⟩:=HS.out wo hx;by_cases hlt:k<c.covs.length
   ·obtain ⟨b', off, rfl, hce⟩ := HCO.out wo (X.trans hx) k (by simpa using hlt); have e1 : (c.covs.map Cov.c)[k]'(by simpa using hlt) = (c.covs[k]).c := by simp
    rw [e1] at hce;obtain⟨-,-,-,-,-,m5,m6⟩:=hce;simp only [Cov.c] at m5 m6;have HV:=hHd (HRC.out k hlt);have HN:=hHd (HNX.out k hlt);have hb:=HB.out k;generalize c.covs[k].slo=lo at*;generalize c.covs[k].shi=hi at*;generalize manyTo 3000 ((covR c).take k) n0=mn at*;have hv:=HV.out;have HC:=hHd (fun W=>HCX.out lo hi W (by omega));have hp0:0≤mn*(hi - lo+1):=Int.mul_nonneg (by omega) (by omega);have hp1:mn*(hi - lo+1)≤3000*1000:=Int.mul_le_mul (by omega) (by omega) (by omega) (by omega);have w3:IntKind.i64.wrap (mn*(hi - lo+1))=mn*(hi - lo+1):=IntWalk.i64_in _ (by omega);have hmin:=run_min_h 3000 (mn*(hi - lo+1)) _ rfl;have hk0:(0:Int)≤(k:Int):=by omega
    have hk1:(k:Int)<(c.covs.length:Int):=by omega
    clear hp0 hp1 hv hb e1;(go_wp2_with fail);(with_reducible refine(HC.out _).mono ?_);rintro e w5 ⟨rfl,hx5⟩;(go_wp2_with fail);go_roundw
    case rel=>exact⟨k+1,by omega,by go_num,by rw [HN.out],hx.trans hx5⟩
    case measure=>simp [intOf];omega
   ·obtain rfl : k = c.covs.length := by omega
    have HR:Hid (manyC c=manyTo 3000 ((covR c).take c.covs.length) n0):=hHd (by rw [HE.out,HAL.out]);clear hlt;(go_wp2_with fail);go_ret;exact⟨by rw [HR.out];rfl,X.trans hx⟩
theorem Fault_dh (A : CaseA) (c : DCas) (w : World) (hm : CaseM w A c) :
    Calls Tryz.prog 68 #[A.v c] w fun e w'=>e= .returned (.int .i64 (caseD c))∧Ext w w':=by
  have HFD:=fauD c;have HBF:=hHd (fun W (hx:Ext w W)=>Fault_h c.bk (A.b c) W (hm.bk.ext hx));have HMM:=hHd hm;have hl1:=hm.l1.2;have hl2:=hm.l2.2;have hl3:=hm.l3.2;have hl4:=hm.l4.2;have HCO:=hHd (fun W (hx:Ext w W)=>Cells7.ext hx hm.covs);have HCM:=hHd (fun W (hx:Ext w W)=>Cells3.ext hx hm.clms);obtain⟨A',hA⟩:∃A':CaseA,A'=A:=⟨_,rfl⟩;obtain⟨a1,c1,a2,c2,a3,c3,a4,c4⟩:=A;clear hm;by_cases h0:bookE c.bk=0
  · skip
    have hbk:=bks_of h0;have how:=hbk.owners;have HBG:=hHd (HFD.big h0);have HNB:numsB c.bk≤c.bk.pars.length+c.bk.ents.length:=numsTo_le c.bk _;have HE1:=hHd (fun W (hx:Ext w W)=>Every_h c.bk (CaseA.b ⟨a1,c1,a2,c2,a3,c3,a4,c4⟩ c) W (HMM.out.bk.ext hx));have HIN:=hHd In_h;have HI1:Hid (∀W,Calls Tryz.prog 21 #[.int .i64 c.day,.int .i64 0,.int .i64 c.bk.last] W fun e w'=>e= .returned (.bool (dayB c.bk c.day))∧Ext W w'):=hHd (In_h c.day 0 c.bk.last);have HI2:Hid (∀W,Calls Tryz.prog 21 #[.int .i64 c.parcel,.int .i64 0,.int .i64 ((numsB c.bk:Int) - 1)] W fun e w'=>e= .returned (.bool (numberB c.bk c.parcel))∧Ext W w'):=hHd (In_h c.parcel 0 ((numsB c.bk:Int) - 1));have HW1:Hid (∀W,Calls Tryz.prog 124 #[.agg #[.int .i64 c.llo,.int .i64 c.lhi],.int .i64 0,.int .i64 100] W fun e w'=>e= .returned (.bool (ofR c.llo c.lhi 100))∧Ext W w'):=hHd (Within_h c.llo c.lhi 0 100);have wn:IntKind.i64.wrap ((numsB c.bk:Int) - 1)=(numsB c.bk:Int) - 1:=IntWalk.i64_in _ (by omega);have hb:(bookE c.bk !=0)=false:=by rw [h0];rfl
    rw [h0] at HBF;by_cases hbig:3<c.soc∨5<c.covs.length∨5<c.clms.length
    · skip
      have HR:=hHd (HBG.out hbig);clear HFD HMM HE1 HCO HCM;unfold CaseA.v CaseA.b caseV bkV at*;simp only at*;by_cases h1:3<c.soc
      · have d1 : decide (3 < c.soc) = true := decide_eq_true h1; go_enter Tryz.func68, Tryz.ntmps68
        (go_wp2_with fail);obtain⟨W,hW,X,HS,HSf,HSz⟩:=bx11 w 41 (.int .i64 c.bk.last) (.int .i64 c.bk.owners) (.slice a1 c.bk.pars.length c1) (.slice a2 c.bk.ents.length c2) (.int .i64 c.soc) (.int .i64 c.day) (.int .i64 c.parcel) (.slice a3 c.covs.length c3) (.int .i64 c.llo) (.int .i64 c.lhi) (.slice a4 c.clms.length c4);rw [hW];clear hW;(with_reducible refine(HBF.out _ X).mono ?_);rintro e w1 ⟨rfl,hx1⟩;clear HBF;have XX:=X.trans hx1;obtain⟨⟨q0,q1,q2,q3,q4,q5,q6,q7,q8,q9,q10⟩,-⟩:=HS.out w1 hx1;(go_wp2_with fail);go_ret;exact⟨by rw [HR.out];rfl,XX⟩
      · have d1 : decide (3 < c.soc) = false := decide_eq_false h1; by_cases h2 : 5 < c.covs.length
        · have d2 : decide ((5 : Int) < (c.covs.length : Int)) = true := decide_eq_true (by omega); clear h1 h2 hbig; go_enter Tryz.func68, Tryz.ntmps68
          (go_wp2_with fail);obtain⟨W,hW,X,HS,HSf,HSz⟩:=bx11 w 41 (.int .i64 c.bk.last) (.int .i64 c.bk.owners) (.slice a1 c.bk.pars.length c1) (.slice a2 c.bk.ents.length c2) (.int .i64 c.soc) (.int .i64 c.day) (.int .i64 c.parcel) (.slice a3 c.covs.length c3) (.int .i64 c.llo) (.int .i64 c.lhi) (.slice a4 c.clms.length c4);rw [hW];clear hW;(with_reducible refine(HBF.out _ X).mono ?_);rintro e w1 ⟨rfl,hx1⟩;clear HBF;have XX:=X.trans hx1;obtain⟨⟨q0,q1,q2,q3,q4,q5,q6,q7,q8,q9,q10⟩,-⟩:=HS.out w1 hx1;(go_wp2_with fail);go_ret;exact⟨by rw [HR.out];rfl,XX⟩
        · have d2 : decide ((5 : Int) < (c.covs.length : Int)) = false := decide_eq_false (by omega); have d3 : decide ((5 : Int) < (c.clms.length : Int)) = true := decide_eq_true (by omega); clear h1 h2 hbig; go_enter Tryz.func68, Tryz.ntmps68
          (go_wp2_with fail);obtain⟨W,hW,X,HS,HSf,HSz⟩:=bx11 w 41 (.int .i64 c.bk.last) (.int .i64 c.bk.owners) (.slice a1 c.bk.pars.length c1) (.slice a2 c.bk.ents.length c2) (.int .i64 c.soc) (.int .i64 c.day) (.int .i64 c.parcel) (.slice a3 c.covs.length c3) (.int .i64 c.llo) (.int .i64 c.lhi) (.slice a4 c.clms.length c4);rw [hW];clear hW;(with_reducible refine(HBF.out _ X).mono ?_);rintro e w1 ⟨rfl,hx1⟩;clear HBF;have XX:=X.trans hx1;obtain⟨⟨q0,q1,q2,q3,q4,q5,q6,q7,q8,q9,q10⟩,-⟩:=HS.out w1 hx1;(go_wp2_with fail);go_ret;exact⟨by rw [HR.out];rfl,XX⟩
    · skip
      have d1:decide (3<c.soc)=false:=decide_eq_false (by omega);have d2:decide ((5:Int)<(c.covs.length:Int))=false:=decide_eq_false (by omega);have d3:decide ((5:Int)<(c.clms.length:Int))=false:=decide_eq_false (by omega);have HHD:=hHd (HFD.head h0 hbig);have HCV:=hHd (HFD.cov h0 hbig);have HCL:=hHd (HFD.clm h0 hbig);have HOK:=hHd (HFD.ok h0 hbig);have HNC:Hid (¬(3<c.soc∨5<c.covs.length∨5<c.clms.length)):=hHd hbig;have HIC:=hHd (fun x W (hx:Ext w W) h1 h2=>IsCover_h ⟨a1,c1,a2,c2,a3,c3,a4,c4⟩ c x W (HMM.out.ext hx) h1 h2);have HMN:=hHd (fun W (hx:Ext w W) h=>Many_dh ⟨a1,c1,a2,c2,a3,c3,a4,c4⟩ c W (HMM.out.ext hx) h);have HWI:=hHd Within_h;have HOW:=hHd how;have HCD:Hid (∀x,clmB c x=(socB c x.soc&&ofR x.plo x.phi 1000)):=hHd (fun x=>rfl);have HSB:Hid (∀n,socB c n=inR n 0 (c.soc - 1)):=hHd (fun n=>rfl);clear HFD HMM hbk how hbig h0 HBG;unfold CaseA.v CaseA.b caseV bkV at*;simp only at*;go_enter Tryz.func68,Tryz.ntmps68
      (go_wp2_with fail);obtain⟨W,hW,X,HS,HSf,HSz⟩:=bx11 w 41 (.int .i64 c.bk.last) (.int .i64 c.bk.owners) (.slice a1 c.bk.pars.length c1) (.slice a2 c.bk.ents.length c2) (.int .i64 c.soc) (.int .i64 c.day) (.int .i64 c.parcel) (.slice a3 c.covs.length c3) (.int .i64 c.llo) (.int .i64 c.lhi) (.slice a4 c.clms.length c4);rw [hW];clear hW;(with_reducible refine(HBF.out _ X).mono ?_);rintro e w1 ⟨rfl,hx1⟩;clear HBF;have XX:=X.trans hx1;obtain⟨⟨q0,q1,q2,q3,q4,q5,q6,q7,q8,q9,q10⟩,-⟩:=HS.out w1 hx1;clear q0 q1 q2 q3 q4 q5 q6 q7 q8 q9 q10;by_cases hs1:c.soc<1
      · have d4 : decide (c.soc < 1) = true := decide_eq_true hs1; have HR := hHd (HHD.out (.inl hs1)); obtain ⟨⟨q0, q1, q2, q3, q4, q5, q6, q7, q8, q9, q10⟩, -⟩ := HS.out w1 hx1; (go_wp2_with fail); clear q0 q1 q2 q3 q4 q5 q6 q7 q8 q9 q10; refine wp_region_quiet (C := Ext w1) (by kernel_rfl) (by kernel_rfl) (Ext.drew EX) ?_
        rw [tl]
        repeat (first
          |go_big_quiet_skip
          | (go_big_quiet_want
             first
              |(go_big_quiet_op;go_big_quiet_on)
              | (apply Exists.intro
                 refine⟨fun w' hxw=> ?_,?_⟩
                 focus (obtain⟨⟨q0,q1,q2,q3,q4,q5,q6,q7,q8,q9,q10⟩,-⟩:=HS.out w' (hx1.trans hxw);go_simp;first|exact rfl|(first|(go_at_call 123;with_reducible refine(HE1.out w' (XX.trans hxw)).mono ?_;exact fun e w'' h=>⟨h.1,hxw.trans h.2⟩)|(go_at_call 124;with_reducible refine(HW1.out w').mono ?_;exact fun e w'' h=>⟨h.1,hxw.trans h.2⟩)|(go_at_call 21;first|(with_reducible refine(HI1.out w').mono ?_;exact fun e w'' h=>⟨h.1,hxw.trans h.2⟩)|(with_reducible refine(HI2.out w').mono ?_;exact fun e w'' h=>⟨h.1,hxw.trans h.2⟩))))
                 simp only [Act.put,List.setIfInBounds_toArray,List.set_cons_zero,List.set_cons_succ];go_big_quiet_on)))
        refine wpQuiet_nil ?_
        intro w2 hx2
        have X2:=XX.trans hx2;(go_wp2_with fail);go_ret;exact⟨by rw [HR.out];rfl,X2⟩
      · have d4 : decide (c.soc < 1) = false := decide_eq_false hs1; have hs : 1 ≤ c.soc ∧ c.soc ≤ 3 := by have := HNC.out; omega
        generalize hz1:dayB c.bk c.day=z1 at*;generalize hz2:numberB c.bk c.parcel=z2 at*;generalize hz3:ofR c.llo c.lhi 100=z3 at*;clear hz1 hz2 hz3;cases z1 with
        | false =>
          have HR:=hHd (HHD.out (.inr (.inl rfl)));obtain⟨⟨q0,q1,q2,q3,q4,q5,q6,q7,q8,q9,q10⟩,-⟩:=HS.out w1 hx1;(go_wp2_with fail);clear q0 q1 q2 q3 q4 q5 q6 q7 q8 q9 q10;refine wp_region_quiet (C:=Ext w1) (by kernel_rfl) (by kernel_rfl) (Ext.drew EX) ?_
          rw [tl]
          repeat (first
            |go_big_quiet_skip
            | (go_big_quiet_want
               first
                |(go_big_quiet_op;go_big_quiet_on)
                | (apply Exists.intro
                   refine⟨fun w' hxw=> ?_,?_⟩
                   focus (obtain⟨⟨q0,q1,q2,q3,q4,q5,q6,q7,q8,q9,q10⟩,-⟩:=HS.out w' (hx1.trans hxw);go_simp;first|exact rfl|(first|(go_at_call 123;with_reducible refine(HE1.out w' (XX.trans hxw)).mono ?_;exact fun e w'' h=>⟨h.1,hxw.trans h.2⟩)|(go_at_call 124;with_reducible refine(HW1.out w').mono ?_;exact fun e w'' h=>⟨h.1,hxw.trans h.2⟩)|(go_at_call 21;first|(with_reducible refine(HI1.out w').mono ?_;exact fun e w'' h=>⟨h.1,hxw.trans h.2⟩)|(with_reducible refine(HI2.out w').mono ?_;exact fun e w'' h=>⟨h.1,hxw.trans h.2⟩))))
                   simp only [Act.put,List.setIfInBounds_toArray,List.set_cons_zero,List.set_cons_succ];go_big_quiet_on)))
          refine wpQuiet_nil ?_
          intro w2 hx2
          have X2:=XX.trans hx2;(go_wp2_with fail);go_ret;exact⟨by rw [HR.out];rfl,X2⟩
        | true =>
          cases z2 with
          | false =>
            have HR:=hHd (HHD.out (.inr (.inr (.inl rfl))));obtain⟨⟨q0,q1,q2,q3,q4,q5,q6,q7,q8,q9,q10⟩,-⟩:=HS.out w1 hx1;(go_wp2_with fail);clear q0 q1 q2 q3 q4 q5 q6 q7 q8 q9 q10;refine wp_region_quiet (C:=Ext w1) (by kernel_rfl) (by kernel_rfl) (Ext.drew EX) ?_
            rw [tl]
            repeat (first
              |go_big_quiet_skip
              | (go_big_quiet_want
                 first
                  |(go_big_quiet_op;go_big_quiet_on)
                  | (apply Exists.intro
                     refine⟨fun w' hxw=> ?_,?_⟩
                     focus (obtain⟨⟨q0,q1,q2,q3,q4,q5,q6,q7,q8,q9,q10⟩,-⟩:=HS.out w' (hx1.trans hxw);go_simp;first|exact rfl|(first|(go_at_call 123;with_reducible refine(HE1.out w' (XX.trans hxw)).mono ?_;exact fun e w'' h=>⟨h.1,hxw.trans h.2⟩)|(go_at_call 124;with_reducible refine(HW1.out w').mono ?_;exact fun e w'' h=>⟨h.1,hxw.trans h.2⟩)|(go_at_call 21;first|(with_reducible refine(HI1.out w').mono ?_;exact fun e w'' h=>⟨h.1,hxw.trans h.2⟩)|(with_reducible refine(HI2.out w').mono ?_;exact fun e w'' h=>⟨h.1,hxw.trans h.2⟩))))
                     simp only [Act.put,List.setIfInBounds_toArray,List.set_cons_zero,List.set_cons_succ];go_big_quiet_on)))
            refine wpQuiet_nil ?_
            intro w2 hx2
            have X2:=XX.trans hx2;(go_wp2_with fail);go_ret;exact⟨by rw [HR.out];rfl,X2⟩
          | true =>
            cases z3 with
            | false =>
              have HR:=hHd (HHD.out (.inr (.inr (.inr rfl))));obtain⟨⟨q0,q1,q2,q3,q4,q5,q6,q7,q8,q9,q10⟩,-⟩:=HS.out w1 hx1;(go_wp2_with fail);clear q0 q1 q2 q3 q4 q5 q6 q7 q8 q9 q10;refine wp_region_quiet (C:=Ext w1) (by kernel_rfl) (by kernel_rfl) (Ext.drew EX) ?_
              rw [tl]
              repeat (first
                |go_big_quiet_skip
                | (go_big_quiet_want
                   first
                    |(go_big_quiet_op;go_big_quiet_on)
                    | (apply Exists.intro
                       refine⟨fun w' hxw=> ?_,?_⟩
                       focus (obtain⟨⟨q0,q1,q2,q3,q4,q5,q6,q7,q8,q9,q10⟩,-⟩:=HS.out w' (hx1.trans hxw);go_simp;first|exact rfl|(first|(go_at_call 123;with_reducible refine(HE1.out w' (XX.trans hxw)).mono ?_;exact fun e w'' h=>⟨h.1,hxw.trans h.2⟩)|(go_at_call 124;with_reducible refine(HW1.out w').mono ?_;exact fun e w'' h=>⟨h.1,hxw.trans h.2⟩)|(go_at_call 21;first|(with_reducible refine(HI1.out w').mono ?_;exact fun e w'' h=>⟨h.1,hxw.trans h.2⟩)|(with_reducible refine(HI2.out w').mono ?_;exact fun e w'' h=>⟨h.1,hxw.trans h.2⟩))))
                       simp only [Act.put,List.setIfInBounds_toArray,List.set_cons_zero,List.set_cons_succ];go_big_quiet_on)))
              refine wpQuiet_nil ?_
              intro w2 hx2
              have X2:=XX.trans hx2;(go_wp2_with fail);go_ret;exact⟨by rw [HR.out];rfl,X2⟩
            | true =>
              have HOK2:=hHd (HOK.out hs.1 rfl rfl rfl);have HHS:=hHd hs;have HI3:Hid (∀n W,Calls Tryz.prog 21 #[.int .i64 n,.int .i64 0,.int .i64 (c.soc - 1)] W fun e w'=>e= .returned (.bool (socB c n))∧Ext W w'):=hHd (fun n W=>In_h n 0 (c.soc - 1) W);have HW3:Hid (∀lo hi W,Calls Tryz.prog 124 #[.agg #[.int .i64 lo,.int .i64 hi],.int .i64 0,.int .i64 1000] W fun e w'=>e= .returned (.bool (ofR lo hi 1000))∧Ext W w'):=hHd (fun lo hi W=>Within_h lo hi 0 1000 W);have wso:IntKind.i64.wrap (c.soc - 1)=c.soc - 1:=IntWalk.i64_in _ (by omega);clear hs hs1;obtain⟨⟨q0,q1,q2,q3,q4,q5,q6,q7,q8,q9,q10⟩,-⟩:=HS.out w1 hx1;(go_wp2_with fail);clear q0 q1 q2 q3 q4 q5 q6 q7 q8 q9 q10;refine wp_region_quiet (C:=Ext w1) (by kernel_rfl) (by kernel_rfl) (Ext.drew EX) ?_
              rw [tl]
              repeat (first
                |go_big_quiet_skip
                | (go_big_quiet_want
                   first
                    |(go_big_quiet_op;go_big_quiet_on)
                    | (apply Exists.intro
                       refine⟨fun w' hxw=> ?_,?_⟩
                       focus (obtain⟨⟨q0,q1,q2,q3,q4,q5,q6,q7,q8,q9,q10⟩,-⟩:=HS.out w' (hx1.trans hxw);go_simp;first|exact rfl|(first|(go_at_call 123;with_reducible refine(HE1.out w' (XX.trans hxw)).mono ?_;exact fun e w'' h=>⟨h.1,hxw.trans h.2⟩)|(go_at_call 124;with_reducible refine(HW1.out w').mono ?_;exact fun e w'' h=>⟨h.1,hxw.trans h.2⟩)|(go_at_call 21;first|(with_reducible refine(HI1.out w').mono ?_;exact fun e w'' h=>⟨h.1,hxw.trans h.2⟩)|(with_reducible refine(HI2.out w').mono ?_;exact fun e w'' h=>⟨h.1,hxw.trans h.2⟩))))
                       simp only [Act.put,List.setIfInBounds_toArray,List.set_cons_zero,List.set_cons_succ];go_big_quiet_on)))
              refine wpQuiet_nil ?_
              intro w2 hx2
              replace hx1:=hx1.trans hx2;replace XX:=XX.trans hx2;clear hx2 HHD HI1 HI2 HW1 HE1;(go_wp2_with fail);go_loopw [4] (fun s4 wr=>∃k:Nat,k≤c.covs.length∧s4= .int .i64 k∧Hid (∀j (h:j<c.covs.length),j<k→covB c c.covs[j]=true)∧Ext W wr) (fun s _=>c.covs.length - (intOf s).toNat)
              case atStart=>exact⟨0,Nat.zero_le _,rfl,hHd (fun j _ hj=>absurd hj (Nat.not_lt_zero _)),hx1⟩
              case round=>
                clear hx1 XX;obtain⟨k,hk,rfl,HD,hx⟩:=hrel;obtain⟨wo,rfl⟩:∃x,x=wr:=⟨_,rfl⟩;have XX:=X.trans hx;obtain⟨⟨q0,q1,q2,q3,q4,q5,q6,q7,q8,q9,q10⟩,-⟩:=HS.out wo hx;by_cases hlt:k<c.covs.length
                · skip
                  obtain⟨b',off,rfl,hce⟩:=HCO.out wo XX k (by simpa using hlt);have e1:(c.covs.map Cov.c)[k]'(by simpa using hlt)=(c.covs[k]).c:=by simp
                  rw [e1] at hce;clear e1;have hk0:(0:Int)≤(k:Int):=by omega
                  have hk1:(k:Int)<(c.covs.length:Int):=by omega
                  have HB:=hHd (HCV.out k hlt)
                  have HD2:Hid (covB c c.covs[k]=true→∀j (h:j<c.covs.length),j<k+1→covB c c.covs[j]=true):=hHd (fun h0 j hj hjk=>by
                    rcases Nat.lt_or_ge j k with h|h
                    · exact HD.out j hj h
                    · obtain rfl : j = k := by omega
                      exact h0)
                  have HCE:=hHd (fun W hx=>HIC.out c.covs[k] W hx HHS.out HOW.out);have HCLL:=hHd hce;generalize covB c c.covs[k]=eb at*;generalize c.covs[k]=x at*;obtain⟨f0,f1,f2,f3,f4,f5,f6⟩:=x;simp only [Cov.c] at*;obtain⟨m0,m1,m2,m3,m4,m5,m6⟩:=hce;(go_wp2_with fail);clear q0 q1 q2 q3 q4 q5 q6 q7 q8 q9 q10 m0 m1 m2 m3 m4 m5 m6;refine wp_region_quiet (C:=Ext wo) (by kernel_rfl) (by kernel_rfl) (Ext.drew EX) ?_
                  rw [tl]
                  repeat (first
                    |go_big_quiet_skip
                    | (go_big_quiet_want
                       first
                        |(go_big_quiet_op;go_big_quiet_on)
                        | (apply Exists.intro
                           refine⟨fun w' hxw=> ?_,?_⟩
                           focus (obtain⟨⟨q0,q1,q2,q3,q4,q5,q6,q7,q8,q9,q10⟩,-⟩:=HS.out w' (hx.trans hxw);obtain⟨m0,m1,m2,m3,m4,m5,m6⟩:=Cell7.ext hxw _ _ _ HCLL.out;simp only at m0 m1 m2 m3 m4 m5 m6;go_simp;first|exact rfl|(go_at_call 125;with_reducible refine(HCE.out w' (XX.trans hxw)).mono ?_;exact fun e w'' h=>⟨h.1,hxw.trans h.2⟩))
                           simp only [Act.put,List.setIfInBounds_toArray,List.set_cons_zero,List.set_cons_succ];go_big_quiet_on)))
                  refine wpQuiet_nil ?_
                  intro w2 hx2
                  have XW:=hx.trans hx2;have XY:=XX.trans hx2;cases eb with
                  | false =>
                    have HR:=hHd (HB.out rfl);clear HB HD2;(go_wp2_with fail);go_ret;exact⟨by rw [HR.out];rfl,XY⟩
                  | true =>
                    have HD3:=hHd (HD2.out rfl);clear HB HD2;(go_wp2_with fail);go_roundw
                    case rel=>exact⟨k+1,by omega,by go_num,HD3,XW⟩
                    case measure=>simp [intOf];omega
                · obtain rfl : k = c.covs.length := by omega
                  have HD':Hid (∀j (h:j<c.covs.length),covB c c.covs[j]=true):=hHd (fun j h=>HD.out j h h);have HOK3:=hHd (HOK2.out HD'.out);clear hlt HD HOK HOK2 HCV HIC HCO;(go_wp2_with fail);go_loopw [5] (fun s5 wr=>∃k:Nat,k≤c.clms.length∧s5= .int .i64 k∧Hid (∀j (h:j<c.clms.length),j<k→clmB c c.clms[j]=true)∧Ext W wr) (fun s _=>c.clms.length - (intOf s).toNat)
                  case atStart=>exact⟨0,Nat.zero_le _,rfl,hHd (fun j _ hj=>absurd hj (Nat.not_lt_zero _)),hx⟩
                  case round =>
                    clear hx XX q0 q1 q2 q3 q4 q5 q6 q7 q8 q9 q10;obtain⟨k,hk,rfl,HD,hx⟩:=hrel;obtain⟨wo,rfl⟩:∃x,x=wr:=⟨_,rfl⟩;have XX:=X.trans hx;obtain⟨⟨q0,q1,q2,q3,q4,q5,q6,q7,q8,q9,q10⟩,-⟩:=HS.out wo hx;by_cases hlt:k<c.clms.length
                    · skip
                      obtain⟨b',off,rfl,hce⟩:=HCM.out wo XX k (by simpa using hlt);have e1:(c.clms.map Clm.c)[k]'(by simpa using hlt)=(c.clms[k]).c:=by simp
                      rw [e1] at hce;clear e1;have hk0:(0:Int)≤(k:Int):=by omega
                      have hk1:(k:Int)<(c.clms.length:Int):=by omega
                      have HB:=hHd (HCL.out k hlt);have HCE:=hHd (HCD.out c.clms[k])
                      have HD2:Hid (clmB c c.clms[k]=true→∀j (h:j<c.clms.length),j<k+1→clmB c c.clms[j]=true):=hHd (fun h0 j hj hjk=>by
                        rcases Nat.lt_or_ge j k with h|h
                        · exact HD.out j hj h
                        · obtain rfl : j = k := by omega
                          exact h0)
                      have HCLL:=hHd hce;generalize clmB c c.clms[k]=eb at*;generalize c.clms[k]=x at*;obtain⟨f0,f1,f2⟩:=x;simp only [Clm.c] at*;have HJ1:=hHd (HI3.out f0);have HJ2:=hHd (HW3.out f1 f2);generalize socB c f0=b1 at*;generalize ofR f1 f2 1000=b2 at*;obtain⟨m0,m1,m2⟩:=hce;(go_wp2_with fail);clear q0 q1 q2 q3 q4 q5 q6 q7 q8 q9 q10 m0 m1 m2;cases b1 with
                      | false =>
                        obtain rfl:eb=false:=by rw [HCE.out];rfl
                        have HR:=hHd (HB.out rfl);clear HB HD2 HCE;refine wp_region_quiet (C:=Ext wo) (by kernel_rfl) (by kernel_rfl) (Ext.drew EX) ?_
                        rw [tl]
                        repeat (first
                          |go_big_quiet_skip
                          | (go_big_quiet_want
                             first
                              |(go_big_quiet_op;go_big_quiet_on)
                              | (apply Exists.intro
                                 refine⟨fun w' hxw=> ?_,?_⟩
                                 focus (obtain⟨⟨q0,q1,q2,q3,q4,q5,q6,q7,q8,q9,q10⟩,-⟩:=HS.out w' (hx.trans hxw);obtain⟨m0,m1,m2⟩:=Cell3.ext hxw _ _ _ HCLL.out;simp only at m0 m1 m2;go_simp;first|exact rfl|(first|(go_at_call 21;with_reducible refine(HJ1.out w').mono ?_;exact fun e w'' h=>⟨h.1,hxw.trans h.2⟩)|(go_at_call 124;with_reducible refine(HJ2.out w').mono ?_;exact fun e w'' h=>⟨h.1,hxw.trans h.2⟩)))
                                 simp only [Act.put,List.setIfInBounds_toArray,List.set_cons_zero,List.set_cons_succ];go_big_quiet_on)))
                        refine wpQuiet_nil ?_
                        intro w2 hx2
                        have XW:=hx.trans hx2;have XY:=XX.trans hx2;(go_wp2_with fail);go_ret;exact⟨by rw [HR.out];rfl,XY⟩
                      | true =>
                        cases b2 with
                        | false =>
                          obtain rfl:eb=false:=by rw [HCE.out];rfl
                          have HR:=hHd (HB.out rfl);clear HB HD2 HCE;refine wp_region_quiet (C:=Ext wo) (by kernel_rfl) (by kernel_rfl) (Ext.drew EX) ?_
                          rw [tl]
                          repeat (first
                            |go_big_quiet_skip
                            | (go_big_quiet_want
                               first
                                |(go_big_quiet_op;go_big_quiet_on)
                                | (apply Exists.intro
                                   refine⟨fun w' hxw=> ?_,?_⟩
                                   focus (obtain⟨⟨q0,q1,q2,q3,q4,q5,q6,q7,q8,q9,q10⟩,-⟩:=HS.out w' (hx.trans hxw);obtain⟨m0,m1,m2⟩:=Cell3.ext hxw _ _ _ HCLL.out;simp only at m0 m1 m2;go_simp;first|exact rfl|(first|(go_at_call 21;with_reducible refine(HJ1.out w').mono ?_;exact fun e w'' h=>⟨h.1,hxw.trans h.2⟩)|(go_at_call 124;with_reducible refine(HJ2.out w').mono ?_;exact fun e w'' h=>⟨h.1,hxw.trans h.2⟩)))
                                   simp only [Act.put,List.setIfInBounds_toArray,List.set_cons_zero,List.set_cons_succ];go_big_quiet_on)))
                          refine wpQuiet_nil ?_
                          intro w2 hx2
                          have XW:=hx.trans hx2;have XY:=XX.trans hx2;(go_wp2_with fail);go_ret;exact⟨by rw [HR.out];rfl,XY⟩
                        | true =>
                          obtain rfl:eb=true:=by rw [HCE.out];rfl
                          have HD3:=hHd (HD2.out rfl);clear HB HD2 HCE;refine wp_region_quiet (C:=Ext wo) (by kernel_rfl) (by kernel_rfl) (Ext.drew EX) ?_
                          rw [tl]
                          repeat (first
                            |go_big_quiet_skip
                            | (go_big_quiet_want
                               first
                                |(go_big_quiet_op;go_big_quiet_on)
                                | (apply Exists.intro
                                   refine⟨fun w' hxw=> ?_,?_⟩
                                   focus (obtain⟨⟨q0,q1,q2,q3,q4,q5,q6,q7,q8,q9,q10⟩,-⟩:=HS.out w' (hx.trans hxw);obtain⟨m0,m1,m2⟩:=Cell3.ext hxw _ _ _ HCLL.out;simp only at m0 m1 m2;go_simp;first|exact rfl|(first|(go_at_call 21;with_reducible refine(HJ1.out w').mono ?_;exact fun e w'' h=>⟨h.1,hxw.trans h.2⟩)|(go_at_call 124;with_reducible refine(HJ2.out w').mono ?_;exact fun e w'' h=>⟨h.1,hxw.trans h.2⟩)))
                                   simp only [Act.put,List.setIfInBounds_toArray,List.set_cons_zero,List.set_cons_succ];go_big_quiet_on)))
                          refine wpQuiet_nil ?_
                          intro w2 hx2
                          have XW:=hx.trans hx2;have XY:=XX.trans hx2;(go_wp2_with fail);go_roundw
                          case rel=>exact⟨k+1,by omega,by go_num,HD3,XW⟩
                          case measure=>simp [intOf];omega
                    · obtain rfl : k = c.clms.length := by omega
                      have HD':Hid (∀j (h:j<c.clms.length),clmB c c.clms[j]=true):=hHd (fun j h=>HD.out j h h);obtain⟨hrs,hre⟩:=HOK3.out HD'.out;have HR:=hHd hre;have HMC:=hHd (fun W hx=>HMN.out W hx hrs);clear hlt HD hrs hre HOK3 HMN HCL;generalize manyC c=mm at*;(go_wp2_with fail);(with_reducible refine(HMC.out _ XX).mono ?_);rintro e w5 ⟨rfl,hx5⟩;have X5:=XX.trans hx5;by_cases hmm:2000<mm
                      · have d5:decide (2000<mm)=true:=decide_eq_true hmm;have HR2:Hid (caseD c=3):=hHd (by rw [HR.out,if_pos hmm]);clear HR;(go_wp2_with fail);go_ret;exact⟨by rw [HR2.out];rfl,X5⟩
                      · have d5:decide (2000<mm)=false:=decide_eq_false hmm;have HR2:Hid (caseD c=0):=hHd (by rw [HR.out,if_neg hmm]);clear HR;(go_wp2_with fail);go_ret;exact⟨by rw [HR2.out];rfl,X5⟩
  · skip
    have HR:=hHd (HFD.bk h0);have hb:(bookE c.bk !=0)=true:=by rw [bne_iff_ne];exact h0
    clear HFD HMM;unfold CaseA.v CaseA.b caseV bkV at*;simp only at*;generalize bookE c.bk=bb at*;clear h0;go_enter Tryz.func68,Tryz.ntmps68
    (go_wp2_with fail);obtain⟨W,hW,X,HS,HSf,HSz⟩:=bx11 w 41 (.int .i64 c.bk.last) (.int .i64 c.bk.owners) (.slice a1 c.bk.pars.length c1) (.slice a2 c.bk.ents.length c2) (.int .i64 c.soc) (.int .i64 c.day) (.int .i64 c.parcel) (.slice a3 c.covs.length c3) (.int .i64 c.llo) (.int .i64 c.lhi) (.slice a4 c.clms.length c4);rw [hW];clear hW;(with_reducible refine(HBF.out _ X).mono ?_);rintro e w1 ⟨rfl,hx1⟩;clear HBF;have XX:=X.trans hx1;obtain⟨⟨q0,q1,q2,q3,q4,q5,q6,q7,q8,q9,q10⟩,-⟩:=HS.out w1 hx1;(go_wp2_with fail);go_ret;exact⟨by rw [HR.out];rfl,XX⟩
end Go.Proofs.YtegkdnfeceomdaaGreat
namespace Go.Hs
open Go.RowKit
theorem rngS_of {c:DCas} (h:CasS c):RngS c:=by
 have hR:=rngsD_ok h;refine⟨fun e he=> ?_,fun e he=> ?_,?_,fun e he=> ?_⟩
 ·have:=hR (e.dlo,e.dhi) (by simp only [rngsD,List.mem_append,List.mem_map];exact .inl ⟨e,he,rfl⟩);simp only at this;omega
 ·have:=hR (e.slo,e.shi) (by simp only [rngsD,List.mem_append,List.mem_map];exact .inr (.inl ⟨e,he,rfl⟩));simp only at this;omega
 ·have:=h.loss;omega
 ·have:=hR (e.slo,e.shi) (by simp only [rngsD,List.mem_append,List.mem_map];exact .inr (.inr (.inl ⟨e,he,rfl⟩)));simp only at this;omega
end Go.Hs
