/- Contracts of layer 1's reference: Fault. Printed by gen_hh.py. -/
import Derived.Test.YtegkdnfeceomdaaGreatKDC1
import Derived.Test.YtegkdnfeceomdaaGreatKDC3
import Derived.Test.YtegkdnfeceomdaaGreatKDA4
set_option maxRecDepth 100000
set_option maxHeartbeats 16000000
set_option linter.unusedSimpArgs false
set_option linter.unusedVariables false
namespace Go.Hs
open Go.RowKit
structure FauS (b:Bk):Prop where
 big:4<b.owners∨4<b.pars.length∨6<b.ents.length→bookE b=3
 head:¬(4<b.owners∨4<b.pars.length∨6<b.ents.length)→(inR b.last 0 30=false∨b.owners<1)→bookE b=1
 par:¬(4<b.owners∨4<b.pars.length∨6<b.ents.length)→∀k (h:k<b.pars.length),parB b b.pars[k]=false→bookE b=1
 ent:¬(4<b.owners∨4<b.pars.length∨6<b.ents.length)→∀k (h:k<b.ents.length),entB b b.ents[k]=false→bookE b=1
 ok:¬(4<b.owners∨4<b.pars.length∨6<b.ents.length)→inR b.last 0 30=true→1≤b.owners→(∀k (h:k<b.pars.length),parB b b.pars[k]=true)→(∀k (h:k<b.ents.length),entB b b.ents[k]=true)→
  (∀e∈b.ents,0≤e.dlo∧e.dlo≤e.dhi∧e.dhi≤900)∧(∀p∈b.pars,0≤p.slo∧p.slo≤p.shi∧p.shi≤900)∧bookE b=if 1000<manyRef b then 3 else 0
theorem fauS (b:Bk):FauS b:=by
 have hall:∀ {α:Type} (l:List α) (p:α→Bool) (k:Nat) (h:k<l.length),p l[k]=false→l.all p=false:=fun l p k h e=>by
  rw [List.all_eq_false];exact⟨l[k],List.getElem_mem h,by simp [e]⟩
 refine⟨fun h=>by unfold bookE;rw [if_pos h],fun h h2=> ?_,fun h k hk e=> ?_,fun h k hk e=> ?_,fun h h1 h2 h3 h4=> ?_⟩
 ·unfold bookE; rw [if_neg h, if_neg]; intro hc
  simp only [Bool.and_eq_true,decide_eq_true_eq] at hc;rcases h2 with h2|h2
  ·rw [h2] at hc;cases hc.1
  ·omega
 ·unfold bookE; rw [if_neg h, if_neg]; intro hc
  simp only [Bool.and_eq_true] at hc;rw [hall _ _ k hk e] at hc;cases hc.2.2.1
 ·unfold bookE; rw [if_neg h, if_neg]; intro hc
  simp only [Bool.and_eq_true] at hc;rw [hall _ _ k hk e] at hc;cases hc.2.2.2
 ·have hp : b.pars.all (parB b) = true := List.all_eq_true.2 (fun x hx => by
   obtain⟨k,hk,rfl⟩:=List.getElem_of_mem hx;exact h3 k hk)
  have he:b.ents.all (entB b)=true:=List.all_eq_true.2 (fun x hx=>by
   obtain⟨k,hk,rfl⟩:=List.getElem_of_mem hx;exact h4 k hk)
  have hl:=inR_iff.1 h1
  have re:∀e∈b.ents,0≤e.dlo∧e.dlo≤e.dhi∧e.dhi≤900:=fun e hm=>by
   have:=List.all_eq_true.1 he e hm;simp only [entB,Bool.and_eq_true,daysB_iff] at this;have:=this.1.2;omega
  have rp:∀p∈b.pars,0≤p.slo∧p.slo≤p.shi∧p.shi≤900:=fun p hm=>by
   have:=List.all_eq_true.1 hp p hm;simp only [parB,Bool.and_eq_true,daysB_iff] at this;have:=this.2.2;omega
  refine⟨re,rp,?_⟩
  have hr:∀r∈rngsB b,r.1≤r.2:=fun r hr=>by
   rw [rngsB_eq,List.mem_append] at hr;rcases hr with hr|hr
   ·obtain⟨e,he,rfl⟩:=List.mem_map.1 hr;exact(re e he).2.1
   ·obtain⟨e,he,rfl⟩:=List.mem_map.1 hr;exact(rp e he).2.1
  unfold bookE;rw [if_neg h,if_pos (by rw [h1,hp,he];simp [h2])];have h5:=manyL_lt (cap:=1000) (by omega) hr;have h6:=manyTo_eq (top:=2000) (by omega) hr (n:=1) (by omega);rw [Int.min_eq_left (by omega),Int.one_mul] at h6
  have e:(1000<manyRef b)↔(1000<manyL 1000 (rngsB b)):=by
   rw [h5];unfold manyRef;rw [h6];omega
  by_cases hx:1000<manyRef b
  ·rw [if_pos hx,if_pos (e.1 hx)]
  ·rw [if_neg hx,if_neg (fun h=>hx (e.2 h))]
end Go.Hs
namespace Go.Proofs.YtegkdnfeceomdaaGreat
open Go.RowKit Go.Hs
attribute [local irreducible] World.setCell World.alloc
theorem Fault_h (b : Bk) (v : Value) (w : World) (hv : BkV w v b) :
    Calls Tryz.prog 122 #[v] w fun e w'=>e= .returned (.int .i64 (bookE b))∧Ext w w':=by
  have HFS:=fauS b;have HV:=hHd hv;obtain⟨a1,c1,a2,c2,rfl,hp,he,hp1,he1,hp2,he2⟩:=hv.open;by_cases hbig:4<b.owners∨4<b.pars.length∨6<b.ents.length
  · have HR := hHd (HFS.big hbig); generalize bookE b = r at *; clear HFS hv hp he HV; unfold bkV; generalize b.last = last at *; generalize b.owners = ow at *; generalize b.pars.length = n1 at *; generalize b.ents.length = n2 at *; by_cases h1 : 4 < ow
    · have d1 : decide (4 < ow) = true := decide_eq_true h1; go_enter Tryz.func122, Tryz.ntmps122
      (go_wp2_with fail);go_ret;exact⟨by rw [HR.out];rfl,EX⟩
    · have d1 : decide (4 < ow) = false := decide_eq_false h1; by_cases h2 : 4 < n1
      · have d2 : decide ((4 : Int) < (n1 : Int)) = true := decide_eq_true (by omega); clear h1 h2 hbig; go_enter Tryz.func122, Tryz.ntmps122
        (go_wp2_with fail);go_ret;exact⟨by rw [HR.out];rfl,EX⟩
      · have d2 : decide ((4 : Int) < (n1 : Int)) = false := decide_eq_false (by omega); have d3 : decide ((6 : Int) < (n2 : Int)) = true := decide_eq_true (by omega); clear h1 h2 hbig; go_enter Tryz.func122, Tryz.ntmps122
        (go_wp2_with fail);go_ret;exact⟨by rw [HR.out];rfl,EX⟩
  · have HE : Hid (∀ W, Ext w W → Cells8 W a2 (b.ents.map Ent.c)) := hHd (fun W hx => he.ext hx); have HP : Hid (∀ W, Ext w W → Cells4 W a1 (b.pars.map Par.c)) := hHd (fun W hx => hp.ext hx); have d1 : decide (4 < b.owners) = false := decide_eq_false (by omega); have d2 : decide ((4 : Int) < (b.pars.length : Int)) = false := decide_eq_false (by omega); have d3 : decide ((6 : Int) < (b.ents.length : Int)) = false := decide_eq_false (by omega); have HIN := hHd (In_h b.last 0 30); have hhd := HFS.head hbig; by_cases hh : inR b.last 0 30 = false ∨ b.owners < 1
    · have HR := hHd (hhd hh); generalize bookE b = r at *; clear HFS hhd hv hp he HV HE HP; unfold bkV; cases hin : inR b.last 0 30 with
      | false =>
        rw [hin] at HIN;generalize b.last=last at*;generalize b.owners=ow at*;clear hbig hh hin;go_enter Tryz.func122,Tryz.ntmps122
        (go_wp2_with fail);(with_reducible refine(HIN.out _).mono ?_);rintro e w1 ⟨rfl,hx1⟩;(go_wp2_with fail);go_ret;exact⟨by rw [HR.out];rfl,EX⟩
      | true =>
        rw [hin] at HIN;have d4:decide (b.owners<1)=true:=decide_eq_true (by rcases hh with h|h<;>first|(rw [hin] at h;cases h;done)|exact h);generalize b.last=last at*;generalize b.owners=ow at*;clear hbig hh hin;go_enter Tryz.func122,Tryz.ntmps122
        (go_wp2_with fail);obtain⟨W,hW,X,HS,HSf,HSz⟩:=bx4 w 35 (.int .i64 last) (.int .i64 ow) (.slice a1 b.pars.length c1) (.slice a2 b.ents.length c2);rw [hW];clear hW;(with_reducible refine(HIN.out _).mono ?_);rintro e w1 ⟨rfl,hx1⟩;obtain⟨⟨q0,q1,q2,q3⟩,-⟩:=HS.out w1 hx1;have XX:=X.trans hx1;(go_wp2_with fail);go_ret;exact⟨by rw [HR.out];rfl,XX⟩
    · skip
      have hin:inR b.last 0 30=true:=by
        cases h:inR b.last 0 30 with
        |true=>rfl
        |false=>exact absurd (.inl h) hh
      have how:1≤b.owners∧b.owners≤4:=by omega
      have d4:decide (b.owners<1)=false:=decide_eq_false (by omega);have HPA:=hHd (HFS.par hbig);have HEN:=hHd (HFS.ent hbig);have HOK:=hHd (HFS.ok hbig hin how.1);have HI1:Hid (∀n W,Calls Tryz.prog 21 #[.int .i64 n,.int .i64 0,.int .i64 (b.owners - 1)] W fun e w'=>e= .returned (.bool (ownerB b n))∧Ext W w'):=hHd (fun n W=>In_h n 0 (b.owners - 1) W);have HI2:=hHd (fun n W=>In_h n 0 1000 W);have HID:=hHd (fun lo hi W (hx:Ext w W)=>IsDays_h b _ lo hi W (HV.out.ext hx));have HIE:=hHd (fun e W (hx:Ext w W)=>IsEntry_h b _ e W (HV.out.ext hx) how);have HMA:=hHd (fun W (hx:Ext w W) h1 h2=>Many_h b _ W (HV.out.ext hx) h1 h2);have hwo:IntKind.i64.wrap (b.owners - 1)=b.owners - 1:=IntWalk.i64_in _ (by omega);rw [hin] at HIN;have HPB:Hid (∀p,parB b p=(ownerB b p.owner&&(inR p.value 0 1000&&daysB b p.slo p.shi))):=hHd (fun p=>rfl);clear HFS hv hp he hh hhd HV hin how;unfold bkV at*;generalize bookE b=r at*;go_enter Tryz.func122,Tryz.ntmps122
      (go_wp2_with fail);obtain⟨W,hW,X,HS,HSf,HSz⟩:=bx4 w 35 (.int .i64 b.last) (.int .i64 b.owners) (.slice a1 b.pars.length c1) (.slice a2 b.ents.length c2);rw [hW];clear hW;(with_reducible refine(HIN.out _).mono ?_);rintro e w1 ⟨rfl,hx1⟩;clear HIN;obtain⟨⟨q0,q1,q2,q3⟩,-⟩:=HS.out w1 hx1;(go_wp2_with fail);go_loopw [3] (fun s3 wr=>∃k:Nat,k≤b.pars.length∧s3= .int .i64 k∧Hid (∀j (h:j<b.pars.length),j<k→parB b b.pars[j]=true)∧Ext W wr) (fun s _=>b.pars.length - (intOf s).toNat)
      case atStart=>exact⟨0,Nat.zero_le _,rfl,hHd (fun j _ hj=>absurd hj (Nat.not_lt_zero _)),hx1⟩
      case round=>
        obtain⟨k,hk,rfl,HD,hx⟩:=hrel;obtain⟨wo,rfl⟩:∃x,x=wr:=⟨_,rfl⟩;clear q0 q1 q2 q3;obtain⟨⟨q0,q1,q2,q3⟩,-⟩:=HS.out wo hx;have XX:=X.trans hx;by_cases hlt:k<b.pars.length
        · skip
          obtain⟨b',off,rfl,hce⟩:=HP.out wo XX k (by simpa using hlt);have e1:(b.pars.map Par.c)[k]'(by simpa using hlt)=(b.pars[k]).c:=by simp
          rw [e1] at hce;obtain⟨m0,m1,m2,m3⟩:=hce;simp only [Par.c] at m0 m1 m2 m3;clear e1;have hk0:(0:Int)≤(k:Int):=by omega
          have hk1:(k:Int)<(b.pars.length:Int):=by omega
          have HB:=hHd (HPA.out k hlt);have HPE:=hHd (HPB.out b.pars[k])
          have HD2:Hid (parB b b.pars[k]=true→∀j (h:j<b.pars.length),j<k+1→parB b b.pars[j]=true):=hHd (fun h0 j hj hjk=>by
            rcases Nat.lt_or_ge j k with h|h
            · exact HD.out j hj h
            · obtain rfl : j = k := by omega
              exact h0)
          generalize b.pars[k]=p at*;obtain⟨po,pv,ps,pt⟩:=p;simp only at*;have HC1:=hHd (HI1.out po);have HC2:=hHd (HI2.out pv);have HC3:=hHd (HID.out ps pt);generalize ownerB b po=b1 at*;generalize inR pv 0 1000=b2 at*;generalize daysB b ps pt=b3 at*;generalize parB b _=pb at*;go_upto_region 9 with fail
          have HSN:Hid (∀W',Ext (wo.alloc (.cells #[.int .i64 po,.int .i64 pv,.int .i64 ps,.int .i64 pt] 214)) W'→(W'.cell? ⟨wo.heap.size,0,none⟩=some (.int .i64 po)∧W'.cell? ⟨wo.heap.size,1,none⟩=some (.int .i64 pv)∧W'.cell? ⟨wo.heap.size,2,none⟩=some (.int .i64 ps)∧W'.cell? ⟨wo.heap.size,3,none⟩=some (.int .i64 pt))∧(W'.cell? ⟨w.heap.size,0,none⟩=some (.int .i64 b.last)∧W'.cell? ⟨w.heap.size,1,none⟩=some (.int .i64 b.owners)∧W'.cell? ⟨w.heap.size,2,none⟩=some (.slice (some ⟨b',off,none⟩) b.pars.length c1)∧W'.cell? ⟨w.heap.size,3,none⟩=some (.slice a2 b.ents.length c2))∧Ext W W'∧Ext w W'):=hHd (fun W' h=>⟨⟨h.keep (by simp [go_sem]),h.keep (by simp [go_sem]),h.keep (by simp [go_sem]),h.keep (by simp [go_sem])⟩,(HS.out W' (hx.trans (Ext.trans ((Ext.refl wo).alloc _) h))).1,hx.trans (Ext.trans ((Ext.refl wo).alloc _) h),XX.trans (Ext.trans ((Ext.refl wo).alloc _) h)⟩);have YY:=Ext.refl (wo.alloc (.cells #[.int .i64 po,.int .i64 pv,.int .i64 ps,.int .i64 pt] 214));generalize (wo.alloc (.cells #[.int .i64 po,.int .i64 pv,.int .i64 ps,.int .i64 pt] 214))=W2 at*;clear q0 q1 q2 q3 m0 m1 m2 m3 hx XX;obtain⟨⟨m0,m1,m2,m3⟩,⟨q0,q1,q2,q3⟩,XW,XX⟩:=HSN.out _ YY;(go_wp2_with fail);(with_reducible refine(HC1.out _).mono ?_);rintro e v2 ⟨rfl,hy⟩;replace YY:=YY.trans hy;clear hy;clear m0 m1 m2 m3 q0 q1 q2 q3 XW XX;obtain⟨⟨m0,m1,m2,m3⟩,⟨q0,q1,q2,q3⟩,XW,XX⟩:=HSN.out _ YY;cases b1 with
          | false =>
            obtain rfl:pb=false:=by rw [HPE.out];rfl
            have HR:=hHd (HB.out rfl);clear HB HPE HD2;(go_wp2_with fail);go_ret;exact⟨by rw [HR.out];rfl,XX⟩
          | true =>
            (go_wp2_with fail);(with_reducible refine(HC2.out _).mono ?_);rintro e v2 ⟨rfl,hy⟩;replace YY:=YY.trans hy;clear hy;clear m0 m1 m2 m3 q0 q1 q2 q3 XW XX;obtain⟨⟨m0,m1,m2,m3⟩,⟨q0,q1,q2,q3⟩,XW,XX⟩:=HSN.out _ YY;cases b2 with
            | false =>
              obtain rfl:pb=false:=by rw [HPE.out];rfl
              have HR:=hHd (HB.out rfl);clear HB HPE HD2;(go_wp2_with fail);go_ret;exact⟨by rw [HR.out];rfl,XX⟩
            | true =>
              (go_wp2_with fail);(with_reducible refine(HC3.out _ XX).mono ?_);rintro e v3 ⟨rfl,hy⟩;replace YY:=YY.trans hy;clear hy;clear m0 m1 m2 m3 q0 q1 q2 q3 XW XX;obtain⟨⟨m0,m1,m2,m3⟩,⟨q0,q1,q2,q3⟩,XW,XX⟩:=HSN.out _ YY;cases b3 with
              | false =>
                obtain rfl:pb=false:=by rw [HPE.out];rfl
                have HR:=hHd (HB.out rfl);clear HB HPE HD2;(go_wp2_with fail);go_ret;exact⟨by rw [HR.out];rfl,XX⟩
              | true =>
                obtain rfl:pb=true:=by rw [HPE.out];rfl
                have HD3:=hHd (HD2.out rfl);clear HB HPE HD2;(go_wp2_with fail);go_roundw
                case rel=>exact⟨k+1,by omega,by go_num,HD3,XW⟩
                case measure=>simp [intOf];omega
        · obtain rfl : k = b.pars.length := by omega
          have HD':Hid (∀j (h:j<b.pars.length),parB b b.pars[j]=true):=hHd (fun j h=>HD.out j h h);have HOK2:=hHd (HOK.out HD'.out);clear hlt HD HOK HPA HPB HI1 HI2 HID HP;(go_wp2_with fail);go_loopw [5] (fun s5 wr=>∃k:Nat,k≤b.ents.length∧s5= .int .i64 k∧Hid (∀j (h:j<b.ents.length),j<k→entB b b.ents[j]=true)∧Ext W wr) (fun s _=>b.ents.length - (intOf s).toNat)
          case atStart=>exact⟨0,Nat.zero_le _,rfl,hHd (fun j _ hj=>absurd hj (Nat.not_lt_zero _)),hx⟩
          case round=>
            obtain⟨k,hk,rfl,HD,hx⟩:=hrel;obtain⟨wo,rfl⟩:∃x,x=wr:=⟨_,rfl⟩;clear q0 q1 q2 q3;obtain⟨⟨q0,q1,q2,q3⟩,-⟩:=HS.out wo hx;clear XX;have XX:=X.trans hx;by_cases hlt:k<b.ents.length
            · obtain ⟨b', off, rfl, hce⟩ := HE.out wo XX k (by simpa using hlt); have e1 : (b.ents.map Ent.c)[k]'(by simpa using hlt) = (b.ents[k]).c := by simp
              rw [e1] at hce;clear e1;have hk0:(0:Int)≤(k:Int):=by omega
              have hk1:(k:Int)<(b.ents.length:Int):=by omega
              have HB:=hHd (HEN.out k hlt)
              have HD2:Hid (entB b b.ents[k]=true→∀j (h:j<b.ents.length),j<k+1→entB b b.ents[j]=true):=hHd (fun h0 j hj hjk=>by
                rcases Nat.lt_or_ge j k with h|h
                · exact HD.out j hj h
                · obtain rfl : j = k := by omega
                  exact h0)
              have HCE:=hHd (HIE.out b.ents[k]);have HCL:=hHd hce;obtain⟨m0,m1,m2,m3,m4,m5,m6,m7⟩:=hce;generalize entB b b.ents[k]=eb at*;generalize b.ents[k]=e at*;obtain⟨f0,f1,f2,f3,f4,f5,f6,f7⟩:=e;simp only [Ent.c] at*;(go_wp2_with fail);clear m0 m1 m2 m3 m4 m5 m6 m7 q0 q1 q2 q3;refine wp_region_quiet (C:=Ext wo) (by kernel_rfl) (by kernel_rfl) (Ext.drew EX) ?_
              rw [tl]
              repeat (first
                |go_big_quiet_skip
                | (go_big_quiet_want
                   first
                    |(go_big_quiet_op;go_big_quiet_on)
                    | (apply Exists.intro
                       refine⟨fun w' hxw=> ?_,?_⟩
                       focus (obtain⟨⟨q0,q1,q2,q3⟩,-⟩:=HS.out w' (hx.trans hxw);obtain⟨m0,m1,m2,m3,m4,m5,m6,m7⟩:=Cell8.ext hxw _ _ _ HCL.out;simp only at m0 m1 m2 m3 m4 m5 m6 m7;go_simp;first|exact rfl|(go_at_call 159;with_reducible refine(HCE.out w' (XX.trans hxw)).mono ?_;exact fun e w'' h=>⟨h.1,hxw.trans h.2⟩))
                       simp only [Act.put,List.setIfInBounds_toArray,List.set_cons_zero,List.set_cons_succ];go_big_quiet_on)))
              refine wpQuiet_nil ?_
              intro w2 hx2
              have XW:=hx.trans hx2;have XY:=XX.trans hx2;cases eb with
              | false =>
                have HR:=hHd (HB.out rfl);clear HB HD2;(go_wp2_with fail);go_ret;exact⟨by rw [HR.out];rfl,XY⟩
              | true =>
                have HD3:=hHd (HD2.out rfl);clear HB HD2;(go_wp2_with fail);go_roundw
                case rel=>exact⟨k+1,by omega,by go_num,HD3,XW⟩
                case measure=>simp [intOf];omega
            · obtain rfl : k = b.ents.length := by omega
              have HD'':Hid (∀j (h:j<b.ents.length),entB b b.ents[j]=true):=hHd (fun j h=>HD.out j h h);obtain⟨re,rp,hr⟩:=HOK2.out HD''.out;have HR:=hHd hr;have HMA2:=hHd (fun W hx=>HMA.out W hx re rp);clear hlt HD re rp hr HOK2 HMA HEN HIE;generalize manyRef b=mm at*;(go_wp2_with fail);(with_reducible refine(HMA2.out _ XX).mono ?_);rintro e w5 ⟨rfl,hx5⟩;have X5:=XX.trans hx5;by_cases hm:1000<mm
              · have d5:decide (1000<mm)=true:=decide_eq_true hm;have HR2:Hid (r=3):=hHd (by rw [HR.out,if_pos hm]);clear HR;(go_wp2_with fail);go_ret;exact⟨by rw [HR2.out];rfl,X5⟩
              · have d5:decide (1000<mm)=false:=decide_eq_false hm;have HR2:Hid (r=0):=hHd (by rw [HR.out,if_neg hm]);clear HR;(go_wp2_with fail);go_ret;exact⟨by rw [HR2.out];rfl,X5⟩
end Go.Proofs.YtegkdnfeceomdaaGreat
