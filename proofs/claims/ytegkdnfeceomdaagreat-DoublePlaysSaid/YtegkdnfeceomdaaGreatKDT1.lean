/- Bundled: what the texts HW HTU say one after another. -/
import Derived.Test.YtegkdnfeceomdaaGreatKDW1
import Derived.Test.YtegkdnfeceomdaaGreatKDC4
import Derived.Test.YtegkdnfeceomdaaGreatKDA4
import Derived.Test.YtegkdnfeceomdaaGreatKDA27
import Derived.Test.YtegkdnfeceomdaaGreatKDA26
import Derived.Test.YtegkdnfeceomdaaGreatKDC1
import Derived.Test.YtegkdnfeceomdaaGreatKDC2
import Derived.Test.YtegkdnfeceomdaaGreatKDA24
set_option maxRecDepth 100000
set_option maxHeartbeats 16000000
set_option linter.unusedSimpArgs false
set_option linter.unusedVariables false
namespace Go.Proofs.YtegkdnfeceomdaaGreat
open Go.RowKit Go.Hs
attribute [local irreducible] World.setCell World.alloc
theorem IsListed_h (b : Bk) (v : Value) (days sown : List Int) (vd vs : Value) (w : World) (hv : BkV w v b) (hd : IntsV w vd days) (hs : IntsV w vs sown) :
    Calls Tryz.prog 88 #[v,.agg #[vd,vs]] w fun e w'=>e= .returned (.bool (listedK b days sown))∧Ext w w':=by
  have HE:=hHd (listedH_eq b days sown);have HIN:=hHd In_h;obtain⟨a1,c1,a2,c2,rfl,hp,he,hp1,he1,hp2,he2⟩:=hv.open;obtain⟨ad,cd,rfl,-,hld,-⟩:=id hd;obtain⟨as',cs,rfl,-,hls,-⟩:=id hs;have HLE:=hHd (fun W (hx:Ext w W)=>Cells8.ext hx he);have HLP:=hHd (fun W (hx:Ext w W)=>Cells4.ext hx hp)
  have HLD:Hid (∀W,Ext w W→∀i,i<days.length→∃b' off,ad=some ⟨b',off,none⟩∧W.cell? ⟨b',off+i,none⟩=some (.int .i64 (days.getD i 0))):=hHd (fun W hx i hi=>by
    obtain⟨p,c',e,-,hc⟩:=IntsV.cellsI (hd.ext hx);cases e
    exact hc i hi)
  have HLS:Hid (∀W,Ext w W→∀i,i<sown.length→∃b' off,as'=some ⟨b',off,none⟩∧W.cell? ⟨b',off+i,none⟩=some (.int .i64 (sown.getD i 0))):=hHd (fun W hx i hi=>by
    obtain⟨p,c',e,-,hc⟩:=IntsV.cellsI (hs.ext hx);cases e
    exact hc i hi)
  clear hv hp he hd hs;unfold bkV;generalize b.last=last at*;generalize b.owners=ow at*;obtain⟨r,hr⟩:∃r,r=listedK b days sown:=⟨_,rfl⟩;rw [←hr] at HE⊢;clear hr;by_cases h1:days.length=b.ents.length
  · by_cases h2 : sown.length = b.pars.length
    · skip
      have d1:((days.length:Int) !=(b.ents.length:Int))=false:=by simp [h1]
      have d2:((sown.length:Int) !=(b.pars.length:Int))=false:=by simp [h2]
      replace HE:Hid (r=(inTo days (entR b) b.ents.length&&inTo sown (parR b) b.pars.length)):=hHd (by rw [HE.out,decide_eq_true h1,decide_eq_true h2];rfl);have H1:=hHd h1;have H2:=hHd h2;replace HLD:Hid (∀W,Ext w W→∀i,i<b.ents.length→∃b' off,ad=some ⟨b',off,none⟩∧W.cell? ⟨b',off+i,none⟩=some (.int .i64 (days.getD i 0))):=hHd (fun W hx i hi=>HLD.out W hx i (by have:=H1.out;omega));replace HLS:Hid (∀W,Ext w W→∀i,i<b.pars.length→∃b' off,as'=some ⟨b',off,none⟩∧W.cell? ⟨b',off+i,none⟩=some (.int .i64 (sown.getD i 0))):=hHd (fun W hx i hi=>HLS.out W hx i (by have:=H2.out;omega));have HGE:Hid (b.ents.length≤1000∧days.length=b.ents.length):=hHd ⟨by omega,h1⟩;have HGP:Hid (b.pars.length≤1000∧sown.length=b.pars.length):=hHd ⟨by omega,h2⟩;clear h1 h2;go_enter Tryz.func88,Tryz.ntmps88
      go_upto_region 1 with fail
      obtain⟨W,hW,X,HS,HSf,HSz⟩:=bx4_2 w 35 (.int .i64 last) (.int .i64 ow) (.slice a1 b.pars.length c1) (.slice a2 b.ents.length c2) 43 (.slice ad days.length cd) (.slice as' sown.length cs);rw [hW];clear hW;obtain⟨⟨q0,q1,q2,q3,t0,t1⟩,-⟩:=HS.out W (Ext.refl _);have HC5:Hid (∀V,Ext W V→V.cell? ⟨w.heap.size+1,0,none⟩=some (.slice ad days.length cd)∧V.cell? ⟨w.heap.size,3,none⟩=some (.slice a2 b.ents.length c2)):=hHd (fun V h=>by obtain⟨⟨-,-,-,q3,t0,-⟩,-⟩:=HS.out V h;exact⟨t0,q3⟩);have HC6:Hid (∀V,Ext W V→V.cell? ⟨w.heap.size+1,1,none⟩=some (.slice as' sown.length cs)∧V.cell? ⟨w.heap.size,2,none⟩=some (.slice a1 b.pars.length c1)):=hHd (fun V h=>by obtain⟨⟨-,-,q2,-,-,t1⟩,-⟩:=HS.out V h;exact⟨t1,q2⟩);have hx:=Ext.refl W;have XX:=X.trans hx;clear HS HSf;(go_wp2_with fail);clear q0 q1 q2 q3 t0 t1;go_loopw [5] (fun s wr=>∃k:Nat,k≤b.ents.length∧s= .int .i64 k∧Hid (inTo days (entR b) k=true)∧Ext W wr) (fun s _=>b.ents.length - (intOf s).toNat)
      case atStart=>exact⟨0,Nat.zero_le _,rfl,hHd (by simp [inTo]),hx⟩
      case round=>
        clear hx XX;obtain⟨k,hk,rfl,HD,hx⟩:=hrel;obtain⟨wo,rfl⟩:∃x,x=wr:=⟨_,rfl⟩;have XX:=X.trans hx;have t0:=(HC5.out wo hx).1;have q3:=(HC5.out wo hx).2;by_cases hlt:k<b.ents.length
        · skip
          obtain⟨b1,o1,rfl,p1⟩:=HLD.out wo XX k hlt;obtain⟨b',off,rfl,hce⟩:=HLE.out wo XX k (by simpa using hlt);have e1:(b.ents.map Ent.c)[k]'(by simpa using hlt)=(b.ents[k]).c:=by simp
          rw [e1] at hce;have m0:=hce.2.2.2.2.2.2.1;have m1:=hce.2.2.2.2.2.2.2;simp only [Ent.c] at m0 m1;have HNX:Hid (inTo days (entR b) (k+1)=inR (days.getD k 0) b.ents[k].dlo b.ents[k].dhi):=hHd (by rw [inTo_next,HD.out,entR_get hlt];rfl);have HBD:Hid (inR (days.getD k 0) b.ents[k].dlo b.ents[k].dhi=false→inTo days (entR b) (b.ents.length)=false):=hHd (fun h=>inTo_false hlt (by rw [entR_get hlt];exact h));generalize days.getD k 0=x at*;generalize b.ents[k].dlo=lo at*;generalize b.ents[k].dhi=hi at*;have HI:=hHd (HIN.out x lo hi);have hkb:=HGE.out;have hk0:(0:Int)≤(k:Int):=by omega
          have hk1:(k:Int)<(b.ents.length:Int):=by omega
          have hk2:(k:Int)<(days.length:Int):=by omega
          have HCK:=HC5;have HP1:=hHd p1;have HM0:=hHd m0;have HM1:=hHd m1;clear e1 hce p1 m0 m1;(go_wp2_with fail);clear t0 q3;refine wp_region_quiet (C:=Ext wo) (by kernel_rfl) (by kernel_rfl) (Ext.drew EX) ?_
          rw [tl]
          repeat (first
            |go_big_quiet_skip
            | (go_big_quiet_want
               first
                |(go_big_quiet_op;go_big_quiet_on)
                | (apply Exists.intro
                   refine⟨fun w' hxw=> ?_,?_⟩
                   focus (have t0:=(HCK.out w' (hx.trans hxw)).1;have q3:=(HCK.out w' (hx.trans hxw)).2;have p1:=hxw.keep HP1.out;have m0:=hxw.keep HM0.out;have m1:=hxw.keep HM1.out;go_simp;first|exact rfl|(go_at_call 21;with_reducible refine(HI.out w').mono ?_;exact fun e w'' h=>⟨h.1,hxw.trans h.2⟩))
                   simp only [Act.put,List.setIfInBounds_toArray,List.set_cons_zero,List.set_cons_succ];go_big_quiet_on)))
          refine wpQuiet_nil ?_
          intro w2 hx2
          have XW:=hx.trans hx2;have XY:=XX.trans hx2;cases hin:inR x lo hi with
          | false =>
            have HR:=hHd ((fun h=>show r=false by rw [HE.out,h,Bool.false_and]) (HBD.out hin));clear hin;(go_wp2_with fail);go_ret;exact⟨ret_bool HR.out.symm,XY⟩
          | true =>
            have HD2:Hid (inTo days (entR b) (k+1)=true):=hHd (by rw [HNX.out,hin]);clear hin;(go_wp2_with fail);go_roundw
            case rel=>exact⟨k+1,by omega,by go_num,HD2,XW⟩
            case measure=>simp [intOf];omega
        · obtain rfl : k = b.ents.length := by omega
          have HDF5:=HD;have hnd5:¬((b.ents.length:Nat)<days.length):=by have:=HGE.out;omega
          have hne5:decide (((b.ents.length:Nat):Int)<(days.length:Int))=false:=decide_eq_false (by have:=HGE.out;omega);have hnf5:decide ((b.ents.length:Nat)<days.length)=false:=decide_eq_false hnd5;clear hlt HD hnd5;(go_wp2_with fail);go_loopw [6] (fun s wr=>∃k:Nat,k≤b.pars.length∧s= .int .i64 k∧Hid (inTo sown (parR b) k=true)∧Ext W wr) (fun s _=>b.pars.length - (intOf s).toNat)
          case atStart=>exact⟨0,Nat.zero_le _,rfl,hHd (by simp [inTo]),hx⟩
          case round=>
            clear hx XX;obtain⟨k,hk,rfl,HD,hx⟩:=hrel;obtain⟨wo,rfl⟩:∃x,x=wr:=⟨_,rfl⟩;have XX:=X.trans hx;have t1:=(HC6.out wo hx).1;have q2:=(HC6.out wo hx).2;by_cases hlt:k<b.pars.length
            · skip
              obtain⟨b1,o1,rfl,p1⟩:=HLS.out wo XX k hlt;obtain⟨b',off,rfl,hce⟩:=HLP.out wo XX k (by simpa using hlt);have e1:(b.pars.map Par.c)[k]'(by simpa using hlt)=(b.pars[k]).c:=by simp
              rw [e1] at hce;have m0:=hce.2.2.1;have m1:=hce.2.2.2;simp only [Par.c] at m0 m1;have HNX:Hid (inTo sown (parR b) (k+1)=inR (sown.getD k 0) b.pars[k].slo b.pars[k].shi):=hHd (by rw [inTo_next,HD.out,parR_get hlt];rfl);have HBD:Hid (inR (sown.getD k 0) b.pars[k].slo b.pars[k].shi=false→inTo sown (parR b) (b.pars.length)=false):=hHd (fun h=>inTo_false hlt (by rw [parR_get hlt];exact h));generalize sown.getD k 0=x at*;generalize b.pars[k].slo=lo at*;generalize b.pars[k].shi=hi at*;have HI:=hHd (HIN.out x lo hi);have hkb:=HGP.out;have hk0:(0:Int)≤(k:Int):=by omega
              have hk1:(k:Int)<(b.pars.length:Int):=by omega
              have hk2:(k:Int)<(sown.length:Int):=by omega
              have HCK:=HC6;have HP1:=hHd p1;have HM0:=hHd m0;have HM1:=hHd m1;clear e1 hce p1 m0 m1;(go_wp2_with fail);clear t1 q2;refine wp_region_quiet (C:=Ext wo) (by kernel_rfl) (by kernel_rfl) (Ext.drew EX) ?_
              rw [tl]
              repeat (first
                |go_big_quiet_skip
                | (go_big_quiet_want
                   first
                    |(go_big_quiet_op;go_big_quiet_on)
                    | (apply Exists.intro
                       refine⟨fun w' hxw=> ?_,?_⟩
                       focus (have t1:=(HCK.out w' (hx.trans hxw)).1;have q2:=(HCK.out w' (hx.trans hxw)).2;have p1:=hxw.keep HP1.out;have m0:=hxw.keep HM0.out;have m1:=hxw.keep HM1.out;go_simp;first|exact rfl|(go_at_call 21;with_reducible refine(HI.out w').mono ?_;exact fun e w'' h=>⟨h.1,hxw.trans h.2⟩))
                       simp only [Act.put,List.setIfInBounds_toArray,List.set_cons_zero,List.set_cons_succ];go_big_quiet_on)))
              refine wpQuiet_nil ?_
              intro w2 hx2
              have XW:=hx.trans hx2;have XY:=XX.trans hx2;cases hin:inR x lo hi with
              | false =>
                have HR:=hHd ((fun h=>show r=false by rw [HE.out,h,Bool.and_false]) (HBD.out hin));clear hin;(go_wp2_with fail);go_ret;exact⟨ret_bool HR.out.symm,XY⟩
              | true =>
                have HD2:Hid (inTo sown (parR b) (k+1)=true):=hHd (by rw [HNX.out,hin]);clear hin;(go_wp2_with fail);go_roundw
                case rel=>exact⟨k+1,by omega,by go_num,HD2,XW⟩
                case measure=>simp [intOf];omega
            · obtain rfl : k = b.pars.length := by omega
              have HDF6:=HD;have hnd6:¬((b.pars.length:Nat)<sown.length):=by have:=HGP.out;omega
              have hne6:decide (((b.pars.length:Nat):Int)<(sown.length:Int))=false:=decide_eq_false (by have:=HGP.out;omega);have hnf6:decide ((b.pars.length:Nat)<sown.length)=false:=decide_eq_false hnd6;clear hlt HD hnd6;have HR:Hid (r=true):=hHd (by rw [HE.out,HDF5.out,HDF6.out];rfl);(go_wp2_with fail);go_ret;exact⟨ret_bool HR.out.symm,XX⟩
    · have d1 : ((days.length : Int) != (b.ents.length : Int)) = false := by simp [h1]
      have d2:((sown.length:Int) !=(b.pars.length:Int))=true:=by simp;omega
      have HR:Hid (r=false):=hHd (by rw [HE.out,decide_eq_false h2];simp);have H1:=hHd h1;clear h1 h2;go_enter Tryz.func88,Tryz.ntmps88
      (go_wp2_with fail);go_ret;exact⟨ret_bool HR.out.symm,EX⟩
  · have d1 : ((days.length : Int) != (b.ents.length : Int)) = true := by simp; omega
    have HR:Hid (r=false):=hHd (by rw [HE.out,decide_eq_false h1];rfl);clear h1;go_enter Tryz.func88,Tryz.ntmps88
    (go_wp2_with fail);go_ret;exact⟨ret_bool HR.out.symm,EX⟩
theorem IsListed_dh (A : CaseA) (c : DCas) (t : DTr) (vd vs vst : Value) (w : World) (hm : CaseM w A c) (h1 : IntsV w vd t.days) (h2 : IntsV w vs t.sown) (h3 : IntsV w vst t.starts) :
    Calls Tryz.prog 30 #[A.v c,.agg #[vd,vs,vst,.int .i64 t.loss]] w fun e w'=>e= .returned (.bool (listedR c t))∧Ext w w':=by
  have HE:Hid (listedR c t=(listedK c.bk t.days t.sown&&(decide (t.starts.length=c.covs.length)&&(inR t.loss c.llo c.lhi&&inTo t.starts (covR c) c.covs.length)))):=rfl;have HIN:=hHd In_h;have HL1:=hHd (fun W (hx:Ext w W)=>IsListed_h c.bk (A.b c) t.days t.sown vd vs W (hm.bk.ext hx) (h1.ext hx) (h2.ext hx));obtain⟨ad,cd,rfl,-,-,-⟩:=id h1;obtain⟨as',cs,rfl,-,-,-⟩:=id h2;obtain⟨ast,cst,rfl,-,-,-⟩:=id h3;have HCC:=hHd (fun W (hx:Ext w W)=>Cells7.ext hx hm.covs);have hl3:=hm.l3.2
  have HLS:Hid (∀W,Ext w W→∀i,i<t.starts.length→∃b' off,ast=some ⟨b',off,none⟩∧W.cell? ⟨b',off+i,none⟩=some (.int .i64 (t.starts.getD i 0))):=hHd (fun W hx i hi=>by
    obtain⟨p,c',e,-,hc⟩:=IntsV.cellsI (h3.ext hx);cases e
    exact hc i hi)
  obtain⟨a1,c1,a2,c2,a3,c3,a4,c4⟩:=A;unfold CaseA.v CaseA.b caseV bkV at*;simp only at*;clear hm h1 h2 h3;obtain⟨r,hr⟩:∃r,r=listedR c t:=⟨_,rfl⟩;rw [←hr] at HE⊢;clear hr;generalize listedK c.bk t.days t.sown=lb at*;go_enter Tryz.func30,Tryz.ntmps30
  (go_wp2_with fail);obtain⟨W,hW,X,HS,HSf,HSz⟩:=bx11_4 w 41 (.int .i64 c.bk.last) (.int .i64 c.bk.owners) (.slice a1 c.bk.pars.length c1) (.slice a2 c.bk.ents.length c2) (.int .i64 c.soc) (.int .i64 c.day) (.int .i64 c.parcel) (.slice a3 c.covs.length c3) (.int .i64 c.llo) (.int .i64 c.lhi) (.slice a4 c.clms.length c4) 45 (.slice ad t.days.length cd) (.slice as' t.sown.length cs) (.slice ast t.starts.length cst) (.int .i64 t.loss);rw [hW];clear hW;(with_reducible refine(HL1.out _ X).mono ?_);rintro e w1 ⟨rfl,hx1⟩;clear HL1;have XX:=X.trans hx1;obtain⟨⟨q0,q1,q2,q3,q4,q5,q6,q7,q8,q9,q10,t0,t1,t2,t3⟩,-⟩:=HS.out w1 hx1;have RET:Hid (∀V,Ext w1 V→Ext w V):=hHd (fun V h=>XX.trans h);cases lb with
  | false =>
    have HR:Hid (r=false):=hHd (by rw [HE.out];rfl);(go_wp2_with fail);go_ret;exact⟨ret_bool HR.out.symm,XX⟩
  | true =>
    by_cases hls:t.starts.length=c.covs.length
    · skip
      have d1:((t.starts.length:Int) !=(c.covs.length:Int))=false:=by simp [hls]
      replace HLS:Hid (∀W,Ext w W→∀i,i<c.covs.length→∃b' off,ast=some ⟨b',off,none⟩∧W.cell? ⟨b',off+i,none⟩=some (.int .i64 (t.starts.getD i 0))):=hHd (fun W hx i hi=>HLS.out W hx i (by omega));have HGS:Hid (c.covs.length≤1000∧t.starts.length=c.covs.length):=hHd ⟨by omega,hls⟩;replace HE:Hid (r=(inR t.loss c.llo c.lhi&&inTo t.starts (covR c) c.covs.length)):=hHd (by rw [HE.out,decide_eq_true hls];rfl);clear hls;have HI:=hHd (HIN.out t.loss c.llo c.lhi);(go_wp2_with fail);(with_reducible refine(HI.out _).mono ?_);rintro e w2 ⟨rfl,hx2⟩;have hx:=hx1.trans hx2;replace XX:=XX.trans hx2;clear HI;cases hil:inR t.loss c.llo c.lhi with
      | false =>
        have HR:Hid (r=false):=hHd (by rw [HE.out,hil];rfl);clear hil;(go_wp2_with fail);go_ret;exact⟨ret_bool HR.out.symm,XX⟩
      | true =>
        replace HE:Hid (r=inTo t.starts (covR c) c.covs.length):=hHd (by rw [HE.out,hil];rfl);clear hil;have HC5:Hid (∀V,Ext W V→V.cell? ⟨w.heap.size+1,2,none⟩=some (.slice ast t.starts.length cst)∧V.cell? ⟨w.heap.size,7,none⟩=some (.slice a3 c.covs.length c3)):=hHd (fun V h=>by obtain⟨⟨-,-,-,-,-,-,-,q7,-,-,-,-,-,t2,-⟩,-⟩:=HS.out V h;exact⟨t2,q7⟩);clear q0 q1 q2 q3 q4 q5 q6 q7 q8 q9 q10 t0 t1 t2 t3 HS HSf;(go_wp2_with fail);go_loopw [5] (fun s wr=>∃k:Nat,k≤c.covs.length∧s= .int .i64 k∧Hid (inTo t.starts (covR c) k=true)∧Ext W wr) (fun s _=>c.covs.length - (intOf s).toNat)
        case atStart=>exact⟨0,Nat.zero_le _,rfl,hHd (by simp [inTo]),hx⟩
        case round=>
          clear hx XX;obtain⟨k,hk,rfl,HD,hx⟩:=hrel;obtain⟨wo,rfl⟩:∃x,x=wr:=⟨_,rfl⟩;have XX:=X.trans hx;have t2:=(HC5.out wo hx).1;have q7:=(HC5.out wo hx).2;by_cases hlt:k<c.covs.length
          · skip
            obtain⟨b1,o1,rfl,p1⟩:=HLS.out wo XX k hlt;obtain⟨b',off,rfl,hce⟩:=HCC.out wo XX k (by simpa using hlt);have e1:(c.covs.map Cov.c)[k]'(by simpa using hlt)=(c.covs[k]).c:=by simp
            rw [e1] at hce;have m0:=hce.2.2.2.2.2.1;have m1:=hce.2.2.2.2.2.2;simp only [Cov.c] at m0 m1;have HNX:Hid (inTo t.starts (covR c) (k+1)=inR (t.starts.getD k 0) c.covs[k].slo c.covs[k].shi):=hHd (by rw [inTo_next,HD.out,covR_get hlt];rfl);have HBD:Hid (inR (t.starts.getD k 0) c.covs[k].slo c.covs[k].shi=false→inTo t.starts (covR c) (c.covs.length)=false):=hHd (fun h=>inTo_false hlt (by rw [covR_get hlt];exact h));generalize t.starts.getD k 0=x at*;generalize c.covs[k].slo=lo at*;generalize c.covs[k].shi=hi at*;have HI:=hHd (HIN.out x lo hi);have hkb:=HGS.out;have hk0:(0:Int)≤(k:Int):=by omega
            have hk1:(k:Int)<(c.covs.length:Int):=by omega
            have hk2:(k:Int)<(t.starts.length:Int):=by omega
            have HCK:=HC5;have HP1:=hHd p1;have HM0:=hHd m0;have HM1:=hHd m1;clear e1 hce p1 m0 m1;(go_wp2_with fail);clear t2 q7;refine wp_region_quiet (C:=Ext wo) (by kernel_rfl) (by kernel_rfl) (Ext.drew EX) ?_
            rw [tl]
            repeat (first
              |go_big_quiet_skip
              | (go_big_quiet_want
                 first
                  |(go_big_quiet_op;go_big_quiet_on)
                  | (apply Exists.intro
                     refine⟨fun w' hxw=> ?_,?_⟩
                     focus (have t2:=(HCK.out w' (hx.trans hxw)).1;have q7:=(HCK.out w' (hx.trans hxw)).2;have p1:=hxw.keep HP1.out;have m0:=hxw.keep HM0.out;have m1:=hxw.keep HM1.out;go_simp;first|exact rfl|(go_at_call 21;with_reducible refine(HI.out w').mono ?_;exact fun e w'' h=>⟨h.1,hxw.trans h.2⟩))
                     simp only [Act.put,List.setIfInBounds_toArray,List.set_cons_zero,List.set_cons_succ];go_big_quiet_on)))
            refine wpQuiet_nil ?_
            intro w2 hx2
            have XW:=hx.trans hx2;have XY:=XX.trans hx2;cases hin:inR x lo hi with
            | false =>
              have HR:=hHd ((fun h=>show r=false by rw [HE.out,h]) (HBD.out hin));clear hin;(go_wp2_with fail);go_ret;exact⟨ret_bool HR.out.symm,XY⟩
            | true =>
              have HD2:Hid (inTo t.starts (covR c) (k+1)=true):=hHd (by rw [HNX.out,hin]);clear hin;(go_wp2_with fail);go_roundw
              case rel=>exact⟨k+1,by omega,by go_num,HD2,XW⟩
              case measure=>simp [intOf];omega
          · obtain rfl : k = c.covs.length := by omega
            have HDF5:=HD;have hnd5:¬((c.covs.length:Nat)<t.starts.length):=by have:=HGS.out;omega
            have hne5:decide (((c.covs.length:Nat):Int)<(t.starts.length:Int))=false:=decide_eq_false (by have:=HGS.out;omega);have hnf5:decide ((c.covs.length:Nat)<t.starts.length)=false:=decide_eq_false hnd5;clear hlt HD hnd5;have HR:Hid (r=true):=hHd (by rw [HE.out,HDF5.out]);(go_wp2_with fail);go_ret;exact⟨ret_bool HR.out.symm,XX⟩
    · have d1 : ((t.starts.length : Int) != (c.covs.length : Int)) = true := by simp; omega
      have HR:Hid (r=false):=hHd (by rw [HE.out,decide_eq_false hls];rfl);clear hls;(go_wp2_with fail);go_ret;exact⟨ret_bool HR.out.symm,XX⟩
end Go.Proofs.YtegkdnfeceomdaaGreat
namespace Go.Hs
open Go.RowKit
theorem ints_ok {w:World} {v:Value} {xs:List Int} (h:IntsV w v xs):∀x∈xs,i64ok x:=by
 obtain⟨a,c,rfl,-,-,h3⟩:=h;intro x hx
 obtain⟨i,hi,rfl⟩:=List.getElem_of_mem hx;obtain⟨b,o,-,hc⟩:=h3 i hi;exact hc.2
def IntsN (B:Nat) (w:World) (v:Value) (xs:List Int):Prop:=IntsV w v xs∧∀g,v.ownBlock=some g→B≤g
theorem IntsN.kp {B:Nat} {p:Nat→Prop} {w w':World} {v:Value} {xs:List Int} (h:IntsN B w v xs) (k:KP p w w') (hp:∀j,p j→j<B):IntsN B w' v xs:=
 ⟨ints_kp h.1 k (fun g hg e=>by have:=h.2 g hg;have:=hp g e;omega),h.2⟩
theorem IntsN.ext {B:Nat} {w w':World} {v:Value} {xs:List Int} (h:IntsN B w v xs) (x:Ext w w'):IntsN B w' v xs:=⟨h.1.ext x,h.2⟩
theorem IntsN.down {B D:Nat} {w:World} {v:Value} {xs:List Int} (h:IntsN B w v xs) (hd:D≤B):IntsN D w v xs:=⟨h.1,fun g hg=>Nat.le_trans hd (h.2 g hg)⟩
end Go.Hs
namespace Go.Proofs.YtegkdnfeceomdaaGreat
open Go.RowKit Go.Hs
attribute [local irreducible] World.setCell World.alloc
theorem list1_n (v:Value) (xs:List Int) (w:World) (hv:IntsV w v xs) (hl:xs.length≤1000):Calls Tryz.prog 132 #[v] w fun e w'=>∃a q,e= .returned (.slice a xs.length q)∧IntsN w.heap.size w' (.slice a xs.length q) xs∧Ext w w':=
 (list1 v xs w hv hl).mono (fun e w' ⟨v', h1, h2, h3⟩ => by
  have hi:=own_intsV h2 rfl rfl (ints_ok hv) hl;obtain⟨a,q,rfl,-⟩:=id hi;exact⟨a,q,h1,⟨hi,fun g hg=>(own_lt h2 hg).1⟩,h3⟩)
theorem list8_n (v:Value) (xs:List Int) (w:World) (hv:IntsV w v xs) (hl:xs.length≤1000):Calls Tryz.prog 20 #[v] w fun e w'=>∃a q,e= .returned (.slice a xs.length q)∧IntsN w.heap.size w' (.slice a xs.length q) xs∧Ext w w':=
 (list8 v xs w hv hl).mono (fun e w' ⟨v', h1, h2, h3⟩ => by
  have hi:=own_intsV h2 rfl rfl (ints_ok hv) hl;obtain⟨a,q,rfl,-⟩:=id hi;exact⟨a,q,h1,⟨hi,fun g hg=>(own_lt h2 hg).1⟩,h3⟩)
theorem Truth1_h (days sown:List Int) (vd vs:Value) (w:World) (h1:IntsV w vd days) (h2:IntsV w vs sown) (l1:days.length≤1000) (l2:sown.length≤1000):
  Calls Tryz.prog 77 #[.agg #[vd,vs]] w fun e w'=>∃ad cd as' cs,e= .returned (.agg #[.slice ad days.length cd,.slice as' sown.length cs])∧IntsN w.heap.size w' (.slice ad days.length cd) days∧IntsN w.heap.size w' (.slice as' sown.length cs) sown∧Ext w w':=by
 obtain⟨aD,cD,rfl,-⟩:=id h1;obtain⟨aS,cS,rfl,-⟩:=id h2;have H1:=hHd (fun W hx=>list1_n _ _ W (IntsV.ext (w':=W) hx h1) l1);have H2:=hHd (fun W hx=>list1_n _ _ W (IntsV.ext (w':=W) hx h2) l2);clear h1 h2;go_enter Tryz.func77,Tryz.ntmps77
 (go_wp2_with fail);obtain⟨W,hW⟩:∃W,W=((w.alloc (.cells #[.slice aD days.length cD,.slice aS sown.length cS] 43)).alloc (.cells #[.slice none 0 0,.slice none 0 0] 59)):=⟨_,rfl⟩;have X:Ext w W:=by subst hW;exact EX
 have HS:Hid (∀w',Ext W w'→(w'.cell? ⟨w.heap.size,0,none⟩=some (.slice aD days.length cD)∧w'.cell? ⟨w.heap.size,1,none⟩=some (.slice aS sown.length cS))∧Ext W w'):=hHd (fun w' hx=>⟨by subst hW;and_intros<;>exact hx.keep (by simp [go_sem]),hx⟩);have HSf:Hid (∀w',Ext W w'→∀o,w'.frozen? ⟨w.heap.size+1,o,none⟩=false):=hHd (fun w' hx o=>(hx.frozen (by subst hW;simp)).trans (by subst hW;simp [go_sem]));have HSz:w.heap.size+1+1≤W.heap.size:=by subst hW;simp
 have HB1:Hid (∀w',Ext W w'→((∃v,w'.cell? ⟨w.heap.size+1,0,none⟩=some v)∧(∃v,w'.cell? ⟨w.heap.size+1,1,none⟩=some v))∧∀o,w'.frozen? ⟨w.heap.size+1,o,none⟩=false):=hHd (fun w' hx=>⟨⟨⟨_,hx.keep (v:= .slice none 0 0) (by subst hW;simp [go_sem])⟩,⟨_,hx.keep (v:= .slice none 0 0) (by subst hW;simp [go_sem])⟩⟩,fun o=>(hx.frozen (by subst hW;simp;try omega)).trans (by subst hW;simp [go_sem])⟩);rw [←hW];clear hW;have HSz1:w.heap.size+1<W.heap.size:=by omega
 have HSS:Hid (∀w',Ext W w'→(w'.cell? ⟨w.heap.size,0,none⟩=some (.slice aD days.length cD)∧w'.cell? ⟨w.heap.size,1,none⟩=some (.slice aS sown.length cS))∧(w'.cell? ⟨(w.heap.size+1),0,none⟩=some (curV w' ⟨(w.heap.size+1),0,none⟩)∧w'.cell? ⟨(w.heap.size+1),1,none⟩=some (curV w' ⟨(w.heap.size+1),1,none⟩)∧∀o,w'.frozen? ⟨(w.heap.size+1),o,none⟩=false)∧Ext w w'):=hHd (fun w' h=>by
  obtain⟨⟨q0,q1⟩,-⟩:=HS.out w' h;obtain⟨⟨⟨x0,r0⟩,⟨x1,r1⟩⟩,hf⟩:=HB1.out w' h;exact⟨⟨q0,q1⟩,⟨cur_self r0,cur_self r1,hf⟩,Ext.trans X h⟩)
 have HST:Hid (∀w' a0 a1 V,V=((w'.setCell ⟨(w.heap.size+1),0,none⟩ a0).setCell ⟨(w.heap.size+1),1,none⟩ a1)→Ext W w'→(V.cell? ⟨w.heap.size,0,none⟩=some (.slice aD days.length cD)∧V.cell? ⟨w.heap.size,1,none⟩=some (.slice aS sown.length cS))∧(V.cell? ⟨(w.heap.size+1),0,none⟩=some (curV V ⟨(w.heap.size+1),0,none⟩)∧V.cell? ⟨(w.heap.size+1),1,none⟩=some (curV V ⟨(w.heap.size+1),1,none⟩)∧∀o,V.frozen? ⟨(w.heap.size+1),o,none⟩=false)∧Ext w V):=hHd (fun w' a0 a1 V hV h=>by
  have hV:V=(setL w' (w.heap.size+1) [a0,a1] 0):=hV;subst hV;obtain⟨⟨q0,q1⟩,-⟩:=HS.out w' h;obtain⟨⟨⟨x0,r0⟩,⟨x1,r1⟩⟩,hf⟩:=HB1.out w' h;exact⟨⟨setL_ne (by omega) _ _ _ q0,setL_ne (by omega) _ _ _ q1⟩,⟨setL_cur r0,setL_cur r1,fun o=>(setL_fr _ _ _).trans (hf o)⟩,setL_ext (by omega) _ _ _ (Ext.trans X h)⟩)
 have HRT:Hid (∀w' a0 a1 V,V=((w'.setCell ⟨(w.heap.size+1),0,none⟩ a0).setCell ⟨(w.heap.size+1),1,none⟩ a1)→Ext W w'→V.cell? ⟨(w.heap.size+1),0,none⟩=some a0∧V.cell? ⟨(w.heap.size+1),1,none⟩=some a1):=hHd (fun w' a0 a1 V hV h=>by
  have hV:V=(setL w' (w.heap.size+1) [a0,a1] 0):=hV;subst hV;obtain⟨⟨q0,q1⟩,-⟩:=HS.out w' h;obtain⟨⟨⟨x0,r0⟩,⟨x1,r1⟩⟩,hf⟩:=HB1.out w' h
  have hA:=setL_at (R:=(w.heap.size+1)) [a0,a1] 0 w' (fun i hi=>by
   simp only [List.length_cons,List.length_nil] at hi;rcases i with _|_|i
   ·exact⟨_,r0⟩
   ·exact⟨_,r1⟩
   ·omega)
  exact⟨hA 0 _ rfl,hA 1 _ rfl⟩)
 go_region_held3 (fun w'=>(w'.cell? ⟨w.heap.size,0,none⟩=some (.slice aD days.length cD)∧w'.cell? ⟨w.heap.size,1,none⟩=some (.slice aS sown.length cS))∧(w'.cell? ⟨(w.heap.size+1),0,none⟩=some (curV w' ⟨(w.heap.size+1),0,none⟩)∧w'.cell? ⟨(w.heap.size+1),1,none⟩=some (curV w' ⟨(w.heap.size+1),1,none⟩)∧∀o,w'.frozen? ⟨(w.heap.size+1),o,none⟩=false)∧Ext w w')
  (first|(refine HSS.out _ ?_;((repeat (first|exact Ext.refl _|with_reducible (first|assumption|refine Ext.drew ?_|refine Ext.alloc ?_ _|refine Ext.drewN ?_ _|refine Ext.setCell ?_ (by omega) _|refine Ext.trans ?_ (by assumption))));done))|(refine HST.out _ _ _ _ rfl ?_;exact EXD))
  (first
   |(go_at_call 132;(with_reducible refine(H1.out _ (X.trans EX)).mono ?_);rintro e w3 ⟨va,qva,rfl,iva,hxva⟩)
   |(go_at_call 132;(with_reducible refine(H2.out _ (X.trans EX)).mono ?_);rintro e w4 ⟨vb,qvb,rfl,ivb,hxvb⟩))
 all_goals
  have XL:Ext W w4:=EX;have TT:=HST.out w4 (.slice va days.length qva) (.slice vb sown.length qvb) _ rfl XL;have RR:=HRT.out w4 (.slice va days.length qva) (.slice vb sown.length qvb) _ rfl XL;have KK:KP (fun j=>j=w.heap.size+1) w4 ((w4.setCell ⟨w.heap.size+1,0,none⟩ (.slice va days.length qva)).setCell ⟨w.heap.size+1,1,none⟩ (.slice vb sown.length qvb)):=((KP.refl _).setCell (p:=fun j=>j=w.heap.size+1) rfl _).setCell rfl _;clear HSS HST HRT;(go_wp2_with fail);generalize ((w4.setCell ⟨w.heap.size+1,0,none⟩ (.slice va days.length qva)).setCell ⟨w.heap.size+1,1,none⟩ (.slice vb sown.length qvb))=WF at*;obtain⟨r0,r1⟩:=RR;obtain⟨-,-,XF⟩:=TT;exact bodyPost_ret (v:= .agg #[.slice va days.length qva,.slice vb sown.length qvb]) (by simp [results,Tryz.results77,go_sem,r0,r1]) rfl ⟨_,_,_,_,rfl,((iva.ext (show Ext w3 w4 from EX)).down (D:=W.heap.size) (Ext.size EX)).kp KK (fun j hj=>by subst hj;omega)|>.down (by omega),(ivb.down (D:=W.heap.size) (Ext.size EX)).kp KK (fun j hj=>by subst hj;omega)|>.down (by omega),XF⟩
theorem Truth8_h (t:DTr) (v:Value) (w:World) (hv:TruV w v t) (l1:t.days.length≤1000) (l2:t.sown.length≤1000) (l3:t.starts.length≤1000):
  Calls Tryz.prog 27 #[v] w fun e w'=>∃v',e= .returned v'∧TruV w' v' t∧Ext w w':=by
 obtain⟨vd,vs,vst,rfl,h1,h2,h3⟩:=hv;obtain⟨aD,cD,rfl,-⟩:=id h1;obtain⟨aS,cS,rfl,-⟩:=id h2;obtain⟨aT,cT,rfl,-⟩:=id h3;have H1:=hHd (fun W (hx:Ext w W)=>Truth1_h t.days t.sown _ _ W (h1.ext hx) (h2.ext hx) l1 l2);have H3:=hHd (fun W hx=>list8_n _ _ W (IntsV.ext (w':=W) hx h3) l3);clear h1 h2 h3;go_enter Tryz.func27,Tryz.ntmps27
 (go_wp2_with fail);obtain⟨W,hW⟩:∃W,W=((w.alloc (.cells #[.slice aD t.days.length cD,.slice aS t.sown.length cS,.slice aT t.starts.length cT,.int .i64 t.loss] 45)).alloc (.cells #[.slice none 0 0,.slice none 0 0,.slice none 0 0,.int .i64 0] 61)):=⟨_,rfl⟩;have X:Ext w W:=by subst hW;exact EX
 have HS:Hid (∀w',Ext W w'→(w'.cell? ⟨w.heap.size,0,none⟩=some (.slice aD t.days.length cD)∧w'.cell? ⟨w.heap.size,1,none⟩=some (.slice aS t.sown.length cS)∧w'.cell? ⟨w.heap.size,2,none⟩=some (.slice aT t.starts.length cT)∧w'.cell? ⟨w.heap.size,3,none⟩=some (.int .i64 t.loss))∧Ext W w'):=hHd (fun w' hx=>⟨by subst hW;and_intros<;>exact hx.keep (by simp [go_sem]),hx⟩);have HSf:Hid (∀w',Ext W w'→∀o,w'.frozen? ⟨w.heap.size+1,o,none⟩=false):=hHd (fun w' hx o=>(hx.frozen (by subst hW;simp)).trans (by subst hW;simp [go_sem]));have HSz:w.heap.size+1+1≤W.heap.size:=by subst hW;simp
 have HB1:Hid (∀w',Ext W w'→((∃v,w'.cell? ⟨w.heap.size+1,0,none⟩=some v)∧(∃v,w'.cell? ⟨w.heap.size+1,1,none⟩=some v)∧(∃v,w'.cell? ⟨w.heap.size+1,2,none⟩=some v)∧(∃v,w'.cell? ⟨w.heap.size+1,3,none⟩=some v))∧∀o,w'.frozen? ⟨w.heap.size+1,o,none⟩=false):=hHd (fun w' hx=>⟨⟨⟨_,hx.keep (v:= .slice none 0 0) (by subst hW;simp [go_sem])⟩,⟨_,hx.keep (v:= .slice none 0 0) (by subst hW;simp [go_sem])⟩,⟨_,hx.keep (v:= .slice none 0 0) (by subst hW;simp [go_sem])⟩,⟨_,hx.keep (v:= .int .i64 0) (by subst hW;simp [go_sem])⟩⟩,fun o=>(hx.frozen (by subst hW;simp;try omega)).trans (by subst hW;simp [go_sem])⟩);rw [←hW];clear hW;have HSz1:w.heap.size+1<W.heap.size:=by omega
 have HSS:Hid (∀w',Ext W w'→(w'.cell? ⟨w.heap.size,0,none⟩=some (.slice aD t.days.length cD)∧w'.cell? ⟨w.heap.size,1,none⟩=some (.slice aS t.sown.length cS)∧w'.cell? ⟨w.heap.size,2,none⟩=some (.slice aT t.starts.length cT)∧w'.cell? ⟨w.heap.size,3,none⟩=some (.int .i64 t.loss))∧(w'.cell? ⟨(w.heap.size+1),0,none⟩=some (curV w' ⟨(w.heap.size+1),0,none⟩)∧w'.cell? ⟨(w.heap.size+1),1,none⟩=some (curV w' ⟨(w.heap.size+1),1,none⟩)∧w'.cell? ⟨(w.heap.size+1),2,none⟩=some (curV w' ⟨(w.heap.size+1),2,none⟩)∧w'.cell? ⟨(w.heap.size+1),3,none⟩=some (curV w' ⟨(w.heap.size+1),3,none⟩)∧∀o,w'.frozen? ⟨(w.heap.size+1),o,none⟩=false)∧Ext w w'):=hHd (fun w' h=>by
  obtain⟨⟨q0,q1,q2,q3⟩,-⟩:=HS.out w' h;obtain⟨⟨⟨x0,r0⟩,⟨x1,r1⟩,⟨x2,r2⟩,⟨x3,r3⟩⟩,hf⟩:=HB1.out w' h;exact⟨⟨q0,q1,q2,q3⟩,⟨cur_self r0,cur_self r1,cur_self r2,cur_self r3,hf⟩,Ext.trans X h⟩)
 have HST:Hid (∀w' a0 a1 a2 a3 V,V=((((w'.setCell ⟨(w.heap.size+1),0,none⟩ a0).setCell ⟨(w.heap.size+1),1,none⟩ a1).setCell ⟨(w.heap.size+1),2,none⟩ a2).setCell ⟨(w.heap.size+1),3,none⟩ a3)→Ext W w'→(V.cell? ⟨w.heap.size,0,none⟩=some (.slice aD t.days.length cD)∧V.cell? ⟨w.heap.size,1,none⟩=some (.slice aS t.sown.length cS)∧V.cell? ⟨w.heap.size,2,none⟩=some (.slice aT t.starts.length cT)∧V.cell? ⟨w.heap.size,3,none⟩=some (.int .i64 t.loss))∧(V.cell? ⟨(w.heap.size+1),0,none⟩=some (curV V ⟨(w.heap.size+1),0,none⟩)∧V.cell? ⟨(w.heap.size+1),1,none⟩=some (curV V ⟨(w.heap.size+1),1,none⟩)∧V.cell? ⟨(w.heap.size+1),2,none⟩=some (curV V ⟨(w.heap.size+1),2,none⟩)∧V.cell? ⟨(w.heap.size+1),3,none⟩=some (curV V ⟨(w.heap.size+1),3,none⟩)∧∀o,V.frozen? ⟨(w.heap.size+1),o,none⟩=false)∧Ext w V):=hHd (fun w' a0 a1 a2 a3 V hV h=>by
  have hV:V=(setL w' (w.heap.size+1) [a0,a1,a2,a3] 0):=hV;subst hV;obtain⟨⟨q0,q1,q2,q3⟩,-⟩:=HS.out w' h;obtain⟨⟨⟨x0,r0⟩,⟨x1,r1⟩,⟨x2,r2⟩,⟨x3,r3⟩⟩,hf⟩:=HB1.out w' h;exact⟨⟨setL_ne (by omega) _ _ _ q0,setL_ne (by omega) _ _ _ q1,setL_ne (by omega) _ _ _ q2,setL_ne (by omega) _ _ _ q3⟩,⟨setL_cur r0,setL_cur r1,setL_cur r2,setL_cur r3,fun o=>(setL_fr _ _ _).trans (hf o)⟩,setL_ext (by omega) _ _ _ (Ext.trans X h)⟩)
 have HRT:Hid (∀w' a0 a1 a2 a3 V,V=((((w'.setCell ⟨(w.heap.size+1),0,none⟩ a0).setCell ⟨(w.heap.size+1),1,none⟩ a1).setCell ⟨(w.heap.size+1),2,none⟩ a2).setCell ⟨(w.heap.size+1),3,none⟩ a3)→Ext W w'→V.cell? ⟨(w.heap.size+1),0,none⟩=some a0∧V.cell? ⟨(w.heap.size+1),1,none⟩=some a1∧V.cell? ⟨(w.heap.size+1),2,none⟩=some a2∧V.cell? ⟨(w.heap.size+1),3,none⟩=some a3):=hHd (fun w' a0 a1 a2 a3 V hV h=>by
  have hV:V=(setL w' (w.heap.size+1) [a0,a1,a2,a3] 0):=hV;subst hV;obtain⟨⟨q0,q1,q2,q3⟩,-⟩:=HS.out w' h;obtain⟨⟨⟨x0,r0⟩,⟨x1,r1⟩,⟨x2,r2⟩,⟨x3,r3⟩⟩,hf⟩:=HB1.out w' h
  have hA:=setL_at (R:=(w.heap.size+1)) [a0,a1,a2,a3] 0 w' (fun i hi=>by
   simp only [List.length_cons,List.length_nil] at hi;rcases i with _|_|_|_|i
   ·exact⟨_,r0⟩
   ·exact⟨_,r1⟩
   ·exact⟨_,r2⟩
   ·exact⟨_,r3⟩
   ·omega)
  exact⟨hA 0 _ rfl,hA 1 _ rfl,hA 2 _ rfl,hA 3 _ rfl⟩)
 go_region_held3 (fun w'=>(w'.cell? ⟨w.heap.size,0,none⟩=some (.slice aD t.days.length cD)∧w'.cell? ⟨w.heap.size,1,none⟩=some (.slice aS t.sown.length cS)∧w'.cell? ⟨w.heap.size,2,none⟩=some (.slice aT t.starts.length cT)∧w'.cell? ⟨w.heap.size,3,none⟩=some (.int .i64 t.loss))∧(w'.cell? ⟨(w.heap.size+1),0,none⟩=some (curV w' ⟨(w.heap.size+1),0,none⟩)∧w'.cell? ⟨(w.heap.size+1),1,none⟩=some (curV w' ⟨(w.heap.size+1),1,none⟩)∧w'.cell? ⟨(w.heap.size+1),2,none⟩=some (curV w' ⟨(w.heap.size+1),2,none⟩)∧w'.cell? ⟨(w.heap.size+1),3,none⟩=some (curV w' ⟨(w.heap.size+1),3,none⟩)∧∀o,w'.frozen? ⟨(w.heap.size+1),o,none⟩=false)∧Ext w w')
  (first|(refine HSS.out _ ?_;((repeat (first|exact Ext.refl _|with_reducible (first|assumption|refine Ext.drew ?_|refine Ext.alloc ?_ _|refine Ext.drewN ?_ _|refine Ext.setCell ?_ (by omega) _|refine Ext.trans ?_ (by assumption))));done))|(refine HST.out _ _ _ _ _ _ rfl ?_;exact EXD))
  (first
   |(go_at_call 77;(with_reducible refine(H1.out _ (X.trans EX)).mono ?_);rintro e w3 ⟨va,qva,vb,qvb,rfl,iva,ivb,hx3⟩)
   |(go_at_call 20;(with_reducible refine(H3.out _ (X.trans EX)).mono ?_);rintro e w4 ⟨vc,qvc,rfl,ivc,hxvc⟩))
 all_goals
  have XL:Ext W w4:=EX;have TT:=HST.out w4 (.slice va t.days.length qva) (.slice vb t.sown.length qvb) (.slice vc t.starts.length qvc) (.int .i64 t.loss) _ rfl XL;have RR:=HRT.out w4 (.slice va t.days.length qva) (.slice vb t.sown.length qvb) (.slice vc t.starts.length qvc) (.int .i64 t.loss) _ rfl XL;have KK:KP (fun j=>j=w.heap.size+1) w4 ((((w4.setCell ⟨w.heap.size+1,0,none⟩ (.slice va t.days.length qva)).setCell ⟨w.heap.size+1,1,none⟩ (.slice vb t.sown.length qvb)).setCell ⟨w.heap.size+1,2,none⟩ (.slice vc t.starts.length qvc)).setCell ⟨w.heap.size+1,3,none⟩ (.int .i64 t.loss)):=((((KP.refl _).setCell (p:=fun j=>j=w.heap.size+1) rfl _).setCell rfl _).setCell rfl _).setCell rfl _;clear HSS HST HRT;(go_wp2_with fail);generalize ((((w4.setCell ⟨w.heap.size+1,0,none⟩ (.slice va t.days.length qva)).setCell ⟨w.heap.size+1,1,none⟩ (.slice vb t.sown.length qvb)).setCell ⟨w.heap.size+1,2,none⟩ (.slice vc t.starts.length qvc)).setCell ⟨w.heap.size+1,3,none⟩ (.int .i64 t.loss))=WF at*;obtain⟨r0,r1,r2,r3⟩:=RR;obtain⟨-,-,XF⟩:=TT;exact bodyPost_ret (v:= .agg #[.slice va t.days.length qva,.slice vb t.sown.length qvb,.slice vc t.starts.length qvc,.int .i64 t.loss]) (by simp [results,Tryz.results27,go_sem,r0,r1,r2,r3]) rfl ⟨_,rfl,⟨_,_,_,rfl,(((iva.ext (show Ext w3 w4 from EX)).down (D:=W.heap.size) (Ext.size EX)).kp KK (fun j hj=>by subst hj;omega)).1,(((ivb.ext (show Ext w3 w4 from EX)).down (D:=W.heap.size) (Ext.size EX)).kp KK (fun j hj=>by subst hj;omega)).1,((ivc.down (D:=W.heap.size) (Ext.size EX)).kp KK (fun j hj=>by subst hj;omega)).1⟩,XF⟩
theorem Back_h (t:DTr) (v:Value) (w:World) (hv:TruV w v t) (l1:t.days.length≤1000) (l2:t.sown.length≤1000) (l3:t.starts.length≤1000):
  Calls Tryz.prog 56 #[v] w fun e w'=>∃v',e= .returned v'∧TruV w' v' t∧Ext w w':=by
 obtain⟨vd,vs,vst,rfl,h1,h2,h3⟩:=hv;obtain⟨aD,cD,rfl,-⟩:=id h1;obtain⟨aS,cS,rfl,-⟩:=id h2;obtain⟨aT,cT,rfl,-⟩:=id h3;have H1:=hHd (fun W hx=>list8_n _ _ W (IntsV.ext (w':=W) hx h1) l1);have H2:=hHd (fun W hx=>list8_n _ _ W (IntsV.ext (w':=W) hx h2) l2);have H3:=hHd (fun W hx=>list8_n _ _ W (IntsV.ext (w':=W) hx h3) l3);clear h1 h2 h3;go_enter Tryz.func56,Tryz.ntmps56
 (go_wp2_with fail);obtain⟨W,hW⟩:∃W,W=((w.alloc (.cells #[.slice aD t.days.length cD,.slice aS t.sown.length cS,.slice aT t.starts.length cT,.int .i64 t.loss] 61)).alloc (.cells #[.slice none 0 0,.slice none 0 0,.slice none 0 0,.int .i64 0] 45)):=⟨_,rfl⟩;have X:Ext w W:=by subst hW;exact EX
 have HS:Hid (∀w',Ext W w'→(w'.cell? ⟨w.heap.size,0,none⟩=some (.slice aD t.days.length cD)∧w'.cell? ⟨w.heap.size,1,none⟩=some (.slice aS t.sown.length cS)∧w'.cell? ⟨w.heap.size,2,none⟩=some (.slice aT t.starts.length cT)∧w'.cell? ⟨w.heap.size,3,none⟩=some (.int .i64 t.loss))∧Ext W w'):=hHd (fun w' hx=>⟨by subst hW;and_intros<;>exact hx.keep (by simp [go_sem]),hx⟩);have HSf:Hid (∀w',Ext W w'→∀o,w'.frozen? ⟨w.heap.size+1,o,none⟩=false):=hHd (fun w' hx o=>(hx.frozen (by subst hW;simp)).trans (by subst hW;simp [go_sem]));have HSz:w.heap.size+1+1≤W.heap.size:=by subst hW;simp
 have HB1:Hid (∀w',Ext W w'→((∃v,w'.cell? ⟨w.heap.size+1,0,none⟩=some v)∧(∃v,w'.cell? ⟨w.heap.size+1,1,none⟩=some v)∧(∃v,w'.cell? ⟨w.heap.size+1,2,none⟩=some v)∧(∃v,w'.cell? ⟨w.heap.size+1,3,none⟩=some v))∧∀o,w'.frozen? ⟨w.heap.size+1,o,none⟩=false):=hHd (fun w' hx=>⟨⟨⟨_,hx.keep (v:= .slice none 0 0) (by subst hW;simp [go_sem])⟩,⟨_,hx.keep (v:= .slice none 0 0) (by subst hW;simp [go_sem])⟩,⟨_,hx.keep (v:= .slice none 0 0) (by subst hW;simp [go_sem])⟩,⟨_,hx.keep (v:= .int .i64 0) (by subst hW;simp [go_sem])⟩⟩,fun o=>(hx.frozen (by subst hW;simp;try omega)).trans (by subst hW;simp [go_sem])⟩);rw [←hW];clear hW;have HSz1:w.heap.size+1<W.heap.size:=by omega
 have HSS:Hid (∀w',Ext W w'→(w'.cell? ⟨w.heap.size,0,none⟩=some (.slice aD t.days.length cD)∧w'.cell? ⟨w.heap.size,1,none⟩=some (.slice aS t.sown.length cS)∧w'.cell? ⟨w.heap.size,2,none⟩=some (.slice aT t.starts.length cT)∧w'.cell? ⟨w.heap.size,3,none⟩=some (.int .i64 t.loss))∧(w'.cell? ⟨(w.heap.size+1),0,none⟩=some (curV w' ⟨(w.heap.size+1),0,none⟩)∧w'.cell? ⟨(w.heap.size+1),1,none⟩=some (curV w' ⟨(w.heap.size+1),1,none⟩)∧w'.cell? ⟨(w.heap.size+1),2,none⟩=some (curV w' ⟨(w.heap.size+1),2,none⟩)∧w'.cell? ⟨(w.heap.size+1),3,none⟩=some (curV w' ⟨(w.heap.size+1),3,none⟩)∧∀o,w'.frozen? ⟨(w.heap.size+1),o,none⟩=false)∧Ext w w'):=hHd (fun w' h=>by
  obtain⟨⟨q0,q1,q2,q3⟩,-⟩:=HS.out w' h;obtain⟨⟨⟨x0,r0⟩,⟨x1,r1⟩,⟨x2,r2⟩,⟨x3,r3⟩⟩,hf⟩:=HB1.out w' h;exact⟨⟨q0,q1,q2,q3⟩,⟨cur_self r0,cur_self r1,cur_self r2,cur_self r3,hf⟩,Ext.trans X h⟩)
 have HST:Hid (∀w' a0 a1 a2 a3 V,V=((((w'.setCell ⟨(w.heap.size+1),0,none⟩ a0).setCell ⟨(w.heap.size+1),1,none⟩ a1).setCell ⟨(w.heap.size+1),2,none⟩ a2).setCell ⟨(w.heap.size+1),3,none⟩ a3)→Ext W w'→(V.cell? ⟨w.heap.size,0,none⟩=some (.slice aD t.days.length cD)∧V.cell? ⟨w.heap.size,1,none⟩=some (.slice aS t.sown.length cS)∧V.cell? ⟨w.heap.size,2,none⟩=some (.slice aT t.starts.length cT)∧V.cell? ⟨w.heap.size,3,none⟩=some (.int .i64 t.loss))∧(V.cell? ⟨(w.heap.size+1),0,none⟩=some (curV V ⟨(w.heap.size+1),0,none⟩)∧V.cell? ⟨(w.heap.size+1),1,none⟩=some (curV V ⟨(w.heap.size+1),1,none⟩)∧V.cell? ⟨(w.heap.size+1),2,none⟩=some (curV V ⟨(w.heap.size+1),2,none⟩)∧V.cell? ⟨(w.heap.size+1),3,none⟩=some (curV V ⟨(w.heap.size+1),3,none⟩)∧∀o,V.frozen? ⟨(w.heap.size+1),o,none⟩=false)∧Ext w V):=hHd (fun w' a0 a1 a2 a3 V hV h=>by
  have hV:V=(setL w' (w.heap.size+1) [a0,a1,a2,a3] 0):=hV;subst hV;obtain⟨⟨q0,q1,q2,q3⟩,-⟩:=HS.out w' h;obtain⟨⟨⟨x0,r0⟩,⟨x1,r1⟩,⟨x2,r2⟩,⟨x3,r3⟩⟩,hf⟩:=HB1.out w' h;exact⟨⟨setL_ne (by omega) _ _ _ q0,setL_ne (by omega) _ _ _ q1,setL_ne (by omega) _ _ _ q2,setL_ne (by omega) _ _ _ q3⟩,⟨setL_cur r0,setL_cur r1,setL_cur r2,setL_cur r3,fun o=>(setL_fr _ _ _).trans (hf o)⟩,setL_ext (by omega) _ _ _ (Ext.trans X h)⟩)
 have HRT:Hid (∀w' a0 a1 a2 a3 V,V=((((w'.setCell ⟨(w.heap.size+1),0,none⟩ a0).setCell ⟨(w.heap.size+1),1,none⟩ a1).setCell ⟨(w.heap.size+1),2,none⟩ a2).setCell ⟨(w.heap.size+1),3,none⟩ a3)→Ext W w'→V.cell? ⟨(w.heap.size+1),0,none⟩=some a0∧V.cell? ⟨(w.heap.size+1),1,none⟩=some a1∧V.cell? ⟨(w.heap.size+1),2,none⟩=some a2∧V.cell? ⟨(w.heap.size+1),3,none⟩=some a3):=hHd (fun w' a0 a1 a2 a3 V hV h=>by
  have hV:V=(setL w' (w.heap.size+1) [a0,a1,a2,a3] 0):=hV;subst hV;obtain⟨⟨q0,q1,q2,q3⟩,-⟩:=HS.out w' h;obtain⟨⟨⟨x0,r0⟩,⟨x1,r1⟩,⟨x2,r2⟩,⟨x3,r3⟩⟩,hf⟩:=HB1.out w' h
  have hA:=setL_at (R:=(w.heap.size+1)) [a0,a1,a2,a3] 0 w' (fun i hi=>by
   simp only [List.length_cons,List.length_nil] at hi;rcases i with _|_|_|_|i
   ·exact⟨_,r0⟩
   ·exact⟨_,r1⟩
   ·exact⟨_,r2⟩
   ·exact⟨_,r3⟩
   ·omega)
  exact⟨hA 0 _ rfl,hA 1 _ rfl,hA 2 _ rfl,hA 3 _ rfl⟩)
 go_region_held3 (fun w'=>(w'.cell? ⟨w.heap.size,0,none⟩=some (.slice aD t.days.length cD)∧w'.cell? ⟨w.heap.size,1,none⟩=some (.slice aS t.sown.length cS)∧w'.cell? ⟨w.heap.size,2,none⟩=some (.slice aT t.starts.length cT)∧w'.cell? ⟨w.heap.size,3,none⟩=some (.int .i64 t.loss))∧(w'.cell? ⟨(w.heap.size+1),0,none⟩=some (curV w' ⟨(w.heap.size+1),0,none⟩)∧w'.cell? ⟨(w.heap.size+1),1,none⟩=some (curV w' ⟨(w.heap.size+1),1,none⟩)∧w'.cell? ⟨(w.heap.size+1),2,none⟩=some (curV w' ⟨(w.heap.size+1),2,none⟩)∧w'.cell? ⟨(w.heap.size+1),3,none⟩=some (curV w' ⟨(w.heap.size+1),3,none⟩)∧∀o,w'.frozen? ⟨(w.heap.size+1),o,none⟩=false)∧Ext w w')
  (first|(refine HSS.out _ ?_;((repeat (first|exact Ext.refl _|with_reducible (first|assumption|refine Ext.drew ?_|refine Ext.alloc ?_ _|refine Ext.drewN ?_ _|refine Ext.setCell ?_ (by omega) _|refine Ext.trans ?_ (by assumption))));done))|(refine HST.out _ _ _ _ _ _ rfl ?_;exact EXD))
  (first
   |(go_at_call 20;(with_reducible refine(H1.out _ (X.trans EX)).mono ?_);rintro e w3 ⟨va,qva,rfl,iva,hxva⟩)
   |(go_at_call 20;(with_reducible refine(H2.out _ (X.trans EX)).mono ?_);rintro e w4 ⟨vb,qvb,rfl,ivb,hxvb⟩)
   |(go_at_call 20;(with_reducible refine(H3.out _ (X.trans EX)).mono ?_);rintro e w5 ⟨vc,qvc,rfl,ivc,hxvc⟩))
 all_goals
  have XL:Ext W w5:=EX;have TT:=HST.out w5 (.slice va t.days.length qva) (.slice vb t.sown.length qvb) (.slice vc t.starts.length qvc) (.int .i64 t.loss) _ rfl XL;have RR:=HRT.out w5 (.slice va t.days.length qva) (.slice vb t.sown.length qvb) (.slice vc t.starts.length qvc) (.int .i64 t.loss) _ rfl XL;have KK:KP (fun j=>j=w.heap.size+1) w5 ((((w5.setCell ⟨w.heap.size+1,0,none⟩ (.slice va t.days.length qva)).setCell ⟨w.heap.size+1,1,none⟩ (.slice vb t.sown.length qvb)).setCell ⟨w.heap.size+1,2,none⟩ (.slice vc t.starts.length qvc)).setCell ⟨w.heap.size+1,3,none⟩ (.int .i64 t.loss)):=((((KP.refl _).setCell (p:=fun j=>j=w.heap.size+1) rfl _).setCell rfl _).setCell rfl _).setCell rfl _;clear HSS HST HRT;(go_wp2_with fail);generalize ((((w5.setCell ⟨w.heap.size+1,0,none⟩ (.slice va t.days.length qva)).setCell ⟨w.heap.size+1,1,none⟩ (.slice vb t.sown.length qvb)).setCell ⟨w.heap.size+1,2,none⟩ (.slice vc t.starts.length qvc)).setCell ⟨w.heap.size+1,3,none⟩ (.int .i64 t.loss))=WF at*;obtain⟨r0,r1,r2,r3⟩:=RR;obtain⟨-,-,XF⟩:=TT;exact bodyPost_ret (v:= .agg #[.slice va t.days.length qva,.slice vb t.sown.length qvb,.slice vc t.starts.length qvc,.int .i64 t.loss]) (by simp [results,Tryz.results56,go_sem,r0,r1,r2,r3]) rfl ⟨_,rfl,⟨_,_,_,rfl,(((iva.ext (hxvb.trans hxvc)).down (D:=W.heap.size) (Ext.size EX)).kp KK (fun j hj=>by subst hj;omega)).1,(((ivb.ext hxvc).down (D:=W.heap.size) (Ext.size EX)).kp KK (fun j hj=>by subst hj;omega)).1,((ivc.down (D:=W.heap.size) (Ext.size EX)).kp KK (fun j hj=>by subst hj;omega)).1⟩,XF⟩
end Go.Proofs.YtegkdnfeceomdaaGreat
