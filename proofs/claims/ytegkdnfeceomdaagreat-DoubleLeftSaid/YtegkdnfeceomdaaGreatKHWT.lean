/- The walk of DoubleLeft. Printed by gen_wt.py. -/
import Derived.Test.YtegkdnfeceomdaaGreatKHSM
import Derived.Test.YtegkdnfeceomdaaGreatKDS2
import Derived.Test.YtegkdnfeceomdaaGreatKHWR
import Derived.Test.YtegkdnfeceomdaaGreatKDA25
import Derived.Test.YtegkdnfeceomdaaGreatKDA27
import Derived.Test.YtegkdnfeceomdaaGreatKDA4
set_option maxRecDepth 100000
set_option maxHeartbeats 16000000
set_option linter.unusedSimpArgs false
set_option linter.unusedVariables false
namespace Go.Hs
open Go.RowKit Go.Proofs.YtegkdnfeceomdaaGreat
theorem cand_or:∀n,n<6→∀o∈candN n,∀k,k<o.length→bits BinOp.or IntKind.i64 ((maskN (o.take k):Nat):Int) (wrap64 (2 ^ (o.getD k 0)))=((maskN (o.take (k+1)):Nat):Int)∧o.getD k 0<n∧(0<k→o.getD (k - 1) 0<o.getD k 0):=by decide+kernel
theorem and_full:∀n:Nat,n<6→∀t:Nat,t<256→bits BinOp.and IntKind.i64 (t:Int) (2 ^ n - 1)=((t % 2 ^ n:Nat):Int):=by decide+kernel
theorem maskN_take (o:List Nat):maskN (o.take o.length)=maskN o:=by rw [List.take_length]
theorem intsN_len (o:List Nat):(intsN o).length=o.length:=by simp [intsN]
theorem intsN_at {o:List Nat} {i:Nat} (h:i<o.length):(intsN o).getD i 0=((o.getD i 0:Nat):Int):=by simp [intsN,h]
theorem lft_law {c:DCas} (h:caseD c=0):(askD c true=9∧True)∨(askD c true=0∧leaveR c=leaveD c∧leaveD c∈candN c.clms.length):=by
 by_cases ha:askD c true=0
 ·exact .inr ⟨ha,by unfold leaveR;rw [if_pos ha],(leave_min ha).1⟩
 ·left
  rw [ask_of h] at ha⊢;split at ha
  ·rename_i h1;rw [if_pos h1];exact⟨rfl,trivial⟩
  ·exact absurd rfl ha
end Go.Hs
namespace Go.Proofs.YtegkdnfeceomdaaGreat
open Go.RowKit Go.Hs
attribute [local irreducible] World.setCell World.alloc
theorem ext_DoubleLeft (v : Value) (c : DCas) (u : Int) (w : World) (hv : DCasW w v c) (hu : 0 ≤ u ∧ u < 256) :
    Calls Tryz.prog 13 #[v,.int .u8 u] w fun e w'=>e= .returned (.bool true)∧Ext w w':=by
  have HAW:=hHd awake8;obtain⟨A,rfl,hcm⟩:=hv.parts;have HRD:Hid (∀W,Ext w W→Calls Tryz.prog 43 #[A.v c] W fun e w'=>e= .returned (.bool (readyD c))∧Ext W w'):=hHd (fun W hx=>ready_h A c W (fun h1 h2 h3 h4=>(hcm h1 h2 h3 h4).ext hx));have HCM:=hHd hcm;clear hv hcm;cases hrd:readyD c with
  | false =>
    rw [hrd] at HRD;clear HCM hrd;obtain⟨a1,c1,a2,c2,a3,c3,a4,c4⟩:=A;unfold CaseA.v caseV at*;simp only at*;go_enter Tryz.func13,Tryz.ntmps13
    (go_wp2_with fail);obtain⟨W,hW,X,HS,HSf,HSz⟩:=bx11 w 41 (.int .i64 c.bk.last) (.int .i64 c.bk.owners) (.slice a1 c.bk.pars.length c1) (.slice a2 c.bk.ents.length c2) (.int .i64 c.soc) (.int .i64 c.day) (.int .i64 c.parcel) (.slice a3 c.covs.length c3) (.int .i64 c.llo) (.int .i64 c.lhi) (.slice a4 c.clms.length c4);rw [hW];clear hW;have XX:Ext W W:=Ext.refl _;obtain⟨⟨q0,q1,q2,q3,q4,q5,q6,q7,q8,q9,q10⟩,-⟩:=HS.out W XX;(go_wp2_with fail);(with_reducible refine(HRD.out _ (X.trans XX)).mono ?_);rintro e w1 ⟨rfl,hx⟩;have hy:Ext W w1:=EX;replace XX:=XX.trans hy;clear hx hy;clear q0 q1 q2 q3 q4 q5 q6 q7 q8 q9 q10;(go_wp2_with fail);(with_reducible refine(HAW.out _).mono ?_);rintro e wz ⟨rfl,hx⟩;(go_wp2_with fail);go_ret;exact⟨rfl,X.trans (XX.trans hx)⟩
  | true =>
    rw [hrd] at HRD;obtain⟨hth,hc⟩:=readyD_iff.1 hrd;obtain⟨l3,l4,l1,l2⟩:=thinD_len hth;have hm:CaseM w A c:=HCM.out (by omega) (by omega) (by omega) (by omega);clear HCM hrd hth;have HCA:Hid (∀W A' x,x.bk.pars.length≤100∧x.bk.ents.length≤100∧x.covs.length≤100∧x.clms.length≤100→CaseM W A' x→Calls Tryz.prog 26 #[A'.v x] W fun e w'=>∃A2,e= .returned (CaseA.v A2 x)∧CaseM w' A2 x∧Ext W w'):=hHd (fun W A' x h hm=>Case_h A' x W hm h.1 h.2.1 h.2.2.1 h.2.2.2);have HLN:Hid (c.bk.pars.length≤100∧c.bk.ents.length≤100∧c.covs.length≤100∧c.clms.length≤100):=hHd (by omega);have hn5:=(caseD_zero hc).2.1.nm
    have HLV:Hid (∀W A',CaseM W A' c→Calls Tryz.prog 40 #[A'.v c] W fun e w'=>∃a q,e= .returned (.tuple #[.slice a (intsN (leaveR c)).length q,.int .i64 (askD c true)])∧IntsV w' (.slice a (intsN (leaveR c)).length q) (intsN (leaveR c))∧Ext W w'):=hHd (fun W A' h=>(Leave_d A' c W h).mono (fun e w' h=>by
      obtain⟨v,rfl,h1,h2⟩:=h;obtain⟨a,q,rfl,-⟩:=id h1;exact⟨a,q,rfl,h1,h2⟩))
    have HBO:=hHd (fun x W A' (h:CaseM W A' x)=>Bounds_r A' x W h);have HFU:Hid (∀W,Ext w W→Calls Tryz.prog 51 #[A.v c] W fun e w'=>e= .returned (.int .i64 (2 ^ c.clms.length - 1))∧Ext W w'):=hHd (fun W hx=>Full_h A c W hn5)
    have HSM:Hid (∀m:Nat,m<2 ^ c.clms.length→∀W,Ext w W→Calls Tryz.prog 50 #[A.v c,.int .i64 (bits BinOp.andNot IntKind.i64 (2 ^ c.clms.length - 1) (m:Int))] W fun e w'=>∃A',e= .returned (CaseA.v A' (someC c (2 ^ c.clms.length - 1 - m)))∧CaseM w' A' (someC c (2 ^ c.clms.length - 1 - m))∧Ext W w'):=hHd (fun m hmm W hx=>by
      have:=some_h A c (2 ^ c.clms.length - 1 - m) W (hm.ext hx) hn5 (by have:=pow_le32 hn5;omega);rw [←full_cast,andNot_mask c.clms.length (by omega) m hmm];exact this)
    have HSL:Hid (∀m,(someC c m).bk.pars.length≤100∧(someC c m).bk.ents.length≤100∧(someC c m).covs.length≤100∧(someC c m).clms.length≤100):=hHd (fun m=>⟨HLN.out.1,HLN.out.2.1,HLN.out.2.2.1,Nat.le_trans (someL_len c.clms m _) HLN.out.2.2.2⟩);have HMC:=hHd (fun W (hx:Ext w W)=>hm.ext hx);have HVV:Hid (∀W,Ext w W→Calls Tryz.prog 26 #[A.v c] W fun e w'=>∃A2,e= .returned (CaseA.v A2 c)∧CaseM w' A2 c∧Ext W w'):=hHd (fun W hx=>HCA.out W A c HLN.out (HMC.out W hx));have HLW:=hHd (lft_law hc);obtain⟨un,rfl⟩:∃n:Nat,u=(n:Int):=⟨u.toNat,by omega⟩;have hun:un<256:=by omega
    clear hm HMC hu;obtain⟨a1,c1,a2,c2,a3,c3,a4,c4⟩:=A;unfold CaseA.v caseV at*;simp only at*;go_enter Tryz.func13,Tryz.ntmps13
    (go_wp2_with fail);obtain⟨W,hW,X,HS,HSf,HSz⟩:=bx11 w 41 (.int .i64 c.bk.last) (.int .i64 c.bk.owners) (.slice a1 c.bk.pars.length c1) (.slice a2 c.bk.ents.length c2) (.int .i64 c.soc) (.int .i64 c.day) (.int .i64 c.parcel) (.slice a3 c.covs.length c3) (.int .i64 c.llo) (.int .i64 c.lhi) (.slice a4 c.clms.length c4);rw [hW];clear hW;have XX:Ext W W:=Ext.refl _;obtain⟨⟨q0,q1,q2,q3,q4,q5,q6,q7,q8,q9,q10⟩,-⟩:=HS.out W XX;(go_wp2_with fail);(with_reducible refine(HRD.out _ (X.trans XX)).mono ?_);rintro e w1 ⟨rfl,hx⟩;have hy:Ext W w1:=EX;replace XX:=XX.trans hy;clear hx hy;clear q0 q1 q2 q3 q4 q5 q6 q7 q8 q9 q10;obtain⟨⟨q0,q1,q2,q3,q4,q5,q6,q7,q8,q9,q10⟩,-⟩:=HS.out w1 XX;(go_wp2_with fail);(with_reducible refine(HVV.out _ (X.trans XX)).mono ?_);rintro e w2 ⟨A2,rfl,hm2,hx⟩;have hy:Ext w1 w2:=EX;replace XX:=XX.trans hy;clear hx hy;clear q0 q1 q2 q3 q4 q5 q6 q7 q8 q9 q10;(go_wp2_with fail);(with_reducible refine(HLV.out _ _ hm2).mono ?_);rintro e w3 ⟨la,lq,rfl,hil,hx⟩;have hy:Ext w2 w3:=EX;replace XX:=XX.trans hy;clear hx hy;clear hm2 HRD HLV;have HIL:=hHd hil;clear hil;rcases HLW.out with ⟨ha,-⟩|⟨ha,hlr,hcd⟩
    · rw [ha];clear HLW HSM HSL HBO HVV HFU HCA ha HIL hc hn5;(go_wp2_with fail);(with_reducible refine(HAW.out _).mono ?_);rintro e wz ⟨rfl,hx⟩;(go_wp2_with fail);go_ret;exact⟨rfl,X.trans (XX.trans hx)⟩
    · rw [ha]; have HLL := hHd (leave_law ha); rw [hlr] at HIL ⊢; generalize leaveD c = o at *; have HOR := hHd (cand_or c.clms.length (by omega) o hcd); have hol : o.length ≤ 5 := by have := (cand_lt c.clms.length (by omega) o hcd).2; omega
      have HAF:=hHd (and_full c.clms.length (by omega) un hun);have HP2:Hid (un % 2 ^ c.clms.length<2 ^ c.clms.length):=hHd (Nat.mod_lt _ (Nat.two_pow_pos _));have HMN:=hHd (fun(m:Nat) (hm:m<2 ^ c.clms.length)=>HLL.out.2.2 m hm);have HMO:=hHd (maskN_take o);have HIA:=hHd (fun i (h:i<o.length)=>intsN_at (o:=o) h);have hlen:(intsN o).length=o.length:=intsN_len o;rw [hlen] at HIL⊢;clear hlen HLW hlr hcd ha;obtain⟨p,q',e0,-,hcell⟩:=HIL.out.cellsI;simp only [Value.slice.injEq] at e0;obtain⟨rfl,-,rfl⟩:=e0
      have HCL:Hid (∀V,Ext w3 V→∀i,i<o.length→∃b off,la=some ⟨b,off,none⟩∧V.cell? ⟨b,off+i,none⟩=some (.int .i64 ((o.getD i 0:Nat):Int))):=hHd (fun V hx i hi=>by
        obtain⟨b,off,e,k⟩:=hcell i (by rw [intsN_len];exact hi);rw [HIA.out i hi] at k;exact⟨b,off,e,hx.keep k⟩)
      clear hcell HIA;have HXX:=hHd XX;(go_wp2_with fail);go_loopw [7,8] (fun s7 s8 wr=>∃k:Nat,k≤o.length∧s8= .int .i64 k∧s7= .int .i64 ((maskN (o.take k):Nat):Int)∧Ext w3 wr) (fun _ s _=>o.length - (intOf s).toNat)
      case atStart=>exact⟨0,Nat.zero_le _,rfl,rfl,Ext.refl _⟩
      case round =>
        obtain⟨k,hk,rfl,rfl,hx3⟩:=hrel;obtain⟨wo,rfl⟩:∃x,x=wr:=⟨_,rfl⟩;have hk0:(0:Int)≤(k:Int):=by omega
        obtain⟨⟨-,-,-,-,-,-,-,-,-,-,q10⟩,-⟩:=HS.out wo (HXX.out.trans hx3);by_cases hlt:k<o.length
        · have hk1 : (k : Int) < (o.length : Int) := by omega
          obtain⟨b,off,rfl,qc⟩:=HCL.out wo hx3 k hlt;obtain⟨h1,h2,h3⟩:=HOR.out k hlt;obtain⟨d,hd⟩:∃d,d=o.getD k 0:=⟨_,rfl⟩;rw [←hd] at qc h1 h2 h3;have HN1:=hHd h1;have d0:decide ((d:Int)<0)=false:=decide_eq_false (by omega);have d1:decide ((c.clms.length:Int)≤(d:Int))=false:=decide_eq_false (by omega);have d2:decide (c.clms.length≤d)=false:=decide_eq_false (by omega);have dn:¬(c.clms.length≤d):=by omega
          have hd64:(d:Int)≤64:=by omega
          have hd0:(0:Int)≤(d:Int):=by omega
          have HX:=hHd hx3;clear hd h1;clear hx3;have HC1:Hid (∀V,Ext wo V→V.cell? ⟨b,off+k,none⟩=some (.int .i64 (d:Int))∧V.cell? ⟨w.heap.size,10,none⟩=some (.slice a4 c.clms.length c4)):=hHd (fun V h=>⟨h.keep qc,h.keep q10⟩);clear qc q10;have HRD2:Hid (∀V,Ext wo V→V.cell? ⟨b,off+k,none⟩=some (.int .i64 (d:Int))):=hHd (fun V h=>(HC1.out V h).1);have hd64':(d:Int)<64:=by omega
          by_cases hk00:k=0
          · have e0 : decide ((0 : Int) < (k : Int)) = false := decide_eq_false (by omega); have e1 : decide (0 < k) = false := decide_eq_false (by omega); clear hk00 h3; (go_wp2_with fail); refine wp_region_quiet (C := Ext wo) (by kernel_rfl) (by kernel_rfl) (Ext.drew EX) ?_
            rw [tl]
            repeat (first
              |go_big_quiet_skip
              | (go_big_quiet_want
                 first
                  |(go_big_quiet_op;go_big_quiet_on)
                  | (apply Exists.intro
                     refine⟨fun w' hxw=> ?_,?_⟩
                     focus (obtain⟨c1',c2'⟩:=HC1.out w' hxw;go_simp;first|exact rfl|fail)
                     simp only [Act.put,List.setIfInBounds_toArray,List.set_cons_zero,List.set_cons_succ];go_big_quiet_on)))
            refine wpQuiet_nil ?_
            intro w2 hx2
            have qd:=HRD2.out w2 hx2;have HX2:=hHd hx2;clear hx2;(go_wp2_with fail);go_roundw
            case rel=>exact⟨k+1,by omega,by go_num,by rw [←HN1.out],HX.out.trans HX2.out⟩
            case measure=>simp [intOf];omega
          · have e0 : decide ((0 : Int) < (k : Int)) = true := decide_eq_true (by omega); have e1 : decide (0 < k) = true := decide_eq_true (by omega); obtain ⟨j, hj⟩ : ∃ j, j = k - 1 := ⟨_, rfl⟩; have hjl : j < o.length := by omega
            have hjl':(j:Int)<(o.length:Int):=by omega
            have hj0:(0:Int)≤(j:Int):=by omega
            have hjw:IntKind.i64.wrap ((k:Int) - 1)=(j:Int):=by rw [show (k:Int) - 1=(j:Int) by omega];exact IntWalk.i64_in _ (by omega)
            have hlt3:=h3 (by omega);rw [←hj] at hlt3;obtain⟨b',off',eb,qj⟩:=HCL.out wo HX.out j hjl;cases eb
            obtain⟨f,hf⟩:∃f,f=o.getD j 0:=⟨_,rfl⟩;rw [←hf] at qj hlt3;have e3:decide ((d:Int)≤(f:Int))=false:=decide_eq_false (by omega);have e4:decide (d≤f)=false:=decide_eq_false (by omega);have HC2:Hid (∀V,Ext wo V→V.cell? ⟨b,off+j,none⟩=some (.int .i64 (f:Int))):=hHd (fun V h=>h.keep qj);clear hk00 h3 hj hlt3 qj hf;(go_wp2_with fail);refine wp_region_quiet (C:=Ext wo) (by kernel_rfl) (by kernel_rfl) (Ext.drew EX) ?_
            rw [tl]
            repeat (first
              |go_big_quiet_skip
              | (go_big_quiet_want
                 first
                  |(go_big_quiet_op;go_big_quiet_on)
                  | (apply Exists.intro
                     refine⟨fun w' hxw=> ?_,?_⟩
                     focus (obtain⟨c1',c2'⟩:=HC1.out w' hxw;have c3':=HC2.out w' hxw;go_simp;first|exact rfl|fail)
                     simp only [Act.put,List.setIfInBounds_toArray,List.set_cons_zero,List.set_cons_succ];go_big_quiet_on)))
            refine wpQuiet_nil ?_
            intro w2 hx2
            have qd:=HRD2.out w2 hx2;have HX2:=hHd hx2;clear hx2;(go_wp2_with fail);go_roundw
            case rel=>exact⟨k+1,by omega,by go_num,by rw [←HN1.out],HX.out.trans HX2.out⟩
            case measure=>simp [intOf];omega
        · obtain rfl : k = o.length := by omega
          have XX:=HXX.out.trans hx3;have HX3:=hHd hx3;obtain⟨w20,rfl⟩:∃x,x=wo:=⟨_,rfl⟩;have hil20:=HIL.out.ext hx3;have hmo:=HMO.out;rw [hmo];clear hmo;obtain⟨mt,hmt⟩:∃m,m=un % 2 ^ c.clms.length:=⟨_,rfl⟩;have hAF:=HAF.out;have hP2:=HP2.out;rw [←hmt] at hAF hP2;have HSA:=hHd (HSM.out (maskN o) HLL.out.1);have HSB:=hHd (HSM.out mt hP2);have hba:=HLL.out.2.1;have hbb:=HMN.out mt hP2;have HBT:=hHd (fun W=>Bits_h mt (by have:=pow_le32 hn5;omega) W);have HSH:=hHd (fun v W (h1:IntsV W v (bitsH mt)) (h2:IntsV W (.slice la o.length lq) (intsN o))=>Shorter_h v _ (bitsH mt) (intsN o) W h1 h2 (by have:=bitsH_len mt;omega) (by rw [intsN_len];omega));have HLA:=hHd (HSL.out (2 ^ c.clms.length - 1 - maskN o));have HLB:=hHd (HSL.out (2 ^ c.clms.length - 1 - mt));generalize someC c (2 ^ c.clms.length - 1 - maskN o)=ca at*;generalize someC c (2 ^ c.clms.length - 1 - mt)=cb at*;generalize maskN o=mo at*;generalize (2:Int) ^ c.clms.length - 1=F at*
          have HBA:Hid (∀W A',CaseM W A' ca→Calls Tryz.prog 33 #[A'.v ca] W fun e w'=>∃a n q,e= .returned (.tuple #[.slice a n q,.int .i64 0])∧Ext W w'):=hHd (fun W A' h=>(HBO.out ca W A' h).mono (fun e w' k=>by
            obtain⟨a,n,q,k1,-,-,k2⟩:=k;exact⟨a,n,q,by rw [k1,hba],k2⟩))
          have HBB:Hid (∀W A',CaseM W A' cb→Calls Tryz.prog 33 #[A'.v cb] W fun e w'=>∃a n q,e= .returned (.tuple #[.slice a n q,.int .i64 (bndE cb)])∧Ext W w'):=hHd (fun W A' h=>(HBO.out cb W A' h).mono (fun e w' k=>by
            obtain⟨a,n,q,k1,-,-,k2⟩:=k;exact⟨a,n,q,k1,k2⟩))
          unfold CaseA.v caseV at HBA HBB;generalize bndE cb=gb at*;have HBE:=hHd hbb;have hwu:IntKind.i64.wrap (un:Int)=(un:Int):=IntWalk.i64_in _ (by omega);clear hba hbb HSM HSL HLL HMN HBO HIL HCL HOR HMO HAF HP2 hmt hP2 hx3 HXX HVV hlt hk;obtain⟨⟨q0,q1,q2,q3,q4,q5,q6,q7,q8,q9,q10⟩,-⟩:=HS.out w20 XX;(go_wp2_with fail);(with_reducible refine(HFU.out _ (X.trans XX)).mono ?_);rintro e w21 ⟨rfl,hx⟩;have hy:Ext w20 w21:=EX;replace XX:=XX.trans hy;replace hil20:=hil20.ext hy;clear hx hy;clear q0 q1 q2 q3 q4 q5 q6 q7 q8 q9 q10;have XW:=X.trans XX;have HXW:=hHd XW;have HIL21:=hHd hil20;clear hil20;have HK:Hid (∀w',Ext w21 w'→(w'.cell? ⟨w.heap.size,0,none⟩=some (.int .i64 c.bk.last)∧w'.cell? ⟨w.heap.size,1,none⟩=some (.int .i64 c.bk.owners)∧w'.cell? ⟨w.heap.size,2,none⟩=some (.slice a1 c.bk.pars.length c1)∧w'.cell? ⟨w.heap.size,3,none⟩=some (.slice a2 c.bk.ents.length c2)∧w'.cell? ⟨w.heap.size,4,none⟩=some (.int .i64 c.soc)∧w'.cell? ⟨w.heap.size,5,none⟩=some (.int .i64 c.day)∧w'.cell? ⟨w.heap.size,6,none⟩=some (.int .i64 c.parcel)∧w'.cell? ⟨w.heap.size,7,none⟩=some (.slice a3 c.covs.length c3)∧w'.cell? ⟨w.heap.size,8,none⟩=some (.int .i64 c.llo)∧w'.cell? ⟨w.heap.size,9,none⟩=some (.int .i64 c.lhi)∧w'.cell? ⟨w.heap.size,10,none⟩=some (.slice a4 c.clms.length c4))∧Ext w21 w'):=hHd (fun w' hx=>⟨(HS.out w' (Ext.trans XX hx)).1,hx⟩);have xx:Ext w21 w21:=Ext.refl _;clear XW;go_upto_region 14 with fail
          clear hAF hwu
          go_region_held3 (fun w'=>(w'.cell? ⟨w.heap.size,0,none⟩=some (.int .i64 c.bk.last)∧w'.cell? ⟨w.heap.size,1,none⟩=some (.int .i64 c.bk.owners)∧w'.cell? ⟨w.heap.size,2,none⟩=some (.slice a1 c.bk.pars.length c1)∧w'.cell? ⟨w.heap.size,3,none⟩=some (.slice a2 c.bk.ents.length c2)∧w'.cell? ⟨w.heap.size,4,none⟩=some (.int .i64 c.soc)∧w'.cell? ⟨w.heap.size,5,none⟩=some (.int .i64 c.day)∧w'.cell? ⟨w.heap.size,6,none⟩=some (.int .i64 c.parcel)∧w'.cell? ⟨w.heap.size,7,none⟩=some (.slice a3 c.covs.length c3)∧w'.cell? ⟨w.heap.size,8,none⟩=some (.int .i64 c.llo)∧w'.cell? ⟨w.heap.size,9,none⟩=some (.int .i64 c.lhi)∧w'.cell? ⟨w.heap.size,10,none⟩=some (.slice a4 c.clms.length c4))∧Ext w21 w')
            ((refine HK.out _ ?_;exact EX))
            (first
              |(go_at_call 51;(with_reducible refine(HFU.out _ (HXW.out.trans EX)).mono ?_);rintro e w22 ⟨rfl,hxa⟩)
              |(go_at_call 50;(with_reducible refine(HSA.out _ (HXW.out.trans EX)).mono ?_);rintro e w23 ⟨A5,rfl,hm5,hxb⟩)
              |(go_at_call 26;(with_reducible refine(HCA.out _ _ _ HLA.out (hm5.ext EX)).mono ?_);rintro e w24 ⟨A6,rfl,hm6,hxc⟩)
              |(go_at_call 33;(with_reducible refine(HBA.out _ _ (hm6.ext EX)).mono ?_);rintro e w25 ⟨ba,bn,bq,rfl,hxd⟩))
          have X25:Ext w21 w25:=EX;have HM:Hid (∀w',Ext w25 w'→(w'.cell? ⟨w.heap.size,0,none⟩=some (.int .i64 c.bk.last)∧w'.cell? ⟨w.heap.size,1,none⟩=some (.int .i64 c.bk.owners)∧w'.cell? ⟨w.heap.size,2,none⟩=some (.slice a1 c.bk.pars.length c1)∧w'.cell? ⟨w.heap.size,3,none⟩=some (.slice a2 c.bk.ents.length c2)∧w'.cell? ⟨w.heap.size,4,none⟩=some (.int .i64 c.soc)∧w'.cell? ⟨w.heap.size,5,none⟩=some (.int .i64 c.day)∧w'.cell? ⟨w.heap.size,6,none⟩=some (.int .i64 c.parcel)∧w'.cell? ⟨w.heap.size,7,none⟩=some (.slice a3 c.covs.length c3)∧w'.cell? ⟨w.heap.size,8,none⟩=some (.int .i64 c.llo)∧w'.cell? ⟨w.heap.size,9,none⟩=some (.int .i64 c.lhi)∧w'.cell? ⟨w.heap.size,10,none⟩=some (.slice a4 c.clms.length c4))∧Ext w25 w'):=hHd (fun w' hx=>⟨(HK.out w' (Ext.trans X25 hx)).1,hx⟩);have HXV:=hHd (HXW.out.trans X25);have xx2:Ext w25 w25:=Ext.refl _;have HXE:=hHd X25;clear hxa hxb hxc hxd hm5 hm6 HK X25 HSA HBA HLA xx;go_wp2_with fail
          go_region_held3 (fun w'=>(w'.cell? ⟨w.heap.size,0,none⟩=some (.int .i64 c.bk.last)∧w'.cell? ⟨w.heap.size,1,none⟩=some (.int .i64 c.bk.owners)∧w'.cell? ⟨w.heap.size,2,none⟩=some (.slice a1 c.bk.pars.length c1)∧w'.cell? ⟨w.heap.size,3,none⟩=some (.slice a2 c.bk.ents.length c2)∧w'.cell? ⟨w.heap.size,4,none⟩=some (.int .i64 c.soc)∧w'.cell? ⟨w.heap.size,5,none⟩=some (.int .i64 c.day)∧w'.cell? ⟨w.heap.size,6,none⟩=some (.int .i64 c.parcel)∧w'.cell? ⟨w.heap.size,7,none⟩=some (.slice a3 c.covs.length c3)∧w'.cell? ⟨w.heap.size,8,none⟩=some (.int .i64 c.llo)∧w'.cell? ⟨w.heap.size,9,none⟩=some (.int .i64 c.lhi)∧w'.cell? ⟨w.heap.size,10,none⟩=some (.slice a4 c.clms.length c4))∧Ext w25 w')
            ((refine HM.out _ ?_;exact EX))
            (first
              |(go_at_call 51;(with_reducible refine(HFU.out _ (HXV.out.trans EX)).mono ?_);rintro e w26 ⟨rfl,hxa⟩)
              |(go_at_call 50;(with_reducible refine(HSB.out _ (HXV.out.trans EX)).mono ?_);rintro e w27 ⟨A5,rfl,hm5,hxb⟩)
              |(go_at_call 26;(with_reducible refine(HCA.out _ _ _ HLB.out (hm5.ext EX)).mono ?_);rintro e w28 ⟨A6,rfl,hm6,hxc⟩)
              |(go_at_call 33;(with_reducible refine(HBB.out _ _ (hm6.ext EX)).mono ?_);rintro e w29 ⟨ba,bn,bq,rfl,hxd⟩))
          have X29:Ext w25 w29:=EX;have HXZ:=hHd (HXV.out.trans X29);have HXE2:=hHd (HXE.out.trans X29);clear hxa hxb hxc hxd hm5 hm6 HM X29 HSB HBB HLB xx2 HFU HCA HXE HXV;rcases HBE.out with rfl|⟨rfl,hsh⟩
          · clear HBE;(go_wp2_with fail);(with_reducible refine(HAW.out _).mono ?_);rintro e wz ⟨rfl,hx⟩;(go_wp2_with fail);go_ret;exact⟨rfl,HXZ.out.trans hx⟩
          · have HS0:=hHd hsh;clear HBE hsh;(go_wp2_with fail);(with_reducible refine(HBT.out _).mono ?_);rintro e w30 ⟨vb,rfl,hvb,hx30⟩;(go_wp2_with fail);(with_reducible refine(HSH.out vb _ hvb (HIL21.out.ext (HXE2.out.trans hx30))).mono ?_);rintro e w31 ⟨rfl,hx31⟩;rw [HS0.out];(go_wp2_with fail);(with_reducible refine(HAW.out _).mono ?_);rintro e wz ⟨rfl,hx⟩;(go_wp2_with fail);go_ret;exact⟨rfl,HXZ.out.trans (hx30.trans (hx31.trans hx))⟩
theorem walk_DoubleLeft (v:Value) (c:DCas) (u:Int) (w:World) (hv:DCasW w v c) (hu:(Lit.int .u8 u).wf=true):
  Calls Tryz.prog 13 #[v,.int .u8 u] w fun e w'=>e= .returned (.bool true)∧Below w.heap.size w w':=ext_DoubleLeft v c u w hv (u8_in8 hu)
end Go.Proofs.YtegkdnfeceomdaaGreat
