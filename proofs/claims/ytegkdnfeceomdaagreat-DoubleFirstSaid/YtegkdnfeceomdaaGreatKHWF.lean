/- The walk of DoubleFirst. Printed by gen_wf.py. -/
import Derived.Test.YtegkdnfeceomdaaGreatKHSM
import Derived.Test.YtegkdnfeceomdaaGreatKDS2
import Derived.Test.YtegkdnfeceomdaaGreatKHWR
import Derived.Test.YtegkdnfeceomdaaGreatKDA24
import Derived.Test.YtegkdnfeceomdaaGreatKDA27
import Derived.Test.YtegkdnfeceomdaaGreatKDA4
set_option maxRecDepth 100000
set_option maxHeartbeats 16000000
set_option linter.unusedSimpArgs false
set_option linter.unusedVariables false
namespace Go.Hs
open Go.RowKit Go.Proofs.YtegkdnfeceomdaaGreat
theorem fst_law {c:DCas} (h:caseD c=0):((fstE c=9∧bndE c=9)∨(fstE c=7∧bndE c=0))∨(fstE c=0∧∃k:Nat,fstN c=(k:Int)∧k<c.clms.length∧bndE (someC c (2 ^ k - 1))=0∧bndE (someC c (2*2 ^ k - 1))=11):=by
 by_cases ha:askD c true=0
 ·have e1 : fstE c = if (firstS c).isSome then 0 else 7 := by unfold fstE; rw [if_neg (by simp [ha])]
  have e2:fstN c=(((firstS c).getD 0:Nat):Int):=by unfold fstN;rw [if_neg (by simp [ha])]
  rw [e1,e2];cases hf:firstS c with
  |none=>exact .inl (.inr ⟨rfl,first_none ha hf⟩)
  |some k=>exact .inr ⟨rfl,k,rfl,first_law ha hf⟩
 ·have e : askD c true = 9 := by
   rw [ask_of h] at ha⊢;split at ha
   ·rename_i h1;rw [if_pos h1]
   ·exact absurd rfl ha
  left;left
  exact⟨by unfold fstE;rw [if_pos ha,e],by rw [bnd_no ha,e]⟩
theorem w2pow (k:Nat) (h:k<5):wrap64 (wrap64 (2 ^ k) - 1)=((2 ^ k - 1:Nat):Int)∧wrap64 (wrap64 (2*2 ^ k) - 1)=((2*2 ^ k - 1:Nat):Int)∧2 ^ k - 1<4096∧2*2 ^ k - 1<4096:=(by decide+kernel:∀k:Nat,k<5→wrap64 (wrap64 (2 ^ k) - 1)=((2 ^ k - 1:Nat):Int)∧wrap64 (wrap64 (2*2 ^ k) - 1)=((2*2 ^ k - 1:Nat):Int)∧2 ^ k - 1<4096∧2*2 ^ k - 1<4096) k h
end Go.Hs
namespace Go.Proofs.YtegkdnfeceomdaaGreat
open Go.RowKit Go.Hs
attribute [local irreducible] World.setCell World.alloc
theorem ext_DoubleFirst (v : Value) (c : DCas) (w : World) (hv : DCasW w v c) :
    Calls Tryz.prog 12 #[v] w fun e w'=>e= .returned (.bool true)∧Ext w w':=by
  have HAW:=hHd awake8;obtain⟨A,rfl,hcm⟩:=hv.parts;have HRD:Hid (∀W,Ext w W→Calls Tryz.prog 43 #[A.v c] W fun e w'=>e= .returned (.bool (readyD c))∧Ext W w'):=hHd (fun W hx=>ready_h A c W (fun h1 h2 h3 h4=>(hcm h1 h2 h3 h4).ext hx));have HCM:=hHd hcm;clear hv hcm;cases hrd:readyD c with
  | false =>
    rw [hrd] at HRD;clear HCM hrd;obtain⟨a1,c1,a2,c2,a3,c3,a4,c4⟩:=A;unfold CaseA.v caseV at*;simp only at*;go_enter Tryz.func12,Tryz.ntmps12
    (go_wp2_with fail);obtain⟨W,hW,X,HS,HSf,HSz⟩:=bx11 w 41 (.int .i64 c.bk.last) (.int .i64 c.bk.owners) (.slice a1 c.bk.pars.length c1) (.slice a2 c.bk.ents.length c2) (.int .i64 c.soc) (.int .i64 c.day) (.int .i64 c.parcel) (.slice a3 c.covs.length c3) (.int .i64 c.llo) (.int .i64 c.lhi) (.slice a4 c.clms.length c4);rw [hW];clear hW;have XX:Ext W W:=Ext.refl _;obtain⟨⟨q0,q1,q2,q3,q4,q5,q6,q7,q8,q9,q10⟩,-⟩:=HS.out W XX;(go_wp2_with fail);(with_reducible refine(HRD.out _ (X.trans XX)).mono ?_);rintro e w1 ⟨rfl,hx⟩;have hy:Ext W w1:=EX;replace XX:=XX.trans hy;clear hx hy;clear q0 q1 q2 q3 q4 q5 q6 q7 q8 q9 q10;(go_wp2_with fail);(with_reducible refine(HAW.out _).mono ?_);rintro e wz ⟨rfl,hx⟩;(go_wp2_with fail);go_ret;exact⟨rfl,X.trans (XX.trans hx)⟩
  | true =>
    rw [hrd] at HRD;obtain⟨hth,hc⟩:=readyD_iff.1 hrd;obtain⟨l3,l4,l1,l2⟩:=thinD_len hth;have hm:CaseM w A c:=HCM.out (by omega) (by omega) (by omega) (by omega);clear HCM hrd hth;have HCA:Hid (∀W A' x,x.bk.pars.length≤100∧x.bk.ents.length≤100∧x.covs.length≤100∧x.clms.length≤100→CaseM W A' x→Calls Tryz.prog 26 #[A'.v x] W fun e w'=>∃A2,e= .returned (CaseA.v A2 x)∧CaseM w' A2 x∧Ext W w'):=hHd (fun W A' x h hm=>Case_h A' x W hm h.1 h.2.1 h.2.2.1 h.2.2.2);have HLN:Hid (c.bk.pars.length≤100∧c.bk.ents.length≤100∧c.covs.length≤100∧c.clms.length≤100):=hHd (by omega);have hn5:=(caseD_zero hc).2.1.nm;have HFI:=hHd (fun W A' (h:CaseM W A' c)=>First_d A' c W h);have HBO:=hHd (fun x W A' (h:CaseM W A' x)=>Bounds_r A' x W h);have HIN:=hHd In_h
    have HS0:Hid (∀k:Nat,k<c.clms.length→∀W,Ext w W→Calls Tryz.prog 50 #[A.v c,.int .i64 (wrap64 (wrap64 (2 ^ k) - 1))] W fun e w'=>∃A',e= .returned (CaseA.v A' (someC c (2 ^ k - 1)))∧CaseM w' A' (someC c (2 ^ k - 1))∧Ext W w'):=hHd (fun k hk W hx=>by
      obtain⟨p1,-,p3,-⟩:=w2pow k (by omega);rw [p1];exact some_h A c (2 ^ k - 1) W (hm.ext hx) hn5 p3)
    have HS1:Hid (∀k:Nat,k<c.clms.length→∀W,Ext w W→Calls Tryz.prog 50 #[A.v c,.int .i64 (wrap64 (wrap64 (2*2 ^ k) - 1))] W fun e w'=>∃A',e= .returned (CaseA.v A' (someC c (2*2 ^ k - 1)))∧CaseM w' A' (someC c (2*2 ^ k - 1))∧Ext W w'):=hHd (fun k hk W hx=>by
      obtain⟨-,p2,-,p4⟩:=w2pow k (by omega);rw [p2];exact some_h A c (2*2 ^ k - 1) W (hm.ext hx) hn5 p4)
    have HSL:Hid (∀m,(someC c m).bk.pars.length≤100∧(someC c m).bk.ents.length≤100∧(someC c m).covs.length≤100∧(someC c m).clms.length≤100):=hHd (fun m=>⟨HLN.out.1,HLN.out.2.1,HLN.out.2.2.1,Nat.le_trans (someL_len c.clms m _) HLN.out.2.2.2⟩);have HLW:=hHd (fst_law hc);have HMC:=hHd (fun W (hx:Ext w W)=>hm.ext hx);clear hm hc;have HVV:Hid (∀W,Ext w W→Calls Tryz.prog 26 #[A.v c] W fun e w'=>∃A2,e= .returned (CaseA.v A2 c)∧CaseM w' A2 c∧Ext W w'):=hHd (fun W hx=>HCA.out W A c HLN.out (HMC.out W hx));obtain⟨a1,c1,a2,c2,a3,c3,a4,c4⟩:=A;unfold CaseA.v caseV at*;simp only at*;clear HMC;generalize fstE c=fe at*;generalize fstN c=fn at*;go_enter Tryz.func12,Tryz.ntmps12
    (go_wp2_with fail);obtain⟨W,hW,X,HS,HSf,HSz⟩:=bx11 w 41 (.int .i64 c.bk.last) (.int .i64 c.bk.owners) (.slice a1 c.bk.pars.length c1) (.slice a2 c.bk.ents.length c2) (.int .i64 c.soc) (.int .i64 c.day) (.int .i64 c.parcel) (.slice a3 c.covs.length c3) (.int .i64 c.llo) (.int .i64 c.lhi) (.slice a4 c.clms.length c4);rw [hW];clear hW;have XX:Ext W W:=Ext.refl _;obtain⟨⟨q0,q1,q2,q3,q4,q5,q6,q7,q8,q9,q10⟩,-⟩:=HS.out W XX;(go_wp2_with fail);(with_reducible refine(HRD.out _ (X.trans XX)).mono ?_);rintro e w1 ⟨rfl,hx⟩;have hy:Ext W w1:=EX;replace XX:=XX.trans hy;clear hx hy;clear q0 q1 q2 q3 q4 q5 q6 q7 q8 q9 q10;obtain⟨⟨q0,q1,q2,q3,q4,q5,q6,q7,q8,q9,q10⟩,-⟩:=HS.out w1 XX;(go_wp2_with fail);(with_reducible refine(HVV.out _ (X.trans XX)).mono ?_);rintro e w2 ⟨A2,rfl,hm2,hx⟩;have hy:Ext w1 w2:=EX;replace XX:=XX.trans hy;clear hx hy;clear q0 q1 q2 q3 q4 q5 q6 q7 q8 q9 q10;(go_wp2_with fail);(with_reducible refine(HFI.out _ _ hm2).mono ?_);rintro e w3 ⟨rfl,hx⟩;have hy:Ext w2 w3:=EX;replace XX:=XX.trans hy;clear hx hy;clear hm2 HFI HRD;rcases HLW.out with hc1|⟨rfl,k,rfl,hk,hb0,hb1⟩
    · clear HLW HS0 HS1 HSL HIN; have HC1 := hHd hc1; clear hc1; obtain ⟨b, hb⟩ : ∃ b, b = bndE c := ⟨_, rfl⟩
      have HBB:Hid (∀W A',CaseM W A' c→Calls Tryz.prog 33 #[A'.v c] W fun e w'=>∃a n q,e= .returned (.tuple #[.slice a n q,.int .i64 b])∧Ext W w'):=hHd (fun W A' h=>(HBO.out c W A' h).mono (fun e w' k=>by
        obtain⟨a,n,q,k1,-,-,k2⟩:=k;exact⟨a,n,q,by rw [k1,hb],k2⟩))
      unfold CaseA.v caseV at HBB;rw [←hb] at HC1;clear hb HBO;obtain⟨rfl,rfl⟩|⟨rfl,rfl⟩:=HC1.out
      all_goals
        clear HC1;obtain⟨⟨q0,q1,q2,q3,q4,q5,q6,q7,q8,q9,q10⟩,-⟩:=HS.out w3 XX;(go_wp2_with fail);(with_reducible refine(HVV.out _ (X.trans XX)).mono ?_);rintro e w4 ⟨A4,rfl,hm4,hx⟩;have hy:Ext w3 w4:=EX;replace XX:=XX.trans hy;clear hx hy;clear q0 q1 q2 q3 q4 q5 q6 q7 q8 q9 q10;(go_wp2_with fail);(with_reducible refine(HBB.out _ _ hm4).mono ?_);rintro e w5 ⟨ba,bn,bq,rfl,hx⟩;have hy:Ext w4 w5:=EX;replace XX:=XX.trans hy;clear hx hy;(go_wp2_with fail);(with_reducible refine(HAW.out _).mono ?_);rintro e wz ⟨rfl,hx⟩;(go_wp2_with fail);go_ret;exact⟨rfl,X.trans (XX.trans hx)⟩
    · have HB0 := hHd hb0; have HB1 := hHd hb1; clear HLW hb0 hb1; have hk0 : (0 : Int) ≤ (k : Int) := by omega
      have hk64:(k:Int)≤64:=by omega
      have hin:inR (k:Int) 0 ((c.clms.length:Int) - 1)=true:=inR_iff.2 ⟨by omega,by omega⟩;have HIK:=hHd (fun W=>In_h (k:Int) 0 ((c.clms.length:Int) - 1) W);rw [hin] at HIK;have HSA:=hHd (HS0.out k hk);have HSB:=hHd (HS1.out k hk);have HLA:=hHd (HSL.out (2 ^ k - 1));have HLB:=hHd (HSL.out (2*2 ^ k - 1));generalize someC c (2 ^ k - 1)=ca at*;generalize someC c (2*2 ^ k - 1)=cb at*;clear HS0 HS1 HSL HVV HIN hin
      have HBA:Hid (∀W A',CaseM W A' ca→Calls Tryz.prog 33 #[A'.v ca] W fun e w'=>∃a n q,e= .returned (.tuple #[.slice a n q,.int .i64 0])∧Ext W w'):=hHd (fun W A' h=>(HBO.out ca W A' h).mono (fun e w' k=>by
        obtain⟨a,n,q,k1,-,-,k2⟩:=k;exact⟨a,n,q,by rw [k1,HB0.out],k2⟩))
      have HBB:Hid (∀W A',CaseM W A' cb→Calls Tryz.prog 33 #[A'.v cb] W fun e w'=>∃a n q,e= .returned (.tuple #[.slice a n q,.int .i64 11])∧Ext W w'):=hHd (fun W A' h=>(HBO.out cb W A' h).mono (fun e w' k=>by
        obtain⟨a,n,q,k1,-,-,k2⟩:=k;exact⟨a,n,q,by rw [k1,HB1.out],k2⟩))
      clear HBO HB0 HB1;unfold CaseA.v caseV at HBA HBB;obtain⟨⟨q0,q1,q2,q3,q4,q5,q6,q7,q8,q9,q10⟩,-⟩:=HS.out w3 XX;(go_wp2_with fail);(with_reducible refine(HIK.out _).mono ?_);rintro e w4 ⟨rfl,hx⟩;have hy:Ext w3 w4:=EX;replace XX:=XX.trans hy;clear hx hy;clear q0 q1 q2 q3 q4 q5 q6 q7 q8 q9 q10;obtain⟨⟨q0,q1,q2,q3,q4,q5,q6,q7,q8,q9,q10⟩,-⟩:=HS.out w4 XX;(go_wp2_with fail);(with_reducible refine(HSA.out _ (X.trans XX)).mono ?_);rintro e w5 ⟨A5,rfl,hm5,hx⟩;have hy:Ext w4 w5:=EX;replace XX:=XX.trans hy;clear hx hy;clear q0 q1 q2 q3 q4 q5 q6 q7 q8 q9 q10;(go_wp2_with fail);(with_reducible refine(HCA.out _ _ _ HLA.out hm5).mono ?_);rintro e w6 ⟨A6,rfl,hm6,hx⟩;have hy:Ext w5 w6:=EX;replace XX:=XX.trans hy;clear hx hy;clear hm5;(go_wp2_with fail);(with_reducible refine(HBA.out _ _ hm6).mono ?_);rintro e w7 ⟨ba,bn,bq,rfl,hx⟩;have hy:Ext w6 w7:=EX;replace XX:=XX.trans hy;clear hx hy;clear hm6;obtain⟨⟨q0,q1,q2,q3,q4,q5,q6,q7,q8,q9,q10⟩,-⟩:=HS.out w7 XX;(go_wp2_with fail);(with_reducible refine(HSB.out _ (X.trans XX)).mono ?_);rintro e w8 ⟨A8,rfl,hm8,hx⟩;have hy:Ext w7 w8:=EX;replace XX:=XX.trans hy;clear hx hy;clear q0 q1 q2 q3 q4 q5 q6 q7 q8 q9 q10;(go_wp2_with fail);(with_reducible refine(HCA.out _ _ _ HLB.out hm8).mono ?_);rintro e w9 ⟨A9,rfl,hm9,hx⟩;have hy:Ext w8 w9:=EX;replace XX:=XX.trans hy;clear hx hy;clear hm8;(go_wp2_with fail);(with_reducible refine(HBB.out _ _ hm9).mono ?_);rintro e w10 ⟨bc,bm,br,rfl,hx⟩;have hy:Ext w9 w10:=EX;replace XX:=XX.trans hy;clear hx hy;(go_wp2_with fail);(with_reducible refine(HAW.out _).mono ?_);rintro e wz ⟨rfl,hx⟩;(go_wp2_with fail);go_ret;exact⟨rfl,X.trans (XX.trans hx)⟩
theorem walk_DoubleFirst (v:Value) (c:DCas) (w:World) (hv:DCasW w v c):
  Calls Tryz.prog 12 #[v] w fun e w'=>e= .returned (.bool true)∧Below w.heap.size w w':=ext_DoubleFirst v c w hv
end Go.Proofs.YtegkdnfeceomdaaGreat
