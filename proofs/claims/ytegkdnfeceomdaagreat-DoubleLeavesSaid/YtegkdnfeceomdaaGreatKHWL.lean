/- The walk of DoubleLeaves. -/
import Derived.Test.YtegkdnfeceomdaaGreatKDS2
import Derived.Test.YtegkdnfeceomdaaGreatKDL1
import Derived.Test.YtegkdnfeceomdaaGreatKDA25
import Derived.Test.YtegkdnfeceomdaaGreatKDA24
import Derived.Test.YtegkdnfeceomdaaGreatKDA27
import Derived.Test.YtegkdnfeceomdaaGreatKDA4
set_option maxRecDepth 100000
set_option maxHeartbeats 16000000
set_option linter.unusedSimpArgs false
set_option linter.unusedVariables false
namespace Go.Hs
open Go.RowKit Go.Proofs.YtegkdnfeceomdaaGreat
theorem bookE_val (b:Bk):bookE b=0∨bookE b=1∨bookE b=3:=by
 unfold bookE
 repeat' split
 all_goals omega
theorem caseD_val (c:DCas):caseD c=0∨caseD c=1∨caseD c=3:=by
 have:=bookE_val c.bk;unfold caseD
 repeat' split
 all_goals omega
theorem askT_val (c:DCas):askD c true=0∨askD c true=1∨askD c true=3∨askD c true=9:=by
 have:=caseD_val c;unfold askD
 repeat' split
 all_goals first|omega|simp_all
theorem lv_no {c:DCas} (h:askD c true≠0):bndE c≠0∧bndE c≠11∧fstE c=bndE c∧fstN c=0∧intsN (leaveR c)= []∧askD c true=bndE c:=by
 have e:bndE c=askD c true:=by unfold bndE;rw [if_pos h]
 have hv:=askT_val c;rw [e];exact⟨h,by omega,by unfold fstE;rw [if_pos h],by unfold fstN;rw [if_pos h],by unfold leaveR;rw [if_neg h];rfl,rfl⟩
theorem lv_yes {c:DCas} (h:askD c true=0):caseD c=0∧(bndE c=0∨bndE c=11)∧((firstUp (allD c) c.clms.length= -1∧fstE c=7∧fstN c=0)∨∃k:Nat,firstUp (allD c) c.clms.length=(k:Int)∧fstE c=0∧fstN c=(k:Int))∧leaveUp (allD c) (2 ^ c.clms.length - 1) (2 ^ c.clms.length - 1+1)=intsN (leaveR c):=by
 obtain⟨hc,-,ht⟩:=askD_zero h;refine⟨hc,?_,?_,?_⟩
 ·unfold bndE;rw [if_neg (by simp [h])];split<;>simp
 ·rw [first_eq hc]; have e1 : fstE c = if (firstS c).isSome then 0 else 7 := by unfold fstE; rw [if_neg (by simp [h])]
  have e2:fstN c=(((firstS c).getD 0:Nat):Int):=by unfold fstN;rw [if_neg (by simp [h])]
  rw [e1,e2];cases firstS c with
  |none=>left;exact⟨rfl,rfl,rfl⟩
  |some k=>right;exact⟨k,rfl,rfl,rfl⟩
 ·unfold leaveR;rw [if_pos h];exact leave_eq hc (by rw [can_zero hc,ht];rfl)
end Go.Hs
namespace Go.Proofs.YtegkdnfeceomdaaGreat
open Go.RowKit Go.Hs
attribute [local irreducible] World.setCell World.alloc
theorem leaves_ext (v : Value) (c : DCas) (w : World) (hv : DCasW w v c) :
    Calls Tryz.prog 6 #[v] w fun e w'=>e= .returned (.bool true)∧Ext w w':=by
  have HAW:=hHd awake8;obtain⟨A,rfl,hcm⟩:=hv.parts;have HTH:Hid (∀W,Ext w W→Calls Tryz.prog 24 #[A.v c] W fun e w'=>e= .returned (.bool (thinD c))∧Ext W w'):=hHd (fun W hx=>Thin8_h A c W (fun h1 h2 h3 h4=>(hcm h1 h2 h3 h4).ext hx));have HCM:=hHd hcm;clear hv hcm;cases hth:thinD c with
  | false =>
    rw [hth] at HTH;clear HCM hth;obtain⟨a1,c1,a2,c2,a3,c3,a4,c4⟩:=A;unfold CaseA.v caseV at*;simp only at*;go_enter Tryz.func6,Tryz.ntmps6
    (go_wp2_with fail);obtain⟨W,hW,X,HS,HSf,HSz⟩:=bx11 w 41 (.int .i64 c.bk.last) (.int .i64 c.bk.owners) (.slice a1 c.bk.pars.length c1) (.slice a2 c.bk.ents.length c2) (.int .i64 c.soc) (.int .i64 c.day) (.int .i64 c.parcel) (.slice a3 c.covs.length c3) (.int .i64 c.llo) (.int .i64 c.lhi) (.slice a4 c.clms.length c4);rw [hW];clear hW;(with_reducible refine(HTH.out _ X).mono ?_);rintro e w1 ⟨rfl,hx1⟩;(go_wp2_with fail);(with_reducible refine(HAW.out _).mono ?_);rintro e w2 ⟨rfl,hx2⟩;(go_wp2_with fail);go_ret;exact⟨rfl,EX⟩
  | true =>
    rw [hth] at HTH;obtain⟨l3,l4,l1,l2⟩:=thinD_len hth;have hm:CaseM w A c:=HCM.out (by omega) (by omega) (by omega) (by omega);clear HCM hth;have HCA:=hHd (fun W hx=>Case_h A c W (hm.ext (w':=W) hx) (by omega) (by omega) (by omega) (by omega));have HFI:=hHd (fun W A' (h:CaseM W A' c)=>First_d A' c W h)
    have HLV:Hid (∀W A',CaseM W A' c→Calls Tryz.prog 40 #[A'.v c] W fun e w'=>∃a n q,e= .returned (.tuple #[.slice a n q,.int .i64 (askD c true)])∧IntsV w' (.slice a n q) (intsN (leaveR c))∧Ext W w'):=hHd (fun W A' h=>(Leave_d A' c W h).mono (fun e w' h=>by
      obtain⟨v,rfl,h1,h2⟩:=h;obtain⟨a,q,rfl,-⟩:=id h1;exact⟨a,_,q,rfl,h1,h2⟩))
    have HSU:Hid (∀W,Ext w W→Calls Tryz.prog 35 #[A.v c] W fun e w'=>∃a n q,e= .returned (.tuple #[.slice a n q,.int .i64 (bndE c)])∧(caseD c=0→IntsV w' (.slice a n q) (allD c))∧Ext W w'):=hHd (fun W hx=>sure_h A c W (hm.ext hx));have HNO:=hHd (lv_no (c:=c));have HYES:=hHd (lv_yes (c:=c))
    have HLR:Hid (caseD c=0→leaveUp (allD c) (2 ^ c.clms.length - 1) (2 ^ c.clms.length - 1+1)=intsN (leaveR c)→∀W v,IntsV W v (allD c)→Calls Tryz.prog 41 #[A.v c,v] W fun e w'=>∃u,e= .returned u∧IntsV w' u (intsN (leaveR c))∧Ext W w'):=hHd (fun hc he W v hi=>by
      have:=Leave_h A c v (allD c) (2 ^ c.clms.length - 1) W hi (caseD_zero hc).2.1.nm rfl;rw [he] at this;exact this)
    have HFR:Hid (caseD c=0→∀W v,IntsV W v (allD c)→Calls Tryz.prog 42 #[A.v c,v] W fun e w'=>e= .returned (.int .i64 (firstUp (allD c) c.clms.length))∧Ext W w'):=hHd (fun hc W v hi=>First_h A c v (allD c) W hi (caseD_zero hc).2.1.nm);have HIN:Hid (∀W v u l,IntsV W v l→IntsV W u l→l.length≤1000→Calls Tryz.prog 22 #[v,u] W fun e w'=>e= .returned (.bool true)∧Ext W w'):=hHd (fun W v u l h1 h2 hl=>by have:=ints8 v u l l W h1 h2 hl hl;simpa using this);have HML:Hid (askD c true=0→(intsN (leaveR c)).length≤1000):=hHd (fun h=>by rw [←(lv_yes h).2.2.2];have:=leaveUp_len (allD c) (2 ^ c.clms.length - 1) (2 ^ c.clms.length - 1+1);omega);clear hm;obtain⟨a1,c1,a2,c2,a3,c3,a4,c4⟩:=A;unfold CaseA.v caseV at*;simp only at*;generalize leaveUp (allD c) (2 ^ c.clms.length - 1) (2 ^ c.clms.length - 1+1)=lu at*;generalize firstUp (allD c) c.clms.length=fu at*;generalize allD c=al at*;generalize intsN (leaveR c)=lv at*;generalize fstN c=fn at*;generalize fstE c=fe at*;generalize askD c true=ae at*;generalize bndE c=be at*;go_enter Tryz.func6,Tryz.ntmps6
    (go_wp2_with fail);obtain⟨W,hW,X,HS,HSf,HSz⟩:=bx11 w 41 (.int .i64 c.bk.last) (.int .i64 c.bk.owners) (.slice a1 c.bk.pars.length c1) (.slice a2 c.bk.ents.length c2) (.int .i64 c.soc) (.int .i64 c.day) (.int .i64 c.parcel) (.slice a3 c.covs.length c3) (.int .i64 c.llo) (.int .i64 c.lhi) (.slice a4 c.clms.length c4);rw [hW];clear hW;(with_reducible refine(HTH.out _ X).mono ?_);rintro e w1 ⟨rfl,hx1⟩;obtain⟨⟨q0,q1,q2,q3,q4,q5,q6,q7,q8,q9,q10⟩,-⟩:=HS.out w1 hx1;(go_wp2_with fail);(with_reducible refine(HCA.out _ (X.trans hx1)).mono ?_);rintro e w2 ⟨A2,rfl,hm2,hx2⟩;have X2:Ext W w2:=hx1.trans hx2;clear q0 q1 q2 q3 q4 q5 q6 q7 q8 q9 q10 hx1 hx2 HTH;(go_wp2_with fail);(with_reducible refine(HFI.out _ _ hm2).mono ?_);rintro e w3 ⟨rfl,hx3⟩;have X3:Ext W w3:=X2.trans hx3;clear X2 hx3 hm2 HFI;obtain⟨⟨q0,q1,q2,q3,q4,q5,q6,q7,q8,q9,q10⟩,-⟩:=HS.out w3 X3;(go_wp2_with fail);(with_reducible refine(HCA.out _ (X.trans X3)).mono ?_);rintro e w4 ⟨A4,rfl,hm4,hx4⟩;have X4:Ext W w4:=X3.trans hx4;clear q0 q1 q2 q3 q4 q5 q6 q7 q8 q9 q10 X3 hx4 HCA;(go_wp2_with fail);(with_reducible refine(HLV.out _ _ hm4).mono ?_);rintro e w5 ⟨la,ln,lq,rfl,hil,hx5⟩;have X5:Ext W w5:=X4.trans hx5;have HIL:=hHd hil;clear X4 hx5 hm4 hil HLV;obtain⟨⟨q0,q1,q2,q3,q4,q5,q6,q7,q8,q9,q10⟩,-⟩:=HS.out w5 X5;(go_wp2_with fail);(with_reducible refine(HSU.out _ (X.trans X5)).mono ?_);rintro e w6 ⟨sa,sn,sq,rfl,his,hx6⟩;have X6:Ext W w6:=X5.trans hx6;have HIL6:=hHd (HIL.out.ext hx6);have HIS:=hHd his;clear q0 q1 q2 q3 q4 q5 q6 q7 q8 q9 q10 X5 hx6 his HIL HSU;by_cases hae:ae=0
    · obtain ⟨hc, hbe, hfi, hlu⟩ := HYES.out hae; have HIS6 := hHd (HIS.out hc); have HLR6 := hHd (HLR.out hc hlu); have HFR6 := hHd (HFR.out hc); have HML6 := hHd (HML.out hae); have HFI := hHd hfi; subst hae; clear HNO HYES HIS HLR HFR HML hc hlu hfi; obtain ⟨⟨q0, q1, q2, q3, q4, q5, q6, q7, q8, q9, q10⟩, -⟩ := HS.out w6 X6; rcases hbe with rfl | rfl
      all_goals
        (go_wp2_with fail);(with_reducible refine(HLR6.out _ _ HIS6.out).mono ?_);rintro e w7 ⟨u,rfl,hiu,hx7⟩;have X7:Ext W w7:=X6.trans hx7;have HIU:=hHd hiu;have HIL7:=hHd (HIL6.out.ext hx7);have HIS7:=hHd (HIS6.out.ext hx7);clear q0 q1 q2 q3 q4 q5 q6 q7 q8 q9 q10 hx7 hiu HLR6;(go_wp2_with fail);(with_reducible refine(HIN.out _ _ _ _ HIL7.out HIU.out HML6.out).mono ?_);rintro e w8 ⟨rfl,hx8⟩;have X8:Ext W w8:=X7.trans hx8;have HIS8:=hHd (HIS7.out.ext hx8);clear X7 hx8;obtain⟨⟨q0,q1,q2,q3,q4,q5,q6,q7,q8,q9,q10⟩,-⟩:=HS.out w8 X8;(go_wp2_with fail);(with_reducible refine(HFR6.out _ _ HIS8.out).mono ?_);rintro e w9 ⟨rfl,hx9⟩;have X9:Ext W w9:=X8.trans hx9;clear q0 q1 q2 q3 q4 q5 q6 q7 q8 q9 q10 X8 hx9 HIS8 HFR6;rcases HFI.out with ⟨rfl,rfl,rfl⟩|⟨k,rfl,rfl,rfl⟩
        · clear HFI;(go_wp2_with fail);(with_reducible refine(HAW.out _).mono ?_);rintro e w10 ⟨rfl,hx10⟩;(go_wp2_with fail);go_ret;exact⟨rfl,X.trans (X9.trans hx10)⟩
        · clear HFI; have hk0 : (0 : Int) ≤ (k : Int) := by omega
          (go_wp2_with fail);(with_reducible refine(HAW.out _).mono ?_);rintro e w10 ⟨rfl,hx10⟩;(go_wp2_with fail);go_ret;exact⟨rfl,X.trans (X9.trans hx10)⟩
    · obtain ⟨hb0, hb1, rfl, rfl, rfl, rfl⟩ := HNO.out hae; have hln : ln = 0 := by obtain ⟨a, q, e, -⟩ := HIL6.out; cases e; rfl
      subst hln;have e1:(ae==0)=false:=by rw [beq_eq_false_iff_ne];exact hb0
      have e2:(ae !=0)=true:=by rw [bne_iff_ne];exact hb0
      have e3:(ae==11)=false:=by rw [beq_eq_false_iff_ne];exact hb1
      have e4:(ae !=11)=true:=by rw [bne_iff_ne];exact hb1
      clear HNO HYES HIS HLR HFR HML HIL6 hae hb0 hb1;(go_wp2_with fail);(with_reducible refine(HAW.out _).mono ?_);rintro e w7 ⟨rfl,hx7⟩;(go_wp2_with fail);go_ret;exact⟨rfl,X.trans (X6.trans hx7)⟩
theorem walk_DoubleLeaves (v:Value) (c:DCas) (w:World) (hv:DCasW w v c):
  Calls Tryz.prog 6 #[v] w fun e w'=>e= .returned (.bool true)∧Below w.heap.size w w':=leaves_ext v c w hv
end Go.Proofs.YtegkdnfeceomdaaGreat
