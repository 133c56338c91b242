/- The walk of DoubleBounds. Printed by gen_wb.py. -/
import Derived.Test.YtegkdnfeceomdaaGreatKDS2
import Derived.Test.YtegkdnfeceomdaaGreatKDB1
import Derived.Test.YtegkdnfeceomdaaGreatKHWR
import Derived.Test.YtegkdnfeceomdaaGreatKDA23
import Derived.Test.YtegkdnfeceomdaaGreatKDA27
import Derived.Test.YtegkdnfeceomdaaGreatKDA4
set_option maxRecDepth 100000
set_option maxHeartbeats 16000000
set_option linter.unusedSimpArgs false
set_option linter.unusedVariables false
namespace Go.Hs
open Go.RowKit Go.Proofs.YtegkdnfeceomdaaGreat
end Go.Hs
namespace Go.Proofs.YtegkdnfeceomdaaGreat
open Go.RowKit Go.Hs
attribute [local irreducible] World.setCell World.alloc
theorem ext_DoubleBounds (v : Value) (c : DCas) (w : World) (hv : DCasW w v c) :
    Calls Tryz.prog 5 #[v] w fun e w'=>e= .returned (.bool true)∧Ext w w':=by
  have HAW:=hHd awake8;obtain⟨A,rfl,hcm⟩:=hv.parts;have HRD:Hid (∀W,Ext w W→Calls Tryz.prog 24 #[A.v c] W fun e w'=>e= .returned (.bool (thinD c))∧Ext W w'):=hHd (fun W hx=>Thin8_h A c W (fun h1 h2 h3 h4=>(hcm h1 h2 h3 h4).ext hx));have HCM:=hHd hcm;clear hv hcm;cases hrd:thinD c with
  | false =>
    rw [hrd] at HRD;clear HCM hrd;obtain⟨a1,c1,a2,c2,a3,c3,a4,c4⟩:=A;unfold CaseA.v caseV at*;simp only at*;go_enter Tryz.func5,Tryz.ntmps5
    (go_wp2_with fail);obtain⟨W,hW,X,HS,HSf,HSz⟩:=bx11 w 41 (.int .i64 c.bk.last) (.int .i64 c.bk.owners) (.slice a1 c.bk.pars.length c1) (.slice a2 c.bk.ents.length c2) (.int .i64 c.soc) (.int .i64 c.day) (.int .i64 c.parcel) (.slice a3 c.covs.length c3) (.int .i64 c.llo) (.int .i64 c.lhi) (.slice a4 c.clms.length c4);rw [hW];clear hW;have XX:Ext W W:=Ext.refl _;obtain⟨⟨q0,q1,q2,q3,q4,q5,q6,q7,q8,q9,q10⟩,-⟩:=HS.out W XX;(go_wp2_with fail);(with_reducible refine(HRD.out _ (X.trans XX)).mono ?_);rintro e w1 ⟨rfl,hx⟩;have hy:Ext W w1:=EX;replace XX:=XX.trans hy;clear hx hy;clear q0 q1 q2 q3 q4 q5 q6 q7 q8 q9 q10;(go_wp2_with fail);(with_reducible refine(HAW.out _).mono ?_);rintro e wz ⟨rfl,hx⟩;(go_wp2_with fail);go_ret;exact⟨rfl,X.trans (XX.trans hx)⟩
  | true =>
    rw [hrd] at HRD;obtain⟨l3,l4,l1,l2⟩:=thinD_len hrd;have hm:CaseM w A c:=HCM.out (by omega) (by omega) (by omega) (by omega);clear HCM hrd;have HCA:Hid (∀W A' x,x.bk.pars.length≤100∧x.bk.ents.length≤100∧x.covs.length≤100∧x.clms.length≤100→CaseM W A' x→Calls Tryz.prog 26 #[A'.v x] W fun e w'=>∃A2,e= .returned (CaseA.v A2 x)∧CaseM w' A2 x∧Ext W w'):=hHd (fun W A' x h hm=>Case_h A' x W hm h.1 h.2.1 h.2.2.1 h.2.2.2);have HLN:Hid (c.bk.pars.length≤100∧c.bk.ents.length≤100∧c.covs.length≤100∧c.clms.length≤100):=hHd (by omega);have HBO:=hHd (fun W A' (h:CaseM W A' c)=>Bounds_r A' c W h);have HTO:=hHd (fun W A' (h:CaseM W A' c)=>Total_d A' c W h);have HSU:Hid (∀W,Ext w W→Calls Tryz.prog 35 #[A.v c] W fun e w'=>∃a n q,e= .returned (.tuple #[.slice a n q,.int .i64 (bndE c)])∧(caseD c=0→IntsV w' (.slice a n q) (allD c))∧Ext W w'):=hHd (fun W hx=>sure_h A c W (hm.ext hx));have HNO:Hid (bndE c≠0→totR c=(0,0)):=hHd (fun h=>by unfold totR;rw [if_neg h])
    have HTS:Hid (bndE c=0→∀W,Ext w W→Calls Tryz.prog 37 #[A.v c] W fun e w'=>∃a n q,e= .returned (.slice a n q)∧TrusV w' (.slice a n q) (truR c)∧Ext W w'):=hHd (fun h W hx=>(Truths_h A c W (hm.ext hx) (bnd_ask h).2.1).mono (fun e w' h=>by
      obtain⟨v,rfl,h1,h2⟩:=h;obtain⟨us,a,q,-,rfl,-⟩:=id h1;exact⟨a,_,q,rfl,h1,h2⟩))
    have HRB:Hid (bndE c=0→∀W v,Ext w W→TrusV W v (truR c)→Calls Tryz.prog 36 #[A.v c,v] W fun e w'=>∃g q',e= .returned (.tuple #[.slice (some ⟨g,0,none⟩) c.soc.toNat q',.agg #[.int .i64 (totR c).1,.int .i64 (totR c).2]])∧W.heap.size≤g∧RowB g c.soc.toNat (bd4 c) w'∧Ext W w'):=hHd (fun h W v hx hv=>(Bounds_h A c v W (hm.ext hx) (bnd_ask h).2.1 (bnd_ask h).2.2 hv).mono (fun e w' k=>by
      obtain⟨g,q',k1,kg,k2,k3⟩:=k;exact⟨g,q',by rw [k1];unfold totR;rw [if_pos h],kg,k2.c,k3⟩))
    have HSO:Hid (bndE c=0→c.soc.toNat≤3):=hHd (fun h=>by have:=(caseD_zero (bnd_ask h).2.1).2.1.soc;omega);have HT8:=hHd to8_h;have hq0:∀w,(binOp .eql 54 (.agg #[.int .i64 0,.int .i64 0]) (.agg #[.int .i64 0,.int .i64 0])).run Tryz.prog w= .ok (.bool true) w:=fun w=>eq_rng 0 0 0 0 w
    have hqn:∀a b w,(binOp .neq 54 (.agg #[.int .i64 a,.int .i64 b]) (.agg #[.int .i64 a,.int .i64 b])).run Tryz.prog w= .ok (.bool false) w:=fun a b w=>by rw [neq_rng];simp
    have HVV:Hid (∀W,Ext w W→Calls Tryz.prog 26 #[A.v c] W fun e w'=>∃A2,e= .returned (CaseA.v A2 c)∧CaseM w' A2 c∧Ext W w'):=hHd (fun W hx=>HCA.out W A c HLN.out (hm.ext hx));clear hm HCA HLN;obtain⟨a1,c1,a2,c2,a3,c3,a4,c4⟩:=A;unfold CaseA.v caseV at*;simp only at*;generalize totR c=tot at*;obtain⟨t1,t2⟩:=tot;simp only [Prod.mk.injEq] at HNO HRB HTO;generalize c.soc.toNat=sn at*;generalize bd4 c=bd at*;generalize bndE c=be at*;go_enter Tryz.func5,Tryz.ntmps5
    (go_wp2_with fail);obtain⟨W,hW,X,HS,HSf,HSz⟩:=bx11 w 41 (.int .i64 c.bk.last) (.int .i64 c.bk.owners) (.slice a1 c.bk.pars.length c1) (.slice a2 c.bk.ents.length c2) (.int .i64 c.soc) (.int .i64 c.day) (.int .i64 c.parcel) (.slice a3 c.covs.length c3) (.int .i64 c.llo) (.int .i64 c.lhi) (.slice a4 c.clms.length c4);rw [hW];clear hW;have XX:Ext W W:=Ext.refl _;obtain⟨⟨q0,q1,q2,q3,q4,q5,q6,q7,q8,q9,q10⟩,-⟩:=HS.out W XX;(go_wp2_with fail);(with_reducible refine(HRD.out _ (X.trans XX)).mono ?_);rintro e w1 ⟨rfl,hx⟩;have hy:Ext W w1:=EX;replace XX:=XX.trans hy;clear hx hy;clear q0 q1 q2 q3 q4 q5 q6 q7 q8 q9 q10;obtain⟨⟨q0,q1,q2,q3,q4,q5,q6,q7,q8,q9,q10⟩,-⟩:=HS.out w1 XX;(go_wp2_with fail);(with_reducible refine(HVV.out _ (X.trans XX)).mono ?_);rintro e w2 ⟨A2,rfl,hm2,hx⟩;have hy:Ext w1 w2:=EX;replace XX:=XX.trans hy;clear hx hy;clear q0 q1 q2 q3 q4 q5 q6 q7 q8 q9 q10;(go_wp2_with fail);(with_reducible refine(HBO.out _ _ hm2).mono ?_);rintro e w3 ⟨ba,bn,bq,rfl,hb0,hb1,hx⟩;have hy:Ext w2 w3:=EX;replace XX:=XX.trans hy;clear hx hy;have HB0:=hHd hb0;have HB1:=hHd (fun h=>hb1.out h);clear hb0 hb1 hm2 HRD HBO;have Y3:Ext w3 w3:=Ext.refl _;obtain⟨⟨q0,q1,q2,q3,q4,q5,q6,q7,q8,q9,q10⟩,-⟩:=HS.out w3 XX;(go_wp2_with fail);(with_reducible refine(HVV.out _ (X.trans XX)).mono ?_);rintro e w4 ⟨A4,rfl,hm4,hx⟩;have hy:Ext w3 w4:=EX;replace XX:=XX.trans hy;replace Y3:=Y3.trans hy;clear hx hy;clear q0 q1 q2 q3 q4 q5 q6 q7 q8 q9 q10;(go_wp2_with fail);(with_reducible refine(HTO.out _ _ hm4).mono ?_);rintro e w5 ⟨rfl,hx⟩;have hy:Ext w4 w5:=EX;replace XX:=XX.trans hy;replace Y3:=Y3.trans hy;clear hx hy;clear hm4 HVV HTO;go_upto_region 5 with fail
    obtain⟨w6,hwb⟩:∃x,x=w5.alloc (.cells #[.int .i64 t1,.int .i64 t2] 54):=⟨_,rfl⟩;have hy:Ext w5 w6:=by rw [hwb];exact EX
    have d0:w6.cell? ⟨w5.heap.size,0,none⟩=some (.int .i64 t1):=by rw [hwb];simp [go_sem]
    have d1:w6.cell? ⟨w5.heap.size,1,none⟩=some (.int .i64 t2):=by rw [hwb];simp [go_sem]
    rw [←hwb];clear hwb;replace XX:=XX.trans hy;replace Y3:=Y3.trans hy;clear hy;obtain⟨⟨q0,q1,q2,q3,q4,q5,q6,q7,q8,q9,q10⟩,-⟩:=HS.out w6 XX;(go_wp2_with fail);(with_reducible refine(HSU.out _ (X.trans XX)).mono ?_);rintro e w7 ⟨sa,sn',sq,rfl,his,hx⟩;have hy:Ext w6 w7:=EX;replace XX:=XX.trans hy;replace Y3:=Y3.trans hy;replace d0:=hy.keep d0;replace d1:=hy.keep d1;clear hx hy;clear q0 q1 q2 q3 q4 q5 q6 q7 q8 q9 q10;have HIS:=hHd his;clear his HSU HIS;by_cases h0:be=0
    · obtain ⟨rfl, gb, rfl, hrow⟩ := HB1.out h0; have HROW := hHd (hrow.ext Y3); have HTS6 := hHd (HTS.out h0); have HRB6 := hHd (HRB.out h0); have hs3 := HSO.out h0; subst h0; have HXW := hHd (X.trans XX); have HK : Hid (∀ w', Ext w7 w' → (w'.cell? ⟨w.heap.size, 0, none⟩ = some (.int .i64 c.bk.last) ∧ w'.cell? ⟨w.heap.size, 1, none⟩ = some (.int .i64 c.bk.owners) ∧ w'.cell? ⟨w.heap.size, 2, none⟩ = some (.slice a1 c.bk.pars.length c1) ∧ w'.cell? ⟨w.heap.size, 3, none⟩ = some (.slice a2 c.bk.ents.length c2) ∧ w'.cell? ⟨w.heap.size, 4, none⟩ = some (.int .i64 c.soc) ∧ w'.cell? ⟨w.heap.size, 5, none⟩ = some (.int .i64 c.day) ∧ w'.cell? ⟨w.heap.size, 6, none⟩ = some (.int .i64 c.parcel) ∧ w'.cell? ⟨w.heap.size, 7, none⟩ = some (.slice a3 c.covs.length c3) ∧ w'.cell? ⟨w.heap.size, 8, none⟩ = some (.int .i64 c.llo) ∧ w'.cell? ⟨w.heap.size, 9, none⟩ = some (.int .i64 c.lhi) ∧ w'.cell? ⟨w.heap.size, 10, none⟩ = some (.slice a4 c.clms.length c4)) ∧ Ext w7 w') := hHd (fun w' hx => ⟨(HS.out w' (Ext.trans XX hx)).1, hx⟩); clear HB0 HB1 HNO HTS HRB HSO hrow Y3 XX; have D0 := hHd d0; have D1 := hHd d1; clear d0 d1; have hxx : Ext w7 w7 := Ext.refl _; go_upto_region 8 with fail
      go_cut [9,10] from 57 to 62 (fun s9 s10 wx=>∃g q T,s9= .slice (some ⟨g,0,none⟩) bn q∧s10= .pointer (some ⟨T,0,none⟩)∧Hid (RowB g bn bd wx)∧BoxN w7 T [.int .i64 t1,.int .i64 t2] wx)
      case first=>
        go_region_held3 (fun w'=>(w'.cell? ⟨w.heap.size,0,none⟩=some (.int .i64 c.bk.last)∧w'.cell? ⟨w.heap.size,1,none⟩=some (.int .i64 c.bk.owners)∧w'.cell? ⟨w.heap.size,2,none⟩=some (.slice a1 c.bk.pars.length c1)∧w'.cell? ⟨w.heap.size,3,none⟩=some (.slice a2 c.bk.ents.length c2)∧w'.cell? ⟨w.heap.size,4,none⟩=some (.int .i64 c.soc)∧w'.cell? ⟨w.heap.size,5,none⟩=some (.int .i64 c.day)∧w'.cell? ⟨w.heap.size,6,none⟩=some (.int .i64 c.parcel)∧w'.cell? ⟨w.heap.size,7,none⟩=some (.slice a3 c.covs.length c3)∧w'.cell? ⟨w.heap.size,8,none⟩=some (.int .i64 c.llo)∧w'.cell? ⟨w.heap.size,9,none⟩=some (.int .i64 c.lhi)∧w'.cell? ⟨w.heap.size,10,none⟩=some (.slice a4 c.clms.length c4))∧Ext w7 w')
          ((refine HK.out _ ?_;exact EX))
          (first
            |(go_at_call 37;(with_reducible refine(HTS6.out _ (HXW.out.trans EX)).mono ?_);rintro e w7a ⟨ta,tn,tq,rfl,htv,hx7⟩;have shx7:=Ext.size hx7;(try simp at shx7);(first|have Z:=BoxN.zero (W:=w7) (zs:= [.int .i64 0,.int .i64 0]) EX hx7|have Z:=BoxN.zerod (W:=w7) (zs:= [.int .i64 0,.int .i64 0]) EX hx7|have Z:=Z.keep hx7|skip);(first|(have z0:=Z.cells 0 _ rfl;have z1:=Z.cells 1 _ rfl;have zf:=Z.fr;have zl:=Z.lt)|skip))
            |(go_at_call 36;(with_reducible refine(HRB6.out _ _ (HXW.out.trans EX) (htv.ext EX)).mono ?_);rintro e w8 ⟨g,q',rfl,hge,hr8,hx8⟩;(try simp at hge);have shx8:=Ext.size hx8;(try simp at shx8);(first|have Z:=BoxN.zero (W:=w7) (zs:= [.int .i64 0,.int .i64 0]) EX hx8|have Z:=BoxN.zerod (W:=w7) (zs:= [.int .i64 0,.int .i64 0]) EX hx8|have Z:=Z.keep hx8|skip);(first|(have z0:=Z.cells 0 _ rfl;have z1:=Z.cells 1 _ rfl;have zf:=Z.fr;have zl:=Z.lt)|skip)))
        all_goals
          (go_wp2_with fail);go_meet
          first
            |exact⟨_,_,_,rfl,rfl,hHd (RowB.box hr8 (by omega)),BoxN.sto2 Z⟩
            |exact⟨_,_,_,rfl,rfl,hHd (RowB.box (hr8.ext EX) (by omega)),BoxN.sto2 (Z.keep ((Ext.refl _).drew))⟩
            |exact⟨_,_,_,rfl,rfl,hHd (hr8.ext EX),BoxN.made (vs:= [.int .i64 t1,.int .i64 t2]) EX⟩
      case rest =>
        obtain⟨g,q,T,rfl,rfl,HR2,hbx⟩:=hcut;obtain⟨w9,rfl⟩:∃x,x=wc:=⟨_,rfl⟩;have X9:=hbx.ext;have d0:=X9.keep D0.out;have d1:=X9.keep D1.out;have e0:=hbx.cells 0 _ rfl;have e1:=hbx.cells 1 _ rfl;have HR1:=hHd (HROW.out.ext X9);have HXO:=hHd (HXW.out.trans X9);clear HTS6 HRB6 HK HROW D0 D1 hxx hbx X9 HXW;(go_wp2_with fail);have HE:Hid (∀w',Ext w9 w'→(w'.cell? ⟨w5.heap.size,0,none⟩=some (.int .i64 t1)∧w'.cell? ⟨w5.heap.size,1,none⟩=some (.int .i64 t2)∧w'.cell? ⟨T,0,none⟩=some (.int .i64 t1)∧w'.cell? ⟨T,1,none⟩=some (.int .i64 t2))∧Ext w9 w'):=hHd (fun w' hx=>⟨⟨hx.keep (by simp [go_sem, *]),hx.keep (by simp [go_sem, *]),hx.keep (by simp [go_sem, *]),hx.keep (by simp [go_sem, *])⟩,hx⟩)
        go_region_held3 (fun w'=>(w'.cell? ⟨w5.heap.size,0,none⟩=some (.int .i64 t1)∧w'.cell? ⟨w5.heap.size,1,none⟩=some (.int .i64 t2)∧w'.cell? ⟨T,0,none⟩=some (.int .i64 t1)∧w'.cell? ⟨T,1,none⟩=some (.int .i64 t2))∧Ext w9 w')
          ((refine HE.out _ ?_;exact EX))
          (first
            |(go_at_call 38;(with_reducible refine(HT8.out _ _ _).mono ?_);rintro e w10 ⟨rfl,hx10⟩))
        all_goals
          have X10:Ext w9 w10:=EX;have HR3:=hHd (HR1.out.ext X10);have HR4:=hHd (HR2.out.ext X10);have HX10:=hHd (HXO.out.trans X10);clear HE HR1 HR2 HXO X10 hx10 d0 d1 e0 e1;(go_wp2_with fail);go_loopw [11] (fun s11 wr=>∃k:Nat,k≤bn∧s11= .int .i64 k∧Ext w10 wr) (fun s _=>bn - (intOf s).toNat)
          case atStart=>exact⟨0,Nat.zero_le _,rfl,EX⟩
          case round=>
            obtain⟨k,hk,rfl,hx⟩:=hrel;obtain⟨wo,rfl⟩:∃x,x=wr:=⟨_,rfl⟩;have hk0:(0:Int)≤(k:Int):=by omega
            by_cases hlt:k<bn
            · have hk1 : (k : Int) < (bn : Int) := by omega
              obtain⟨p0,p1,p2,p3⟩:=(HR3.out.ext hx) k hlt;obtain⟨r0,r1,r2,r3⟩:=(HR4.out.ext hx) k hlt;have HXR:=hHd hx;generalize bd k=Y at*;obtain⟨y0,y1,y2,y3⟩:=Y;simp only [Bd4.c] at p0 p1 p2 p3 r0 r1 r2 r3;clear hx;have HSB:Hid (∀w',Ext wo w'→(w'.cell? ⟨gb,k*4,none⟩=some (.int .i64 y0)∧w'.cell? ⟨gb,k*4+1,none⟩=some (.int .i64 y1)∧w'.cell? ⟨gb,k*4+2,none⟩=some (.int .i64 y2)∧w'.cell? ⟨gb,k*4+3,none⟩=some (.int .i64 y3)∧w'.cell? ⟨g,k*4,none⟩=some (.int .i64 y0)∧w'.cell? ⟨g,k*4+1,none⟩=some (.int .i64 y1)∧w'.cell? ⟨g,k*4+2,none⟩=some (.int .i64 y2)∧w'.cell? ⟨g,k*4+3,none⟩=some (.int .i64 y3))∧Ext wo w'):=hHd (fun w' h=>⟨⟨h.keep p0,h.keep p1,h.keep p2,h.keep p3,h.keep r0,h.keep r1,h.keep r2,h.keep r3⟩,h⟩);clear p0 p1 p2 p3 r0 r1 r2 r3;go_wp2_with fail
              go_region_held3 (fun w'=>(w'.cell? ⟨gb,k*4,none⟩=some (.int .i64 y0)∧w'.cell? ⟨gb,k*4+1,none⟩=some (.int .i64 y1)∧w'.cell? ⟨gb,k*4+2,none⟩=some (.int .i64 y2)∧w'.cell? ⟨gb,k*4+3,none⟩=some (.int .i64 y3)∧w'.cell? ⟨g,k*4,none⟩=some (.int .i64 y0)∧w'.cell? ⟨g,k*4+1,none⟩=some (.int .i64 y1)∧w'.cell? ⟨g,k*4+2,none⟩=some (.int .i64 y2)∧w'.cell? ⟨g,k*4+3,none⟩=some (.int .i64 y3))∧Ext wo w')
                ((refine HSB.out _ ?_;exact EX))
                ((go_at_call 38;(with_reducible refine(HT8.out _ _ _).mono ?_);rintro e w11 ⟨rfl,hx11⟩))
              all_goals
                have XR:=HXR.out;(go_wp2_with fail);go_roundw
                case rel=>exact⟨k+1,by omega,by go_num,XR.trans EX⟩
                case measure=>simp [intOf];omega
            · obtain rfl : k = bn := by omega
              have HXR:=hHd (HX10.out.trans hx);clear hx HR3 HR4;(go_wp2_with fail);(with_reducible refine(HAW.out _).mono ?_);rintro e wz ⟨rfl,hx⟩;(go_wp2_with fail);go_ret;exact⟨rfl,HXR.out.trans hx⟩
    · obtain rfl := HB0.out h0; obtain ⟨rfl, rfl⟩ := HNO.out h0; have e1 : (be == 0) = false := by rw [beq_eq_false_iff_ne]; exact h0
      have e2:(be !=0)=true:=by rw [bne_iff_ne];exact h0
      clear HB0 HB1 HNO HTS HRB HSO h0;(go_wp2_with fail);(with_reducible refine(HAW.out _).mono ?_);rintro e wz ⟨rfl,hx⟩;(go_wp2_with fail);go_ret;exact⟨rfl,X.trans (XX.trans hx)⟩
theorem walk_DoubleBounds (v:Value) (c:DCas) (w:World) (hv:DCasW w v c):
  Calls Tryz.prog 5 #[v] w fun e w'=>e= .returned (.bool true)∧Below w.heap.size w w':=ext_DoubleBounds v c w hv
end Go.Proofs.YtegkdnfeceomdaaGreat
