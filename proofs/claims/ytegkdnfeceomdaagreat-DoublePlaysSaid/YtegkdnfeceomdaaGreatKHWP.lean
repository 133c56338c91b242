/- The walk of DoublePlays. Printed by gen_hwp.py. -/
import Derived.Test.YtegkdnfeceomdaaGreatKDC10
import Derived.Test.YtegkdnfeceomdaaGreatKDT1
import Derived.Test.YtegkdnfeceomdaaGreatKDA27
import Derived.Test.YtegkdnfeceomdaaGreatKDW1
import Derived.Test.YtegkdnfeceomdaaGreatKDA23
import Derived.Test.YtegkdnfeceomdaaGreatKDA4
set_option maxRecDepth 100000
set_option maxHeartbeats 16000000
set_option linter.unusedSimpArgs false
set_option linter.unusedVariables false
namespace Go.Hs
open Go.RowKit Go.Proofs.YtegkdnfeceomdaaGreat
theorem playDE_case {c:DCas} {t:DTr} (h:playDE c t=0):caseD c=0:=by
 unfold playDE at h;split at h
 ·rename_i h2;exact absurd h h2
 ·rename_i h2;simpa using h2
theorem playDE_listed {c:DCas} {t:DTr} (h:playDE c t=0):listedD c t=true:=by
 have hc:=playDE_case h;unfold playDE at h;rw [if_neg (by simp [hc])] at h;cases hl:listedD c t with
 |true=>rfl
 |false=>rw [hl] at h;simp at h
theorem payL_small {d:Dmg} (h:DmgOK d) (n:Nat):∀x∈payL d n,-10000≤x∧x≤10000:=by
 intro x hx
 have hb:=pays_bd h;have:=List.mem_of_mem_take hx;simp only [List.mem_cons,List.not_mem_nil,or_false] at this;omega
theorem play_end {c:DCas} {t:DTr} (h:caseD c=0):playDE c t=if listedR c t then (if isTruD c t then 0 else 11) else 2:=by
  unfold playDE;rw [if_neg (by simp [h]),listedR_eq];cases listedD c t with
  |false=>rfl
  | true =>
    simp only [if_true];unfold isTruD;cases damD c t<;>rfl
end Go.Hs
namespace Go.Proofs.YtegkdnfeceomdaaGreat
open Go.RowKit Go.Hs
attribute [local irreducible] World.setCell World.alloc
theorem plays_ext (v : Value) (c : DCas) (vt : Value) (t : DTr) (w : World) (hv : DCasW w v c) (ht : DTruW w vt t) :
    Calls Tryz.prog 4 #[v,vt] w fun e w'=>e= .returned (.bool true)∧Ext w w':=by
  have HAW:=hHd awake8;obtain⟨A,rfl,hcm⟩:=hv.parts;obtain⟨ad,cd,as',cs,at',ct,rfl,htv⟩:=ht.parts;have HTH:Hid (∀W,Ext w W→Calls Tryz.prog 24 #[A.v c] W fun e w'=>e= .returned (.bool (thinD c))∧Ext W w'):=hHd (fun W hx=>Thin8_h A c W (fun h1 h2 h3 h4=>(hcm h1 h2 h3 h4).ext hx));have HCM:=hHd hcm;have HTV:=hHd htv;clear hv ht hcm htv;cases hth:thinD c with
  | false =>
    rw [hth] at HTH;obtain⟨a1,c1,a2,c2,a3,c3,a4,c4⟩:=A;unfold CaseA.v caseV at*;simp only at*;clear HCM HTV hth;go_enter Tryz.func4,Tryz.ntmps4
    (go_wp2_with fail);obtain⟨W,hW,X,HS,HSf,HSz⟩:=bx11_4 w 41 (.int .i64 c.bk.last) (.int .i64 c.bk.owners) (.slice a1 c.bk.pars.length c1) (.slice a2 c.bk.ents.length c2) (.int .i64 c.soc) (.int .i64 c.day) (.int .i64 c.parcel) (.slice a3 c.covs.length c3) (.int .i64 c.llo) (.int .i64 c.lhi) (.slice a4 c.clms.length c4) 45 (.slice ad t.days.length cd) (.slice as' t.sown.length cs) (.slice at' t.starts.length ct) (.int .i64 t.loss);rw [hW];clear hW;(with_reducible refine(HTH.out _ X).mono ?_);rintro e w1 ⟨rfl,hx1⟩;obtain⟨⟨-,-,-,-,-,-,-,-,-,-,-,t0,t1,t2,t3⟩,-⟩:=HS.out w1 hx1;(go_wp2_with fail);(with_reducible refine(HAW.out _).mono ?_);rintro e w2 ⟨rfl,hx2⟩;(go_wp2_with fail);go_ret;exact⟨rfl,EX⟩
  | true =>
    rw [hth] at HTH;obtain⟨l3,l4,l1,l2⟩:=thinD_len hth;have hm:CaseM w A c:=HCM.out (by omega) (by omega) (by omega) (by omega);clear HCM hth;by_cases hsm:t.starts.length≤9∧t.days.length≤9∧t.sown.length≤9
    · obtain ⟨s1, s2, s3⟩ := hsm; have htv := HTV.out (by omega) (by omega) (by omega); have HCA := hHd (fun W hx => Case_h A c W (hm.ext (w' := W) hx) (by omega) (by omega) (by omega) (by omega)); have HTR := hHd (fun W hx => Truth8_h t _ W (TruV.ext (w' := W) htv hx) (by omega) (by omega) (by omega))
      have HPL:Hid (∀W A' v',CaseM W A' c→TruV W v' t→Calls Tryz.prog 25 #[A'.v c,v'] W fun e w'=>∃al nl ql am,e= .returned (.tuple #[.slice al nl ql,.int .i64 am,.int .i64 (playDE c t)])∧Hid (playDE c t≠0→nl=0∧am=0)∧Hid (playDE c t=0→∃d,damD c t=some d∧am=d.amount∧IntsV w' (.slice al nl ql) (payL d c.soc.toNat))∧Ext W w'):=hHd (fun W A' v' h1 h2=>(Play_dd A' c t v' W h1 h2 (by omega) (by omega) (by omega)).mono (fun e w' h=>by
        obtain⟨g1,g2,g3⟩:=h;by_cases h0:playDE c t=0
        · obtain ⟨d, v', k1, k2, k3⟩ := g2 h0; have hS := (caseD_zero (playDE_case h0)).2.1; have hl : (payL d c.soc.toNat).length = c.soc.toNat := by have := hS.soc; unfold payL; rw [List.length_take]; simp; omega
          have hok:=damD_ok hS (by have:=hS.loss;have:=(listedD_ok (playDE_listed h0)).loss;omega) k1;have hi:=own_intsV k3 rfl hl.symm (i64_small (payL_small hok _)) (by have:=hS.soc;omega);obtain⟨a,q,rfl,-⟩:=id hi;exact⟨a,_,q,_,by rw [k2,h0],hHd (fun h=>absurd h0 h),hHd (fun _=>⟨d,k1,rfl,hi⟩),g3⟩
        · exact⟨none,0,0,0,g1 h0,hHd (fun _=>⟨rfl,rfl⟩),hHd (fun h=>absurd h h0),g3⟩))
      have HFT:=hHd (fun W hx=>fault_h A c W (hm.ext (w':=W) hx));have HCK:=hHd (fun W A' (h:CaseM W A' c)=>checkC_d A' c W h);have HIL:=hHd (fun W (hx:Ext w W) vd vs vst (h1:IntsV W vd t.days) (h2:IntsV W vs t.sown) (h3:IntsV W vst t.starts)=>IsListed_dh A c t vd vs vst W (hm.ext hx) h1 h2 h3)
      have HTI:Hid (∀W,Ext w W→IntsV W (.slice ad t.days.length cd) t.days∧IntsV W (.slice as' t.sown.length cs) t.sown∧IntsV W (.slice at' t.starts.length ct) t.starts):=hHd (fun W hx=>by
        obtain⟨vd,vs,vst,e,h1,h2,h3⟩:=htv.ext hx;simp only [Value.agg.injEq,Array.mk.injEq,List.cons.injEq,and_true] at e;obtain⟨rfl,rfl,rfl⟩:=e;exact⟨h1,h2,h3⟩)
      have HIL2:Hid (∀W,Ext w W→Calls Tryz.prog 30 #[A.v c,.agg #[.slice ad t.days.length cd,.slice as' t.sown.length cs,.slice at' t.starts.length ct,.int .i64 t.loss]] W fun e w'=>e= .returned (.bool (listedR c t))∧Ext W w'):=hHd (fun W hx=>by obtain⟨h1,h2,h3⟩:=HTI.out W hx;exact IsListed_dh A c t _ _ _ W (hm.ext hx) h1 h2 h3);have HIT:Hid (caseD c=0→listedR c t=true→∀W,Ext w W→Calls Tryz.prog 31 #[A.v c,.agg #[.slice ad t.days.length cd,.slice as' t.sown.length cs,.slice at' t.starts.length ct,.int .i64 t.loss]] W fun e w'=>e= .returned (.bool (isTruD c t))∧Ext W w'):=hHd (fun hc hl W hx=>by obtain⟨h1,h2,h3⟩:=HTI.out W hx;exact IsTruth_h A c t _ _ _ W (hm.ext hx) hc (listedD_ok (by rw [←listedR_eq];exact hl)) h1 h2 h3)
      have HPY:Hid (caseD c=0→listedR c t=true→∀d,damD c t=some d→∀W,Ext w W→Calls Tryz.prog 32 #[A.v c,.agg #[.slice ad t.days.length cd,.slice as' t.sown.length cs,.slice at' t.starts.length ct,.int .i64 t.loss]] W fun e w'=>∃v1 v2,e= .returned (.tuple #[v1,v2,.int .i64 d.amount,.bool true])∧IntsV w' v1 (payL d c.soc.toNat)∧Ext W w'):=hHd (fun hc hl d hd W hx=>by
        obtain⟨h1,h2,h3⟩:=HTI.out W hx;refine(Pays_h A c t _ _ _ W (hm.ext hx) hc (listedD_ok (by rw [←listedR_eq];exact hl)) h1 h2 h3).mono (fun e w' h=> ?_)
        obtain⟨v1,v2,-,k,kx⟩:=h;obtain⟨k1,k2,-⟩:=k d hd;exact⟨v1,v2,k1,k2,kx⟩)
      have HIN:Hid (∀W v u l,IntsV W v l→IntsV W u l→l.length≤1000→Calls Tryz.prog 22 #[v,u] W fun e w'=>e= .returned (.bool true)∧Ext W w'):=hHd (fun W v u l h1 h2 hl=>by have:=ints8 v u l l W h1 h2 hl hl;simpa using this);have HPE:=hHd (fun h=>play_end (c:=c) (t:=t) h);have HPC:Hid (caseD c≠0→playDE c t=caseD c):=hHd (fun h=>by unfold playDE;rw [if_pos h]);clear HTV hm htv HIL HTI;obtain⟨a1,c1,a2,c2,a3,c3,a4,c4⟩:=A;unfold CaseA.v caseV at*;simp only at*;generalize caseD c=E at*;generalize playDE c t=P at*;generalize listedR c t=L at*;generalize isTruD c t=T at*;have d1:decide ((9:Int)<(t.starts.length:Int))=false:=decide_eq_false (by omega);have d1':(t.starts.length:Int)≤9:=by omega
      have d2:decide ((9:Int)<(t.days.length:Int))=false:=decide_eq_false (by omega);have d2':(t.days.length:Int)≤9:=by omega
      have d3:decide ((9:Int)<(t.sown.length:Int))=false:=decide_eq_false (by omega);have d3':(t.sown.length:Int)≤9:=by omega
      go_enter Tryz.func4,Tryz.ntmps4
      (go_wp2_with fail);obtain⟨W,hW,X,HS,HSf,HSz⟩:=bx11_4 w 41 (.int .i64 c.bk.last) (.int .i64 c.bk.owners) (.slice a1 c.bk.pars.length c1) (.slice a2 c.bk.ents.length c2) (.int .i64 c.soc) (.int .i64 c.day) (.int .i64 c.parcel) (.slice a3 c.covs.length c3) (.int .i64 c.llo) (.int .i64 c.lhi) (.slice a4 c.clms.length c4) 45 (.slice ad t.days.length cd) (.slice as' t.sown.length cs) (.slice at' t.starts.length ct) (.int .i64 t.loss);rw [hW];clear hW;(with_reducible refine(HTH.out _ X).mono ?_);rintro e w1 ⟨rfl,hx1⟩;obtain⟨⟨-,-,-,-,-,-,-,-,-,-,-,t0,t1,t2,t3⟩,-⟩:=HS.out w1 hx1;go_wp2_with fail
      go_region_held3 (fun w'=>(w'.cell? ⟨w.heap.size,0,none⟩=some (.int .i64 c.bk.last)∧w'.cell? ⟨w.heap.size,1,none⟩=some (.int .i64 c.bk.owners)∧w'.cell? ⟨w.heap.size,2,none⟩=some (.slice a1 c.bk.pars.length c1)∧w'.cell? ⟨w.heap.size,3,none⟩=some (.slice a2 c.bk.ents.length c2)∧w'.cell? ⟨w.heap.size,4,none⟩=some (.int .i64 c.soc)∧w'.cell? ⟨w.heap.size,5,none⟩=some (.int .i64 c.day)∧w'.cell? ⟨w.heap.size,6,none⟩=some (.int .i64 c.parcel)∧w'.cell? ⟨w.heap.size,7,none⟩=some (.slice a3 c.covs.length c3)∧w'.cell? ⟨w.heap.size,8,none⟩=some (.int .i64 c.llo)∧w'.cell? ⟨w.heap.size,9,none⟩=some (.int .i64 c.lhi)∧w'.cell? ⟨w.heap.size,10,none⟩=some (.slice a4 c.clms.length c4)∧w'.cell? ⟨w.heap.size+1,0,none⟩=some (.slice ad t.days.length cd)∧w'.cell? ⟨w.heap.size+1,1,none⟩=some (.slice as' t.sown.length cs)∧w'.cell? ⟨w.heap.size+1,2,none⟩=some (.slice at' t.starts.length ct)∧w'.cell? ⟨w.heap.size+1,3,none⟩=some (.int .i64 t.loss))∧Ext W w')
        ((refine HS.out _ ?_;exact EX))
        (first
          |(go_at_call 26;(with_reducible refine(HCA.out _ (X.trans EX)).mono ?_);rintro e w3 ⟨A',rfl,hmA,hx3⟩)
          |(go_at_call 27;(with_reducible refine(HTR.out _ (X.trans EX)).mono ?_);rintro e w4 ⟨v',rfl,hvT,hx4⟩)
          |(go_at_call 25;(with_reducible refine(HPL.out _ _ _ (hmA.ext EX) (hvT.ext EX)).mono ?_);rintro e w5 ⟨al,nl,ql,am,rfl,hne,hyes,hx5⟩))
      have X5:Ext W w5:=EX;have HX5:=hHd X5;clear t0 t1 t2 t3 hx1 hmA hvT hx3 hx4 hx5 d1 d1' d2 d2' d3 d3' s1 s2 s3 HTH HTR HPL;obtain⟨⟨q0,q1,q2,q3,q4,q5,q6,q7,q8,q9,q10,t0,t1,t2,t3⟩,-⟩:=HS.out w5 X5;clear X5;(go_wp2_with fail);(with_reducible refine(HFT.out _ (X.trans HX5.out)).mono ?_);rintro e w6 ⟨rfl,hx6⟩;have HX6:Hid (Ext W w6):=hHd (HX5.out.trans hx6);have HY6:=hHd hx6;clear q0 q1 q2 q3 q4 q5 q6 q7 q8 q9 q10 t0 t1 t2 t3 hx6;obtain⟨⟨q0,q1,q2,q3,q4,q5,q6,q7,q8,q9,q10,t0,t1,t2,t3⟩,-⟩:=HS.out w6 HX6.out;(go_wp2_with fail);(with_reducible refine(HCA.out _ (X.trans HX6.out)).mono ?_);rintro e w7 ⟨A7,rfl,hm7,hx7⟩;have HX7:Hid (Ext W w7):=hHd (HX6.out.trans hx7);have HY7:Hid (Ext w5 w7):=hHd (HY6.out.trans hx7);clear q0 q1 q2 q3 q4 q5 q6 q7 q8 q9 q10 t0 t1 t2 t3 hx7;(go_wp2_with fail);(with_reducible refine(HCK.out _ _ hm7).mono ?_);rintro e w8 ⟨rfl,hx8⟩;have HX8:Hid (Ext W w8):=hHd (HX7.out.trans hx8);have HY8:Hid (Ext w5 w8):=hHd (HY7.out.trans hx8);have HXW:Hid (Ext w W):=hHd X;clear hm7 hx8 HX5 HX6 HY6 HX7 HY7 HCA HFT HCK X;obtain⟨⟨q0,q1,q2,q3,q4,q5,q6,q7,q8,q9,q10,t0,t1,t2,t3⟩,-⟩:=HS.out w8 HX8.out;by_cases hE:E=0
      · subst hE; clear HPC; (go_wp2_with fail); (with_reducible refine (HIL2.out _ (HXW.out.trans HX8.out)).mono ?_); rintro e w9 ⟨rfl, hx9⟩; have HX9 : Hid (Ext W w9) := hHd (HX8.out.trans hx9); have HY9 : Hid (Ext w5 w9) := hHd (HY8.out.trans hx9); clear q0 q1 q2 q3 q4 q5 q6 q7 q8 q9 q10 t0 t1 t2 t3 hx9 HIL2; cases L with
        | false =>
          obtain rfl:P=2:=by rw [HPE.out (by trivial)];rfl
          obtain⟨rfl,rfl⟩:=hne.out (by decide);clear hyes HPE HIT HPY hne;(go_wp2_with fail);(with_reducible refine(HAW.out _).mono ?_);rintro e w11 ⟨rfl,hx11⟩;(go_wp2_with fail);go_ret;exact⟨rfl,HXW.out.trans (HX9.out.trans hx11)⟩
        | true =>
          obtain⟨⟨q0,q1,q2,q3,q4,q5,q6,q7,q8,q9,q10,t0,t1,t2,t3⟩,-⟩:=HS.out w9 HX9.out;have HIT2:=hHd (HIT.out (by trivial) (by trivial));have HPY2:=hHd (HPY.out (by trivial) (by trivial));clear HIT HPY;(go_wp2_with fail);(with_reducible refine(HIT2.out _ (HXW.out.trans HX9.out)).mono ?_);rintro e w10 ⟨rfl,hx10⟩;have HX10:Hid (Ext W w10):=hHd (HX9.out.trans hx10);have HY10:Hid (Ext w5 w10):=hHd (HY9.out.trans hx10);clear q0 q1 q2 q3 q4 q5 q6 q7 q8 q9 q10 t0 t1 t2 t3 hx10 HIT2;cases T with
          | false =>
            obtain rfl:P=11:=by rw [HPE.out (by trivial)];rfl
            obtain⟨rfl,rfl⟩:=hne.out (by decide);clear hyes HPE HPY2 hne;(go_wp2_with fail);(with_reducible refine(HAW.out _).mono ?_);rintro e w11 ⟨rfl,hx11⟩;(go_wp2_with fail);go_ret;exact⟨rfl,HXW.out.trans (HX10.out.trans hx11)⟩
          | true =>
            obtain rfl:P=0:=by rw [HPE.out (by trivial)];rfl
            obtain⟨d,hd,rfl,hi⟩:=hyes.out (by trivial);have HPD:=hHd (HPY2.out d hd);have HI:=hHd hi;have HML:Hid ((payL d c.soc.toNat).length≤1000):=hHd (by unfold payL;rw [List.length_take];simp;omega);obtain⟨⟨q0,q1,q2,q3,q4,q5,q6,q7,q8,q9,q10,t0,t1,t2,t3⟩,-⟩:=HS.out w10 HX10.out;clear hyes hne HPE HPY2 hd hi;generalize payL d c.soc.toNat=pl at*;generalize d.amount=am at*;(go_wp2_with fail);(with_reducible refine(HPD.out _ (HXW.out.trans HX10.out)).mono ?_);rintro e w11 ⟨v1,v2,rfl,hi1,hx11⟩;have HX11:Hid (Ext W w11):=hHd (HX10.out.trans hx11);have HY11:Hid (Ext w5 w11):=hHd (HY10.out.trans hx11);have HI1:=hHd hi1;clear q0 q1 q2 q3 q4 q5 q6 q7 q8 q9 q10 t0 t1 t2 t3 hx11 hi1;(go_wp2_with fail);(with_reducible refine(HIN.out _ _ _ _ (HI.out.ext HY11.out) HI1.out HML.out).mono ?_);rintro e w12 ⟨rfl,hx12⟩;(go_wp2_with fail);(with_reducible refine(HAW.out _).mono ?_);rintro e w13 ⟨rfl,hx13⟩;(go_wp2_with fail);go_ret;exact⟨rfl,HXW.out.trans (HX11.out.trans (hx12.trans hx13))⟩
      · obtain rfl : P = E := HPC.out hE; obtain ⟨rfl, rfl⟩ := hne.out hE; have e1 : (P == 0) = false := by rw [beq_eq_false_iff_ne]; exact hE
        have e2:(P !=0)=true:=by rw [bne_iff_ne];exact hE
        clear hE hyes HPC HPE HIT HPY HIL2 hne;(go_wp2_with fail);(with_reducible refine(HAW.out _).mono ?_);rintro e w9 ⟨rfl,hx9⟩;(go_wp2_with fail);go_ret;exact⟨rfl,HXW.out.trans (HX8.out.trans hx9)⟩
    · obtain hb | hb | hb : 9 < t.starts.length ∨ (t.starts.length ≤ 9 ∧ 9 < t.days.length) ∨ (t.starts.length ≤ 9 ∧ t.days.length ≤ 9 ∧ 9 < t.sown.length) := by omega
      · have d1 : decide ((9 : Int) < (t.starts.length : Int)) = true := decide_eq_true (by omega); have d1' : (9 : Int) < (t.starts.length : Int) := by omega
        obtain⟨a1,c1,a2,c2,a3,c3,a4,c4⟩:=A;unfold CaseA.v caseV at*;simp only at*;clear HTV hm hsm hb;go_enter Tryz.func4,Tryz.ntmps4
        (go_wp2_with fail);obtain⟨W,hW,X,HS,HSf,HSz⟩:=bx11_4 w 41 (.int .i64 c.bk.last) (.int .i64 c.bk.owners) (.slice a1 c.bk.pars.length c1) (.slice a2 c.bk.ents.length c2) (.int .i64 c.soc) (.int .i64 c.day) (.int .i64 c.parcel) (.slice a3 c.covs.length c3) (.int .i64 c.llo) (.int .i64 c.lhi) (.slice a4 c.clms.length c4) 45 (.slice ad t.days.length cd) (.slice as' t.sown.length cs) (.slice at' t.starts.length ct) (.int .i64 t.loss);rw [hW];clear hW;(with_reducible refine(HTH.out _ X).mono ?_);rintro e w1 ⟨rfl,hx1⟩;obtain⟨⟨-,-,-,-,-,-,-,-,-,-,-,t0,t1,t2,t3⟩,-⟩:=HS.out w1 hx1;(go_wp2_with fail);(with_reducible refine(HAW.out _).mono ?_);rintro e w2 ⟨rfl,hx2⟩;(go_wp2_with fail);go_ret;exact⟨rfl,EX⟩
      · have d1 : decide ((9 : Int) < (t.starts.length : Int)) = false := decide_eq_false (by omega); have d1' : (t.starts.length : Int) ≤ 9 := by omega
        have d2:decide ((9:Int)<(t.days.length:Int))=true:=decide_eq_true (by omega);have d2':(9:Int)<(t.days.length:Int):=by omega
        obtain⟨a1,c1,a2,c2,a3,c3,a4,c4⟩:=A;unfold CaseA.v caseV at*;simp only at*;clear HTV hm hsm hb;go_enter Tryz.func4,Tryz.ntmps4
        (go_wp2_with fail);obtain⟨W,hW,X,HS,HSf,HSz⟩:=bx11_4 w 41 (.int .i64 c.bk.last) (.int .i64 c.bk.owners) (.slice a1 c.bk.pars.length c1) (.slice a2 c.bk.ents.length c2) (.int .i64 c.soc) (.int .i64 c.day) (.int .i64 c.parcel) (.slice a3 c.covs.length c3) (.int .i64 c.llo) (.int .i64 c.lhi) (.slice a4 c.clms.length c4) 45 (.slice ad t.days.length cd) (.slice as' t.sown.length cs) (.slice at' t.starts.length ct) (.int .i64 t.loss);rw [hW];clear hW;(with_reducible refine(HTH.out _ X).mono ?_);rintro e w1 ⟨rfl,hx1⟩;obtain⟨⟨-,-,-,-,-,-,-,-,-,-,-,t0,t1,t2,t3⟩,-⟩:=HS.out w1 hx1;(go_wp2_with fail);(with_reducible refine(HAW.out _).mono ?_);rintro e w2 ⟨rfl,hx2⟩;(go_wp2_with fail);go_ret;exact⟨rfl,EX⟩
      · have d1 : decide ((9 : Int) < (t.starts.length : Int)) = false := decide_eq_false (by omega); have d1' : (t.starts.length : Int) ≤ 9 := by omega
        have d2:decide ((9:Int)<(t.days.length:Int))=false:=decide_eq_false (by omega);have d2':(t.days.length:Int)≤9:=by omega
        have d3:decide ((9:Int)<(t.sown.length:Int))=true:=decide_eq_true (by omega);have d3':(9:Int)<(t.sown.length:Int):=by omega
        obtain⟨a1,c1,a2,c2,a3,c3,a4,c4⟩:=A;unfold CaseA.v caseV at*;simp only at*;clear HTV hm hsm hb;go_enter Tryz.func4,Tryz.ntmps4
        (go_wp2_with fail);obtain⟨W,hW,X,HS,HSf,HSz⟩:=bx11_4 w 41 (.int .i64 c.bk.last) (.int .i64 c.bk.owners) (.slice a1 c.bk.pars.length c1) (.slice a2 c.bk.ents.length c2) (.int .i64 c.soc) (.int .i64 c.day) (.int .i64 c.parcel) (.slice a3 c.covs.length c3) (.int .i64 c.llo) (.int .i64 c.lhi) (.slice a4 c.clms.length c4) 45 (.slice ad t.days.length cd) (.slice as' t.sown.length cs) (.slice at' t.starts.length ct) (.int .i64 t.loss);rw [hW];clear hW;(with_reducible refine(HTH.out _ X).mono ?_);rintro e w1 ⟨rfl,hx1⟩;obtain⟨⟨-,-,-,-,-,-,-,-,-,-,-,t0,t1,t2,t3⟩,-⟩:=HS.out w1 hx1;(go_wp2_with fail);(with_reducible refine(HAW.out _).mono ?_);rintro e w2 ⟨rfl,hx2⟩;(go_wp2_with fail);go_ret;exact⟨rfl,EX⟩
theorem walk_DoublePlays (v:Value) (c:DCas) (vt:Value) (t:DTr) (w:World) (hv:DCasW w v c) (ht:DTruW w vt t):
  Calls Tryz.prog 4 #[v,vt] w fun e w'=>e= .returned (.bool true)∧Below w.heap.size w w':=plays_ext v c vt t w hv ht
end Go.Proofs.YtegkdnfeceomdaaGreat
