/- The walk of DoubleNever. Printed by gen_wn.py. -/
import Derived.Test.YtegkdnfeceomdaaGreatKDS2
import Derived.Test.YtegkdnfeceomdaaGreatKWN
import Derived.Test.YtegkdnfeceomdaaGreatKDA27
import Derived.Test.YtegkdnfeceomdaaGreatKDA4
import Derived.Test.YtegkdnfeceomdaaGreatKHW0
set_option maxRecDepth 100000
set_option maxHeartbeats 16000000
set_option linter.unusedSimpArgs false
set_option linter.unusedVariables false
namespace Go.Hs
open Go.RowKit Go.Proofs.YtegkdnfeceomdaaGreat
def someTo (c:DCas) (k:Nat):Bool:=(c.covs.take k).any (fun x=>x.parcel==c.parcel)
theorem someTo_next {c:DCas} {k:Nat} (h:k<c.covs.length):someTo c (k+1)=(someTo c k||c.covs[k].parcel==c.parcel):=by
 unfold someTo;rw [List.take_succ_eq_append_getElem h,List.any_append];simp
theorem someTo_all {c:DCas} (h:someTo c c.covs.length=false):∀k∈c.covs,k.parcel≠c.parcel:=by
 unfold someTo at h;rw [List.take_length] at h;intro k hk
 have:=List.any_eq_false.1 h k hk;simpa using this
end Go.Hs
namespace Go.Proofs.YtegkdnfeceomdaaGreat
open Go.RowKit Go.Hs
attribute [local irreducible] World.setCell World.alloc
theorem field_book (x0 x1 x4 x5 x6 x8 x9:Value) (a1 a2 a3 a4:Option Addr) (n1 c1 n2 c2 n3 c3 n4 c4:Nat) (w:World):(Instr.field 57 (.agg #[x0,x1,.slice a1 n1 c1,.slice a2 n2 c2,x4,x5,x6,.slice a3 n3 c3,x8,x9,.slice a4 n4 c4]) 0).run Tryz.prog w= .ok (.agg #[x0,x1,.slice a1 n1 c1,.slice a2 n2 c2]) w:=by kernel_rfl
theorem neq_bnd0 (w:World):(binOp .neq 81 (.agg #[.int .i64 0,.int .i64 0,.int .i64 0,.int .i64 0]) (.agg #[.int .i64 0,.int .i64 0,.int .i64 0,.int .i64 0])).run Tryz.prog w= .ok (.bool false) w:=by
  have h:=eq_bnd 0 0 0 0 0 0 0 0 w;rw [run_eql_struct] at h;rw [run_neq_struct];cases hq:(Op.equalIn 10000 81 (.agg #[.int .i64 0,.int .i64 0,.int .i64 0,.int .i64 0]) (.agg #[.int .i64 0,.int .i64 0,.int .i64 0,.int .i64 0])).run Tryz.prog w with
  | ok b w' =>
    rw [hq] at h;simp only [Result.andThen_ok,Result.ok.injEq,Value.bool.injEq] at h;obtain⟨rfl,rfl⟩:=h;simp
  |halt x w'=>rw [hq] at h;simp [Result.andThen] at h
theorem ext_DoubleNever (v : Value) (c : DCas) (l : List Clm) (w : World) (hcl : c.clms = []) (hv : DCasW w v { c with clms := l }) :
    Calls Tryz.prog 17 #[v] w fun e w'=>e= .returned (.bool true)∧Ext w w':=by
  have HAW:=hHd awake8;obtain⟨a1,c1,a2,c2,a3,c3,a4,c4,rfl,hcm⟩:=hv.parts1 hcl;have hl0:c.clms.length=0:=by rw [hcl];rfl
  have HRD:Hid (∀W,Ext w W→Calls Tryz.prog 43 #[(CaseA.mk a1 c1 a2 c2 a3 c3 none 0).v c] W fun e w'=>e= .returned (.bool (readyD c))∧Ext W w'):=hHd (fun W hx=>ready_h ⟨a1,c1,a2,c2,a3,c3,none,0⟩ c W (fun h1 h2 h3 _=>(hcm h1 h2 h3).ext hx));have HCM:=hHd hcm;clear hv hcm;cases hrd:readyD c with
  | false =>
    rw [hrd] at HRD;clear HCM hrd;unfold CaseA.v caseV at*;simp only [hl0] at*;clear hl0 hcl;go_enter Tryz.func17,Tryz.ntmps17
    (go_wp2_with fail);obtain⟨W,hW⟩:∃W,W=((w.alloc (.cells #[.int .i64 c.bk.last,.int .i64 c.bk.owners,.slice a1 c.bk.pars.length c1,.slice a2 c.bk.ents.length c2,.int .i64 c.soc,.int .i64 c.day,.int .i64 c.parcel,.slice a3 c.covs.length c3,.int .i64 c.llo,.int .i64 c.lhi,.slice a4 l.length c4] 41)).alloc (.cells #[.int .i64 c.bk.last,.int .i64 c.bk.owners,.slice a1 c.bk.pars.length c1,.slice a2 c.bk.ents.length c2,.int .i64 c.soc,.int .i64 c.day,.int .i64 c.parcel,.slice a3 c.covs.length c3,.int .i64 c.llo,.int .i64 c.lhi,.slice none 0 0] 41)):=⟨_,rfl⟩;have X:Ext w W:=by subst hW;exact EX
    have HS:Hid (∀w',Ext W w'→(w'.cell? ⟨w.heap.size+1,0,none⟩=some (.int .i64 c.bk.last)∧w'.cell? ⟨w.heap.size+1,1,none⟩=some (.int .i64 c.bk.owners)∧w'.cell? ⟨w.heap.size+1,2,none⟩=some (.slice a1 c.bk.pars.length c1)∧w'.cell? ⟨w.heap.size+1,3,none⟩=some (.slice a2 c.bk.ents.length c2)∧w'.cell? ⟨w.heap.size+1,4,none⟩=some (.int .i64 c.soc)∧w'.cell? ⟨w.heap.size+1,5,none⟩=some (.int .i64 c.day)∧w'.cell? ⟨w.heap.size+1,6,none⟩=some (.int .i64 c.parcel)∧w'.cell? ⟨w.heap.size+1,7,none⟩=some (.slice a3 c.covs.length c3)∧w'.cell? ⟨w.heap.size+1,8,none⟩=some (.int .i64 c.llo)∧w'.cell? ⟨w.heap.size+1,9,none⟩=some (.int .i64 c.lhi)∧w'.cell? ⟨w.heap.size+1,10,none⟩=some (.slice none 0 0))∧Ext W w'):=hHd (fun w' hx=>⟨by subst hW;and_intros<;>exact hx.keep (by simp [go_sem]),hx⟩);have HSf:Hid (∀w',Ext W w'→∀o,w'.frozen? ⟨w.heap.size+1,o,none⟩=false):=hHd (fun w' hx o=>(hx.frozen (by subst hW;simp)).trans (by subst hW;simp [go_sem]));have HSz:w.heap.size+1+1≤W.heap.size:=by subst hW;simp
    have HB0:Hid (∀w',Ext W w'→((∃v,w'.cell? ⟨w.heap.size,0,none⟩=some v)∧(∃v,w'.cell? ⟨w.heap.size,1,none⟩=some v)∧(∃v,w'.cell? ⟨w.heap.size,2,none⟩=some v)∧(∃v,w'.cell? ⟨w.heap.size,3,none⟩=some v)∧(∃v,w'.cell? ⟨w.heap.size,4,none⟩=some v)∧(∃v,w'.cell? ⟨w.heap.size,5,none⟩=some v)∧(∃v,w'.cell? ⟨w.heap.size,6,none⟩=some v)∧(∃v,w'.cell? ⟨w.heap.size,7,none⟩=some v)∧(∃v,w'.cell? ⟨w.heap.size,8,none⟩=some v)∧(∃v,w'.cell? ⟨w.heap.size,9,none⟩=some v)∧(∃v,w'.cell? ⟨w.heap.size,10,none⟩=some v))∧∀o,w'.frozen? ⟨w.heap.size,o,none⟩=false):=hHd (fun w' hx=>⟨⟨⟨_,hx.keep (v:= .int .i64 c.bk.last) (by subst hW;simp [go_sem])⟩,⟨_,hx.keep (v:= .int .i64 c.bk.owners) (by subst hW;simp [go_sem])⟩,⟨_,hx.keep (v:= .slice a1 c.bk.pars.length c1) (by subst hW;simp [go_sem])⟩,⟨_,hx.keep (v:= .slice a2 c.bk.ents.length c2) (by subst hW;simp [go_sem])⟩,⟨_,hx.keep (v:= .int .i64 c.soc) (by subst hW;simp [go_sem])⟩,⟨_,hx.keep (v:= .int .i64 c.day) (by subst hW;simp [go_sem])⟩,⟨_,hx.keep (v:= .int .i64 c.parcel) (by subst hW;simp [go_sem])⟩,⟨_,hx.keep (v:= .slice a3 c.covs.length c3) (by subst hW;simp [go_sem])⟩,⟨_,hx.keep (v:= .int .i64 c.llo) (by subst hW;simp [go_sem])⟩,⟨_,hx.keep (v:= .int .i64 c.lhi) (by subst hW;simp [go_sem])⟩,⟨_,hx.keep (v:= .slice a4 l.length c4) (by subst hW;simp [go_sem])⟩⟩,fun o=>(hx.frozen (by subst hW;simp;try omega)).trans (by subst hW;simp [go_sem])⟩);rw [←hW];clear hW;have XX:Ext W W:=Ext.refl _;obtain⟨⟨q0,q1,q2,q3,q4,q5,q6,q7,q8,q9,q10⟩,-⟩:=HS.out W XX;(go_wp2_with fail);(with_reducible refine(HRD.out _ (X.trans XX)).mono ?_);rintro e w1 ⟨rfl,hx⟩;have hy:Ext W w1:=EX;replace XX:=XX.trans hy;clear hx hy;clear q0 q1 q2 q3 q4 q5 q6 q7 q8 q9 q10;(go_wp2_with fail);(with_reducible refine(HAW.out _).mono ?_);rintro e wz ⟨rfl,hx⟩;(go_wp2_with fail);go_ret;exact⟨rfl,X.trans (XX.trans hx)⟩
  | true =>
    rw [hrd] at HRD;obtain⟨hth,hc⟩:=readyD_iff.1 hrd;obtain⟨l3,l4,l1,l2⟩:=thinD_len hth;have hm:CaseM w ⟨a1,c1,a2,c2,a3,c3,none,0⟩ c:=HCM.out (by omega) (by omega) (by omega);clear HCM hrd hth;have HCA:Hid (∀W A' x,x.bk.pars.length≤100∧x.bk.ents.length≤100∧x.covs.length≤100∧x.clms.length≤100→CaseM W A' x→Calls Tryz.prog 26 #[A'.v x] W fun e w'=>∃A2,e= .returned (CaseA.v A2 x)∧CaseM w' A2 x∧Ext W w'):=hHd (fun W A' x h hm=>Case_h A' x W hm h.1 h.2.1 h.2.2.1 h.2.2.2);have HLN:Hid (c.bk.pars.length≤100∧c.bk.ents.length≤100∧c.covs.length≤100∧c.clms.length≤100):=hHd (by omega);have hS:=(caseD_zero hc).2.1;have HBO:=hHd (fun W A' (h:CaseM W A' c)=>Bounds_r A' c W h);have HTO:=hHd (fun W A' (h:CaseM W A' c)=>Total_d A' c W h);have HCO:=hHd (fun W v (h:BkV W v c.bk)=>Covered_p c.bk v c.parcel c.day W h);have HLW:=hHd (never_law hcl hc);have HNO:Hid (bndE c≠0→totR c=(0,0)):=hHd (fun h=>by unfold totR;rw [if_neg h])
    have HVV:Hid (∀W,Ext w W→Calls Tryz.prog 26 #[(CaseA.mk a1 c1 a2 c2 a3 c3 none 0).v c] W fun e w'=>∃b1 d1 b2 d2 b3 d3 b4 d4,e= .returned (CaseA.v ⟨b1,d1,b2,d2,b3,d3,b4,d4⟩ c)∧CaseM w' ⟨b1,d1,b2,d2,b3,d3,b4,d4⟩ c∧BkV w' (.agg #[.int .i64 c.bk.last,.int .i64 c.bk.owners,.slice b1 c.bk.pars.length d1,.slice b2 c.bk.ents.length d2]) c.bk∧Ext W w'):=hHd (fun W hx=>(HCA.out W _ c HLN.out (hm.ext hx)).mono (fun e w' k=>by
      obtain⟨⟨b1,d1,b2,d2,b3,d3,b4,d4⟩,rfl,k1,k2⟩:=k;exact⟨b1,d1,b2,d2,b3,d3,b4,d4,rfl,k1,k1.bk,k2⟩))
    have HCV:Hid (∀W,Ext w W→Cells7 W a3 (c.covs.map Cov.c)):=hHd (fun W hx=>hm.covs.ext hx);have HSN:=hHd (fun k (h:k<c.covs.length)=>someTo_next h);have HSA:=hHd (someTo_all (c:=c));have HS0:Hid (someTo c 0=false):=hHd (by simp [someTo]);have hsoc:=hS.soc;have hn3:=hS.nc;clear hm hS HCA HLN hc;unfold CaseA.v caseV at*;simp only [hl0] at*;clear hl0 hcl;obtain⟨v1,v2,hcv⟩:∃v1 v2,covE c.bk c.parcel c.day=(v1,v2):=⟨_,_,rfl⟩;rw [hcv] at HLW HCO;clear hcv;simp only at HLW HCO;generalize totR c=tot at*;obtain⟨t1,t2⟩:=tot;simp only [Prod.mk.injEq] at HNO HTO HLW;generalize bndE c=be at*;have hfl:=field_book;go_enter Tryz.func17,Tryz.ntmps17
    (go_wp2_with fail);obtain⟨W,hW⟩:∃W,W=((w.alloc (.cells #[.int .i64 c.bk.last,.int .i64 c.bk.owners,.slice a1 c.bk.pars.length c1,.slice a2 c.bk.ents.length c2,.int .i64 c.soc,.int .i64 c.day,.int .i64 c.parcel,.slice a3 c.covs.length c3,.int .i64 c.llo,.int .i64 c.lhi,.slice a4 l.length c4] 41)).alloc (.cells #[.int .i64 c.bk.last,.int .i64 c.bk.owners,.slice a1 c.bk.pars.length c1,.slice a2 c.bk.ents.length c2,.int .i64 c.soc,.int .i64 c.day,.int .i64 c.parcel,.slice a3 c.covs.length c3,.int .i64 c.llo,.int .i64 c.lhi,.slice none 0 0] 41)):=⟨_,rfl⟩;have X:Ext w W:=by subst hW;exact EX
    have HS:Hid (∀w',Ext W w'→(w'.cell? ⟨w.heap.size+1,0,none⟩=some (.int .i64 c.bk.last)∧w'.cell? ⟨w.heap.size+1,1,none⟩=some (.int .i64 c.bk.owners)∧w'.cell? ⟨w.heap.size+1,2,none⟩=some (.slice a1 c.bk.pars.length c1)∧w'.cell? ⟨w.heap.size+1,3,none⟩=some (.slice a2 c.bk.ents.length c2)∧w'.cell? ⟨w.heap.size+1,4,none⟩=some (.int .i64 c.soc)∧w'.cell? ⟨w.heap.size+1,5,none⟩=some (.int .i64 c.day)∧w'.cell? ⟨w.heap.size+1,6,none⟩=some (.int .i64 c.parcel)∧w'.cell? ⟨w.heap.size+1,7,none⟩=some (.slice a3 c.covs.length c3)∧w'.cell? ⟨w.heap.size+1,8,none⟩=some (.int .i64 c.llo)∧w'.cell? ⟨w.heap.size+1,9,none⟩=some (.int .i64 c.lhi)∧w'.cell? ⟨w.heap.size+1,10,none⟩=some (.slice none 0 0))∧Ext W w'):=hHd (fun w' hx=>⟨by subst hW;and_intros<;>exact hx.keep (by simp [go_sem]),hx⟩);have HSf:Hid (∀w',Ext W w'→∀o,w'.frozen? ⟨w.heap.size+1,o,none⟩=false):=hHd (fun w' hx o=>(hx.frozen (by subst hW;simp)).trans (by subst hW;simp [go_sem]));have HSz:w.heap.size+1+1≤W.heap.size:=by subst hW;simp
    have HB0:Hid (∀w',Ext W w'→((∃v,w'.cell? ⟨w.heap.size,0,none⟩=some v)∧(∃v,w'.cell? ⟨w.heap.size,1,none⟩=some v)∧(∃v,w'.cell? ⟨w.heap.size,2,none⟩=some v)∧(∃v,w'.cell? ⟨w.heap.size,3,none⟩=some v)∧(∃v,w'.cell? ⟨w.heap.size,4,none⟩=some v)∧(∃v,w'.cell? ⟨w.heap.size,5,none⟩=some v)∧(∃v,w'.cell? ⟨w.heap.size,6,none⟩=some v)∧(∃v,w'.cell? ⟨w.heap.size,7,none⟩=some v)∧(∃v,w'.cell? ⟨w.heap.size,8,none⟩=some v)∧(∃v,w'.cell? ⟨w.heap.size,9,none⟩=some v)∧(∃v,w'.cell? ⟨w.heap.size,10,none⟩=some v))∧∀o,w'.frozen? ⟨w.heap.size,o,none⟩=false):=hHd (fun w' hx=>⟨⟨⟨_,hx.keep (v:= .int .i64 c.bk.last) (by subst hW;simp [go_sem])⟩,⟨_,hx.keep (v:= .int .i64 c.bk.owners) (by subst hW;simp [go_sem])⟩,⟨_,hx.keep (v:= .slice a1 c.bk.pars.length c1) (by subst hW;simp [go_sem])⟩,⟨_,hx.keep (v:= .slice a2 c.bk.ents.length c2) (by subst hW;simp [go_sem])⟩,⟨_,hx.keep (v:= .int .i64 c.soc) (by subst hW;simp [go_sem])⟩,⟨_,hx.keep (v:= .int .i64 c.day) (by subst hW;simp [go_sem])⟩,⟨_,hx.keep (v:= .int .i64 c.parcel) (by subst hW;simp [go_sem])⟩,⟨_,hx.keep (v:= .slice a3 c.covs.length c3) (by subst hW;simp [go_sem])⟩,⟨_,hx.keep (v:= .int .i64 c.llo) (by subst hW;simp [go_sem])⟩,⟨_,hx.keep (v:= .int .i64 c.lhi) (by subst hW;simp [go_sem])⟩,⟨_,hx.keep (v:= .slice a4 l.length c4) (by subst hW;simp [go_sem])⟩⟩,fun o=>(hx.frozen (by subst hW;simp;try omega)).trans (by subst hW;simp [go_sem])⟩);rw [←hW];clear hW;have XX:Ext W W:=Ext.refl _;obtain⟨⟨q0,q1,q2,q3,q4,q5,q6,q7,q8,q9,q10⟩,-⟩:=HS.out W XX;(go_wp2_with fail);(with_reducible refine(HRD.out _ (X.trans XX)).mono ?_);rintro e w1 ⟨rfl,hx⟩;have hy:Ext W w1:=EX;replace XX:=XX.trans hy;clear hx hy;clear q0 q1 q2 q3 q4 q5 q6 q7 q8 q9 q10;have HXW:=hHd (X.trans XX);have HK:Hid (∀w',Ext w1 w'→(w'.cell? ⟨w.heap.size+1,0,none⟩=some (.int .i64 c.bk.last)∧w'.cell? ⟨w.heap.size+1,1,none⟩=some (.int .i64 c.bk.owners)∧w'.cell? ⟨w.heap.size+1,2,none⟩=some (.slice a1 c.bk.pars.length c1)∧w'.cell? ⟨w.heap.size+1,3,none⟩=some (.slice a2 c.bk.ents.length c2)∧w'.cell? ⟨w.heap.size+1,4,none⟩=some (.int .i64 c.soc)∧w'.cell? ⟨w.heap.size+1,5,none⟩=some (.int .i64 c.day)∧w'.cell? ⟨w.heap.size+1,6,none⟩=some (.int .i64 c.parcel)∧w'.cell? ⟨w.heap.size+1,7,none⟩=some (.slice a3 c.covs.length c3)∧w'.cell? ⟨w.heap.size+1,8,none⟩=some (.int .i64 c.llo)∧w'.cell? ⟨w.heap.size+1,9,none⟩=some (.int .i64 c.lhi)∧w'.cell? ⟨w.heap.size+1,10,none⟩=some (.slice none 0 0))∧Ext w1 w'):=hHd (fun w' hx=>⟨(HS.out w' (Ext.trans XX hx)).1,hx⟩)
    have xx:Ext w1 w1:=Ext.refl _;clear HRD;have y1:=XX;go_wp2_with fail
    go_region_held3 (fun w'=>(w'.cell? ⟨w.heap.size+1,0,none⟩=some (.int .i64 c.bk.last)∧w'.cell? ⟨w.heap.size+1,1,none⟩=some (.int .i64 c.bk.owners)∧w'.cell? ⟨w.heap.size+1,2,none⟩=some (.slice a1 c.bk.pars.length c1)∧w'.cell? ⟨w.heap.size+1,3,none⟩=some (.slice a2 c.bk.ents.length c2)∧w'.cell? ⟨w.heap.size+1,4,none⟩=some (.int .i64 c.soc)∧w'.cell? ⟨w.heap.size+1,5,none⟩=some (.int .i64 c.day)∧w'.cell? ⟨w.heap.size+1,6,none⟩=some (.int .i64 c.parcel)∧w'.cell? ⟨w.heap.size+1,7,none⟩=some (.slice a3 c.covs.length c3)∧w'.cell? ⟨w.heap.size+1,8,none⟩=some (.int .i64 c.llo)∧w'.cell? ⟨w.heap.size+1,9,none⟩=some (.int .i64 c.lhi)∧w'.cell? ⟨w.heap.size+1,10,none⟩=some (.slice none 0 0))∧Ext w1 w')
      ((refine HK.out _ ?_;exact EX))
      (first
        |(go_at_call 26;(with_reducible refine(HVV.out _ (HXW.out.trans EX)).mono ?_);rintro e w2 ⟨b1,d1,b2,d2,b3,d3,b4,d4,rfl,hm2,hbk2,hx2⟩)
        |(go_at_call 61;(with_reducible refine(HCO.out _ _ (hbk2.ext EX)).mono ?_);rintro e w3 ⟨rfl,hx3⟩))
    have X3:Ext w1 w3:=EX;replace XX:=XX.trans X3;clear hm2 hbk2 hx2 hx3 X3 HK xx y1 HCO hfl HXW;obtain⟨⟨q0,q1,q2,q3,q4,q5,q6,q7,q8,q9,q10⟩,-⟩:=HS.out w3 XX;(go_wp2_with fail);(with_reducible refine(HVV.out _ (X.trans XX)).mono ?_);rintro e w4 ⟨b1,d1,b2,d2,b3,d3,b4,d4,rfl,hm4,hbk4,hx⟩;have hy:Ext w3 w4:=EX;replace XX:=XX.trans hy;clear hx hy;clear q0 q1 q2 q3 q4 q5 q6 q7 q8 q9 q10;(go_wp2_with fail);(with_reducible refine(HBO.out _ _ hm4).mono ?_);rintro e w5 ⟨ba,bn,bq,rfl,hb0,hb1,hx⟩;have hy:Ext w4 w5:=EX;replace XX:=XX.trans hy;clear hx hy;have HB1:=hHd (fun h=>hb1.out h);clear hb0 hb1 hm4 hbk4 HBO;have Y5:Ext w5 w5:=Ext.refl _;obtain⟨⟨q0,q1,q2,q3,q4,q5,q6,q7,q8,q9,q10⟩,-⟩:=HS.out w5 XX;(go_wp2_with fail);(with_reducible refine(HVV.out _ (X.trans XX)).mono ?_);rintro e w6 ⟨b1,d1,b2,d2,b3,d3,b4,d4,rfl,hm6,hbk6,hx⟩;have hy:Ext w5 w6:=EX;replace XX:=XX.trans hy;replace Y5:=Y5.trans hy;clear hx hy;clear q0 q1 q2 q3 q4 q5 q6 q7 q8 q9 q10;(go_wp2_with fail);(with_reducible refine(HTO.out _ _ hm6).mono ?_);rintro e w7 ⟨rfl,hx⟩;have hy:Ext w6 w7:=EX;replace XX:=XX.trans hy;replace Y5:=Y5.trans hy;clear hx hy;clear hm6 hbk6 HVV HTO;go_upto_region 8 with fail
    obtain⟨w8,hwb⟩:∃x,x=w7.alloc (.cells #[.int .i64 t1,.int .i64 t2] 54):=⟨_,rfl⟩;have hy:Ext w7 w8:=by rw [hwb];exact EX
    have d0:w8.cell? ⟨w7.heap.size,0,none⟩=some (.int .i64 t1):=by rw [hwb];simp [go_sem]
    have d1:w8.cell? ⟨w7.heap.size,1,none⟩=some (.int .i64 t2):=by rw [hwb];simp [go_sem]
    rw [←hwb];clear hwb;replace XX:=XX.trans hy;replace Y5:=Y5.trans hy;clear hy;have HXX:=hHd XX;rcases HLW.out with ⟨e1,e2⟩|⟨e1,e2,hz⟩
    · subst e1;subst e2;clear HB1 HLW HNO HCV HSN HSA HS0 d0 d1;(go_wp2_with fail);(with_reducible refine(HAW.out _).mono ?_);rintro e wz ⟨rfl,hx⟩;(go_wp2_with fail);go_ret;exact⟨rfl,X.trans (XX.trans hx)⟩
    · subst e1; subst e2; obtain ⟨rfl, gb, rfl, hrow⟩ := HB1.out rfl; have HROW := hHd (hrow.ext Y5); have HZ := hHd hz; have hsn : ((c.soc.toNat : Int) != c.soc) = false := by rw [bne_eq_false_iff_eq]; omega
      have HD0:=hHd d0;have HD1:=hHd d1;have hs3:c.soc.toNat≤3:=by omega
      generalize c.soc.toNat=sn at*;clear hrow hz HB1 HLW HNO Y5 d0 d1;have hxx:Ext w8 w8:=Ext.refl _;(go_wp2_with fail);go_loopw [10,11] (fun s10 s11 wr=>∃k:Nat,k≤c.covs.length∧s11= .int .i64 k∧s10= .bool (someTo c k)∧Ext w8 wr) (fun _ s _=>c.covs.length - (intOf s).toNat)
      case atStart=>exact⟨0,Nat.zero_le _,rfl,by rw [HS0.out],hxx⟩
      case round =>
        obtain⟨k,hk,rfl,rfl,hx⟩:=hrel;obtain⟨wo,rfl⟩:∃x,x=wr:=⟨_,rfl⟩;have hk0:(0:Int)≤(k:Int):=by omega
        obtain⟨⟨q0,q1,q2,q3,q4,q5,q6,q7,q8,q9,q10⟩,-⟩:=HS.out wo (HXX.out.trans hx);clear q0 q1 q2 q3 q5 q8 q9 q10;by_cases hlt:k<c.covs.length
        · have hk1 : (k : Int) < (c.covs.length : Int) := by omega
          obtain⟨b',off,rfl,hce⟩:=HCV.out wo (X.trans (HXX.out.trans hx)) k (by simpa using hlt);have e1:(c.covs.map Cov.c)[k]'(by simpa using hlt)=(c.covs[k]).c:=by simp
          rw [e1] at hce;have hcp:=hce.2.2.1;simp only [Cov.c] at hcp;have HNX:=hHd (HSN.out k hlt);generalize (c.covs[k]).parcel=kp at*;have HFC:Hid (∀V,Ext wo V→V.cell? ⟨w.heap.size+1,7,none⟩=some (.slice (some ⟨b',off,none⟩) c.covs.length c3)∧V.cell? ⟨w.heap.size+1,6,none⟩=some (.int .i64 c.parcel)∧V.cell? ⟨b',off+k*7+2,none⟩=some (.int .i64 kp)):=hHd (fun V h=>⟨h.keep q7,h.keep q6,h.keep hcp⟩);obtain⟨z,hz⟩:∃z,(kp==c.parcel)=z:=⟨_,rfl⟩;have HZK:Hid (someTo c (k+1)=(someTo c k||z)):=hHd (by rw [HNX.out,hz]);have hkk:(kp:Int)=kp:=rfl;generalize someTo c k=sb at*;have HX8:=hHd hx;clear hce hcp e1 q4 HNX hx hkk;cases sb<;>cases z
          all_goals
            (go_wp2_with fail);refine wp_region_quiet (C:=Ext wo) (by kernel_rfl) (by kernel_rfl) (Ext.drew EX) ?_
            rw [tl]
            repeat (first
              |go_big_quiet_skip
              | (go_big_quiet_want
                 first
                  |(go_big_quiet_op;go_big_quiet_on)
                  | (apply Exists.intro
                     refine⟨fun w' hxw=> ?_,?_⟩
                     focus (obtain⟨c7,c6,c2'⟩:=HFC.out w' hxw;go_simp;first|exact rfl|fail)
                     simp only [Act.put,List.setIfInBounds_toArray,List.set_cons_zero,List.set_cons_succ];go_big_quiet_on)))
            refine wpQuiet_nil ?_
            intro w2 hx2
            (go_wp2_with fail);go_roundw
            case rel=>exact⟨k+1,by omega,by go_num,by rw [HZK.out];rfl,HX8.out.trans hx2⟩
            case measure=>simp [intOf];omega
        · obtain rfl : k = c.covs.length := by omega
          have HSA2:=hHd HSA.out;generalize someTo c c.covs.length=sb at*;have HX8:=hHd (HXX.out.trans hx);have HX9:=hHd hx;clear q6 hx HSA;by_cases hq:¬v1=2∧sb=true
          · obtain ⟨h1, rfl⟩ := hq; have hb : (v1 != 2) = true := by rw [bne_iff_ne]; exact h1
            have XX:=HX8.out;clear HZ HSA2 HROW HD0 HD1 h1 HX9;(go_wp2_with fail);(with_reducible refine(HAW.out _).mono ?_);rintro e wz ⟨rfl,hx⟩;(go_wp2_with fail);go_ret;exact⟨rfl,X.trans (HX8.out.trans hx)⟩
          · have hzz : v1 = 2 ∨ (v1 ≠ 2 ∧ sb = false) := by
              by_cases h:v1=2
              · exact .inl h
              · exact .inr ⟨h,by cases sb with|false=>rfl|true=>exact absurd ⟨h,rfl⟩ hq⟩
            obtain⟨hbd,rfl,rfl⟩:=HZ.out (hzz.imp id (fun h=>HSA2.out h.2));have HBD:=hHd hbd;have hq0:∀w,(binOp .eql 54 (.agg #[.int .i64 0,.int .i64 0]) (.agg #[.int .i64 0,.int .i64 0])).run Tryz.prog w= .ok (.bool true) w:=fun w=>eq_rng 0 0 0 0 w
            have hqb:=neq_bnd0;clear hbd HZ HSA2 hq;have hvx:(v1 !=2)=true∧sb=false∨(v1 !=2)=false:=hzz.symm.imp (fun h=>⟨by rw [bne_iff_ne];exact h.1,h.2⟩) (fun h=>by rw [h];rfl);clear hzz;have xx8:Ext wo wo:=Ext.refl _;rcases hvx with ⟨hb,rfl⟩|hb
            all_goals
              (go_wp2_with fail);go_loopw [12] (fun s12 wr=>∃i:Nat,i≤sn∧s12= .int .i64 i∧Ext wo wr) (fun s _=>sn - (intOf s).toNat)
              case atStart=>exact⟨0,Nat.zero_le _,rfl,xx8⟩
              case round=>
                obtain⟨i,hi,rfl,hxi⟩:=hrel;obtain⟨wi,rfl⟩:∃x,x=wr:=⟨_,rfl⟩;have hi0:(0:Int)≤(i:Int):=by omega
                by_cases hlt:i<sn
                · have hi1 : (i : Int) < (sn : Int) := by omega
                  obtain⟨r0,r1,r2,r3⟩:=(HROW.out.ext (HX9.out.trans hxi)) i hlt;rw [HBD.out i] at r0 r1 r2 r3;simp only [Bd4.c] at r0 r1 r2 r3;(go_wp2_with fail);go_roundw
                  case rel=>exact⟨i+1,by omega,by go_num,hxi⟩
                  case measure=>simp [intOf];omega
                · obtain rfl : i = sn := by omega
                  have d0:=(HX9.out.trans hxi).keep HD0.out;have d1:=(HX9.out.trans hxi).keep HD1.out;have HXE:=hHd (X.trans (HX8.out.trans hxi));clear hxi HX8;(go_wp2_with fail);(with_reducible refine(HAW.out _).mono ?_);rintro e wz ⟨rfl,hx⟩;(go_wp2_with fail);go_ret;exact⟨rfl,HXE.out.trans hx⟩
theorem walk_DoubleNever (v:Value) (c:DCas) (w:World) (hv:DCasW w v c):
  Calls Tryz.prog 17 #[v] w fun e w'=>e= .returned (.bool true)∧Below w.heap.size w w':=ext_DoubleNever v { c with clms:= [] } c.clms w rfl hv
end Go.Proofs.YtegkdnfeceomdaaGreat
