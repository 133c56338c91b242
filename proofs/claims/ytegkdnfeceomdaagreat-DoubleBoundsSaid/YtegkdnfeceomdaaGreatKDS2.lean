/- Contracts of layer 8's law: sure, ready. -/
import Derived.Test.YtegkdnfeceomdaaGreatKDS1
import Derived.Test.YtegkdnfeceomdaaGreatKDC5
import Derived.Test.YtegkdnfeceomdaaGreatKDC10
import Derived.Test.YtegkdnfeceomdaaGreatKDA4
set_option maxRecDepth 100000
set_option maxHeartbeats 16000000
set_option linter.unusedSimpArgs false
set_option linter.unusedVariables false
namespace Go.Hs
open Go.RowKit Go.Proofs.YtegkdnfeceomdaaGreat
theorem bndE_fault {c:DCas} (h:caseD c≠0):bndE c=caseD c:=by
 unfold bndE askD;simp [h]
def SureQ (c:DCas) (w:World) (e:Ending) (w':World):Prop:=∃a n q,e= .returned (.tuple #[.slice a n q,.int .i64 (bndE c)])∧(caseD c=0→IntsV w' (.slice a n q) (allD c))∧Ext w w'
end Go.Hs
namespace Go.Proofs.YtegkdnfeceomdaaGreat
open Go.RowKit Go.Hs
attribute [local irreducible] World.setCell World.alloc
theorem sure_h (A : CaseA) (c : DCas) (w : World) (hm : CaseM w A c) : Calls Tryz.prog 35 #[A.v c] w (SureQ c w) := by
  have HFT:=hHd (fun W hx=>fault_h A c W (hm.ext (w':=W) hx));unfold SureQ;by_cases hE:caseD c=0
  · have hn := (caseD_zero hE).2.1.nm
    have HAL:Hid (∀W,Ext w W→Calls Tryz.prog 95 #[A.v c] W fun e w'=>∃a q,e= .returned (.slice a (allD c).length q)∧IntsV w' (.slice a (allD c).length q) (allD c)∧Ext W w'):=hHd (fun W hx=>(All_h A c W (hm.ext hx) hE).mono (fun e w' h=>by
      obtain⟨v,rfl,h1,h2⟩:=h;obtain⟨a,q,rfl,-⟩:=id h1;exact⟨a,q,rfl,h1,h2⟩))
    have HCN:=hHd (fun W v m (h:IntsV W v (allD c))=>Can_h v (allD c) m W h);have HFU:=hHd (fun W=>Full_h A c W hn);have HBE:=hHd (bndE_sure hE);rw [hE] at HFT⊢;clear hm hn;obtain⟨a1,c1,a2,c2,a3,c3,a4,c4⟩:=A;unfold CaseA.v caseV at*;simp only at*;generalize (2:Int) ^ c.clms.length - 1=F at*;generalize allD c=L at*;obtain⟨r0,hr0⟩:∃r,r=canB L 0:=⟨_,rfl⟩;obtain⟨r1,hr1⟩:∃r,r=canB L F:=⟨_,rfl⟩;have HC0:Hid (∀W v,IntsV W v L→Calls Tryz.prog 96 #[v,.int .i64 0] W fun e w'=>e= .returned (.bool r0)∧Ext W w'):=hHd (fun W v h=>by rw [hr0];exact HCN.out W v 0 h);have HC1:Hid (∀W v,IntsV W v L→Calls Tryz.prog 96 #[v,.int .i64 F] W fun e w'=>e= .returned (.bool r1)∧Ext W w'):=hHd (fun W v h=>by rw [hr1];exact HCN.out W v F h);rw [←hr0,←hr1] at HBE;clear hr0 hr1 HCN hE;generalize bndE c=E at*;go_enter Tryz.func35,Tryz.ntmps35
    (go_wp2_with fail);obtain⟨W,hW,X,HS,HSf,HSz⟩:=bx11 w 41 (.int .i64 c.bk.last) (.int .i64 c.bk.owners) (.slice a1 c.bk.pars.length c1) (.slice a2 c.bk.ents.length c2) (.int .i64 c.soc) (.int .i64 c.day) (.int .i64 c.parcel) (.slice a3 c.covs.length c3) (.int .i64 c.llo) (.int .i64 c.lhi) (.slice a4 c.clms.length c4);rw [hW];clear hW;(with_reducible refine(HFT.out _ X).mono ?_);rintro e w1 ⟨rfl,hx1⟩;obtain⟨⟨q0,q1,q2,q3,q4,q5,q6,q7,q8,q9,q10⟩,-⟩:=HS.out w1 hx1;(go_wp2_with fail);(with_reducible refine(HAL.out _ (X.trans hx1)).mono ?_);rintro e w2 ⟨a,q,rfl,hi,hx2⟩;have X2:Ext W w2:=hx1.trans hx2;have HI:=hHd hi;clear q0 q1 q2 q3 q4 q5 q6 q7 q8 q9 q10 hi hx1 hx2 HFT HAL;(go_wp2_with fail);(with_reducible refine(HC0.out _ _ HI.out).mono ?_);rintro e w3 ⟨rfl,hx3⟩;have X3:Ext W w3:=X2.trans hx3;cases r0 with
    | false =>
      obtain rfl:E=9:=HBE.out;have HI3:=hHd (HI.out.ext hx3);clear HBE;(go_wp2_with fail);go_ret2;exact⟨_,_,_,rfl,fun _=>HI3.out,X.trans X3⟩
    | true =>
      obtain⟨⟨q0,q1,q2,q3,q4,q5,q6,q7,q8,q9,q10⟩,-⟩:=HS.out w3 X3;(go_wp2_with fail);(with_reducible refine(HFU.out _).mono ?_);rintro e w4 ⟨rfl,hx4⟩;(go_wp2_with fail);(with_reducible refine(HC1.out _ _ (HI.out.ext (hx3.trans hx4))).mono ?_);rintro e w5 ⟨rfl,hx5⟩;have HI5:=hHd (HI.out.ext (hx3.trans (hx4.trans hx5)));have X5:=X.trans (X3.trans (hx4.trans hx5));cases r1 with
      | false =>
        obtain rfl:E=11:=HBE.out;clear HBE;(go_wp2_with fail);go_ret2;exact⟨_,_,_,rfl,fun _=>HI5.out,X5⟩
      | true =>
        obtain rfl:E=0:=HBE.out;clear HBE;(go_wp2_with fail);go_ret2;exact⟨_,_,_,rfl,fun _=>HI5.out,X5⟩
  · have hb : (caseD c != 0) = true := by rw [bne_iff_ne]; exact hE
    rw [bndE_fault hE];have HNE:=hHd hE;clear hm hE;obtain⟨a1,c1,a2,c2,a3,c3,a4,c4⟩:=A;unfold CaseA.v caseV at*;simp only at*;generalize caseD c=E at*;go_enter Tryz.func35,Tryz.ntmps35
    (go_wp2_with fail);(with_reducible refine(HFT.out _ EX).mono ?_);rintro e w1 ⟨rfl,hx1⟩;(go_wp2_with fail);go_ret2;exact⟨_,_,_,rfl,fun h=>absurd h HNE.out,EX⟩
end Go.Proofs.YtegkdnfeceomdaaGreat
