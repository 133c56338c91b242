/- Contracts of layer 8's law: sure, ready. -/
import Derived.Test.YtegkdnfeceomdaaGreatKDS1
import Derived.Test.YtegkdnfeceomdaaGreatKDC5
import Derived.Test.YtegkdnfeceomdaaGreatKDC10
import Derived.Test.YtegkdnfeceomdaaGreatKDA4
set_option maxRecDepth 100000
set_option maxHeartbeats 16000000
set_option linter.unusedSimpArgs false
set_option linter.unusedVariables false
namespace Go.Hs
open Go.RowKit Go.Proofs.YtegkdnfeceomdaaGreat
def readyD (c:DCas):Bool:=thinD c&&decide (caseD c=0)
theorem readyD_iff {c:DCas} :readyD c=true↔thinD c=true∧caseD c=0:=by simp [readyD]
end Go.Hs
namespace Go.Proofs.YtegkdnfeceomdaaGreat
open Go.RowKit Go.Hs
attribute [local irreducible] World.setCell World.alloc
theorem ready_h (A:CaseA) (c:DCas) (w:World) (hm0:c.bk.pars.length≤1000→c.bk.ents.length≤1000→c.covs.length≤1000→c.clms.length≤1000→CaseM w A c):Calls Tryz.prog 43 #[A.v c] w fun e w'=>e= .returned (.bool (readyD c))∧Ext w w':=by
  have HTH:Hid (∀W,Ext w W→Calls Tryz.prog 24 #[A.v c] W fun e w'=>e= .returned (.bool (thinD c))∧Ext W w'):=hHd (fun W hx=>Thin8_h A c W (fun h1 h2 h3 h4=>(hm0 h1 h2 h3 h4).ext hx))
  have HFT:Hid (thinD c=true→∀W,Ext w W→Calls Tryz.prog 68 #[A.v c] W fun e w'=>e= .returned (.int .i64 (caseD c))∧Ext W w'):=hHd (fun ht W hx=>by
    obtain⟨h1,h2,h3,h4⟩:=thinD_len ht;exact Fault_dh A c W ((hm0 (by omega) (by omega) (by omega) (by omega)).ext hx))
  have HR:Hid (readyD c=(thinD c&&(caseD c==0))):=hHd (by unfold readyD;cases thinD c<;>simp [Bool.beq_eq_decide_eq]);clear hm0;obtain⟨a1,c1,a2,c2,a3,c3,a4,c4⟩:=A;unfold CaseA.v caseV at*;simp only at*;rw [HR.out];clear HR;generalize caseD c=E at*;generalize thinD c=TH at*;cases TH with
  | false =>
    clear HFT;go_enter Tryz.func43,Tryz.ntmps43
    (go_wp2_with fail);(with_reducible refine(HTH.out _ EX).mono ?_);rintro e w1 ⟨rfl,hx1⟩;(go_wp2_with fail);go_ret;exact⟨rfl,EX⟩
  | true =>
    have HFT2:=hHd (HFT.out rfl);clear HFT;go_enter Tryz.func43,Tryz.ntmps43
    (go_wp2_with fail);obtain⟨W,hW,X,HS,HSf,HSz⟩:=bx11 w 41 (.int .i64 c.bk.last) (.int .i64 c.bk.owners) (.slice a1 c.bk.pars.length c1) (.slice a2 c.bk.ents.length c2) (.int .i64 c.soc) (.int .i64 c.day) (.int .i64 c.parcel) (.slice a3 c.covs.length c3) (.int .i64 c.llo) (.int .i64 c.lhi) (.slice a4 c.clms.length c4);rw [hW];clear hW;(with_reducible refine(HTH.out _ X).mono ?_);rintro e w1 ⟨rfl,hx1⟩;obtain⟨⟨q0,q1,q2,q3,q4,q5,q6,q7,q8,q9,q10⟩,-⟩:=HS.out w1 hx1;(go_wp2_with fail);(with_reducible refine(HFT2.out _ (X.trans hx1)).mono ?_);rintro e w2 ⟨rfl,hx2⟩;(go_wp2_with fail);go_ret;exact⟨by simp,EX⟩
end Go.Proofs.YtegkdnfeceomdaaGreat
