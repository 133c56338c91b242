/- Bundled: what the texts HW HTU say one after another. -/
import Derived.Test.YtegkdnfeceomdaaGreatKDW1
import Derived.Test.YtegkdnfeceomdaaGreatKDC4
import Derived.Test.YtegkdnfeceomdaaGreatKDA4
import Derived.Test.YtegkdnfeceomdaaGreatKDA27
import Derived.Test.YtegkdnfeceomdaaGreatKDA26
import Derived.Test.YtegkdnfeceomdaaGreatKDC1
import Derived.Test.YtegkdnfeceomdaaGreatKDC2
import Derived.Test.YtegkdnfeceomdaaGreatKDA24
set_option maxRecDepth 100000
set_option maxHeartbeats 16000000
set_option linter.unusedSimpArgs false
set_option linter.unusedVariables false
namespace Go.Proofs.YtegkdnfeceomdaaGreat
open Go.RowKit Go.Hs
attribute [local irreducible] World.setCell World.alloc
end Go.Proofs.YtegkdnfeceomdaaGreat
namespace Go.Hs
open Go.RowKit
theorem ints_ok {w:World} {v:Value} {xs:List Int} (h:IntsV w v xs):∀x∈xs,i64ok x:=by
 obtain⟨a,c,rfl,-,-,h3⟩:=h;intro x hx
 obtain⟨i,hi,rfl⟩:=List.getElem_of_mem hx;obtain⟨b,o,-,hc⟩:=h3 i hi;exact hc.2
def IntsN (B:Nat) (w:World) (v:Value) (xs:List Int):Prop:=IntsV w v xs∧∀g,v.ownBlock=some g→B≤g
theorem IntsN.kp {B:Nat} {p:Nat→Prop} {w w':World} {v:Value} {xs:List Int} (h:IntsN B w v xs) (k:KP p w w') (hp:∀j,p j→j<B):IntsN B w' v xs:=
 ⟨ints_kp h.1 k (fun g hg e=>by have:=h.2 g hg;have:=hp g e;omega),h.2⟩
theorem IntsN.ext {B:Nat} {w w':World} {v:Value} {xs:List Int} (h:IntsN B w v xs) (x:Ext w w'):IntsN B w' v xs:=⟨h.1.ext x,h.2⟩
theorem IntsN.down {B D:Nat} {w:World} {v:Value} {xs:List Int} (h:IntsN B w v xs) (hd:D≤B):IntsN D w v xs:=⟨h.1,fun g hg=>Nat.le_trans hd (h.2 g hg)⟩
end Go.Hs
namespace Go.Proofs.YtegkdnfeceomdaaGreat
open Go.RowKit Go.Hs
attribute [local irreducible] World.setCell World.alloc
theorem list1_n (v:Value) (xs:List Int) (w:World) (hv:IntsV w v xs) (hl:xs.length≤1000):Calls Tryz.prog 132 #[v] w fun e w'=>∃a q,e= .returned (.slice a xs.length q)∧IntsN w.heap.size w' (.slice a xs.length q) xs∧Ext w w':=
 (list1 v xs w hv hl).mono (fun e w' ⟨v', h1, h2, h3⟩ => by
  have hi:=own_intsV h2 rfl rfl (ints_ok hv) hl;obtain⟨a,q,rfl,-⟩:=id hi;exact⟨a,q,h1,⟨hi,fun g hg=>(own_lt h2 hg).1⟩,h3⟩)
theorem list8_n (v:Value) (xs:List Int) (w:World) (hv:IntsV w v xs) (hl:xs.length≤1000):Calls Tryz.prog 20 #[v] w fun e w'=>∃a q,e= .returned (.slice a xs.length q)∧IntsN w.heap.size w' (.slice a xs.length q) xs∧Ext w w':=
 (list8 v xs w hv hl).mono (fun e w' ⟨v', h1, h2, h3⟩ => by
  have hi:=own_intsV h2 rfl rfl (ints_ok hv) hl;obtain⟨a,q,rfl,-⟩:=id hi;exact⟨a,q,h1,⟨hi,fun g hg=>(own_lt h2 hg).1⟩,h3⟩)
theorem Truth1_h (days sown:List Int) (vd vs:Value) (w:World) (h1:IntsV w vd days) (h2:IntsV w vs sown) (l1:days.length≤1000) (l2:sown.length≤1000):
  Calls Tryz.prog 77 #[.agg #[vd,vs]] w fun e w'=>∃ad cd as' cs,e= .returned (.agg #[.slice ad days.length cd,.slice as' sown.length cs])∧IntsN w.heap.size w' (.slice ad days.length cd) days∧IntsN w.heap.size w' (.slice as' sown.length cs) sown∧Ext w w':=by
 obtain⟨aD,cD,rfl,-⟩:=id h1;obtain⟨aS,cS,rfl,-⟩:=id h2;have H1:=hHd (fun W hx=>list1_n _ _ W (IntsV.ext (w':=W) hx h1) l1);have H2:=hHd (fun W hx=>list1_n _ _ W (IntsV.ext (w':=W) hx h2) l2);clear h1 h2;go_enter Tryz.func77,Tryz.ntmps77
 (go_wp2_with fail);obtain⟨W,hW⟩:∃W,W=((w.alloc (.cells #[.slice aD days.length cD,.slice aS sown.length cS] 43)).alloc (.cells #[.slice none 0 0,.slice none 0 0] 59)):=⟨_,rfl⟩;have X:Ext w W:=by subst hW;exact EX
 have HS:Hid (∀w',Ext W w'→(w'.cell? ⟨w.heap.size,0,none⟩=some (.slice aD days.length cD)∧w'.cell? ⟨w.heap.size,1,none⟩=some (.slice aS sown.length cS))∧Ext W w'):=hHd (fun w' hx=>⟨by subst hW;and_intros<;>exact hx.keep (by simp [go_sem]),hx⟩);have HSf:Hid (∀w',Ext W w'→∀o,w'.frozen? ⟨w.heap.size+1,o,none⟩=false):=hHd (fun w' hx o=>(hx.frozen (by subst hW;simp)).trans (by subst hW;simp [go_sem]));have HSz:w.heap.size+1+1≤W.heap.size:=by subst hW;simp
 have HB1:Hid (∀w',Ext W w'→((∃v,w'.cell? ⟨w.heap.size+1,0,none⟩=some v)∧(∃v,w'.cell? ⟨w.heap.size+1,1,none⟩=some v))∧∀o,w'.frozen? ⟨w.heap.size+1,o,none⟩=false):=hHd (fun w' hx=>⟨⟨⟨_,hx.keep (v:= .slice none 0 0) (by subst hW;simp [go_sem])⟩,⟨_,hx.keep (v:= .slice none 0 0) (by subst hW;simp [go_sem])⟩⟩,fun o=>(hx.frozen (by subst hW;simp;try omega)).trans (by subst hW;simp [go_sem])⟩);rw [←hW];clear hW;have HSz1:w.heap.size+1<W.heap.size:=by omega
 have HSS:Hid (∀w',Ext W w'→(w'.cell? ⟨w.heap.size,0,none⟩=some (.slice aD days.length cD)∧w'.cell? ⟨w.heap.size,1,none⟩=some (.slice aS sown.length cS))∧(w'.cell? ⟨(w.heap.size+1),0,none⟩=some (curV w' ⟨(w.heap.size+1),0,none⟩)∧w'.cell? ⟨(w.heap.size+1),1,none⟩=some (curV w' ⟨(w.heap.size+1),1,none⟩)∧∀o,w'.frozen? ⟨(w.heap.size+1),o,none⟩=false)∧Ext w w'):=hHd (fun w' h=>by
  obtain⟨⟨q0,q1⟩,-⟩:=HS.out w' h;obtain⟨⟨⟨x0,r0⟩,⟨x1,r1⟩⟩,hf⟩:=HB1.out w' h;exact⟨⟨q0,q1⟩,⟨cur_self r0,cur_self r1,hf⟩,Ext.trans X h⟩)
 have HST:Hid (∀w' a0 a1 V,V=((w'.setCell ⟨(w.heap.size+1),0,none⟩ a0).setCell ⟨(w.heap.size+1),1,none⟩ a1)→Ext W w'→(V.cell? ⟨w.heap.size,0,none⟩=some (.slice aD days.length cD)∧V.cell? ⟨w.heap.size,1,none⟩=some (.slice aS sown.length cS))∧(V.cell? ⟨(w.heap.size+1),0,none⟩=some (curV V ⟨(w.heap.size+1),0,none⟩)∧V.cell? ⟨(w.heap.size+1),1,none⟩=some (curV V ⟨(w.heap.size+1),1,none⟩)∧∀o,V.frozen? ⟨(w.heap.size+1),o,none⟩=false)∧Ext w V):=hHd (fun w' a0 a1 V hV h=>by
  have hV:V=(setL w' (w.heap.size+1) [a0,a1] 0):=hV;subst hV;obtain⟨⟨q0,q1⟩,-⟩:=HS.out w' h;obtain⟨⟨⟨x0,r0⟩,⟨x1,r1⟩⟩,hf⟩:=HB1.out w' h;exact⟨⟨setL_ne (by omega) _ _ _ q0,setL_ne (by omega) _ _ _ q1⟩,⟨setL_cur r0,setL_cur r1,fun o=>(setL_fr _ _ _).trans (hf o)⟩,setL_ext (by omega) _ _ _ (Ext.trans X h)⟩)
 have HRT:Hid (∀w' a0 a1 V,V=((w'.setCell ⟨(w.heap.size+1),0,none⟩ a0).setCell ⟨(w.heap.size+1),1,none⟩ a1)→Ext W w'→V.cell? ⟨(w.heap.size+1),0,none⟩=some a0∧V.cell? ⟨(w.heap.size+1),1,none⟩=some a1):=hHd (fun w' a0 a1 V hV h=>by
  have hV:V=(setL w' (w.heap.size+1) [a0,a1] 0):=hV;subst hV;obtain⟨⟨q0,q1⟩,-⟩:=HS.out w' h;obtain⟨⟨⟨x0,r0⟩,⟨x1,r1⟩⟩,hf⟩:=HB1.out w' h
  have hA:=setL_at (R:=(w.heap.size+1)) [a0,a1] 0 w' (fun i hi=>by
   simp only [List.length_cons,List.length_nil] at hi;rcases i with _|_|i
   ·exact⟨_,r0⟩
   ·exact⟨_,r1⟩
   ·omega)
  exact⟨hA 0 _ rfl,hA 1 _ rfl⟩)
 go_region_held3 (fun w'=>(w'.cell? ⟨w.heap.size,0,none⟩=some (.slice aD days.length cD)∧w'.cell? ⟨w.heap.size,1,none⟩=some (.slice aS sown.length cS))∧(w'.cell? ⟨(w.heap.size+1),0,none⟩=some (curV w' ⟨(w.heap.size+1),0,none⟩)∧w'.cell? ⟨(w.heap.size+1),1,none⟩=some (curV w' ⟨(w.heap.size+1),1,none⟩)∧∀o,w'.frozen? ⟨(w.heap.size+1),o,none⟩=false)∧Ext w w')
  (first|(refine HSS.out _ ?_;((repeat (first|exact Ext.refl _|with_reducible (first|assumption|refine Ext.drew ?_|refine Ext.alloc ?_ _|refine Ext.drewN ?_ _|refine Ext.setCell ?_ (by omega) _|refine Ext.trans ?_ (by assumption))));done))|(refine HST.out _ _ _ _ rfl ?_;exact EXD))
  (first
   |(go_at_call 132;(with_reducible refine(H1.out _ (X.trans EX)).mono ?_);rintro e w3 ⟨va,qva,rfl,iva,hxva⟩)
   |(go_at_call 132;(with_reducible refine(H2.out _ (X.trans EX)).mono ?_);rintro e w4 ⟨vb,qvb,rfl,ivb,hxvb⟩))
 all_goals
  have XL:Ext W w4:=EX;have TT:=HST.out w4 (.slice va days.length qva) (.slice vb sown.length qvb) _ rfl XL;have RR:=HRT.out w4 (.slice va days.length qva) (.slice vb sown.length qvb) _ rfl XL;have KK:KP (fun j=>j=w.heap.size+1) w4 ((w4.setCell ⟨w.heap.size+1,0,none⟩ (.slice va days.length qva)).setCell ⟨w.heap.size+1,1,none⟩ (.slice vb sown.length qvb)):=((KP.refl _).setCell (p:=fun j=>j=w.heap.size+1) rfl _).setCell rfl _;clear HSS HST HRT;(go_wp2_with fail);generalize ((w4.setCell ⟨w.heap.size+1,0,none⟩ (.slice va days.length qva)).setCell ⟨w.heap.size+1,1,none⟩ (.slice vb sown.length qvb))=WF at*;obtain⟨r0,r1⟩:=RR;obtain⟨-,-,XF⟩:=TT;exact bodyPost_ret (v:= .agg #[.slice va days.length qva,.slice vb sown.length qvb]) (by simp [results,Tryz.results77,go_sem,r0,r1]) rfl ⟨_,_,_,_,rfl,((iva.ext (show Ext w3 w4 from EX)).down (D:=W.heap.size) (Ext.size EX)).kp KK (fun j hj=>by subst hj;omega)|>.down (by omega),(ivb.down (D:=W.heap.size) (Ext.size EX)).kp KK (fun j hj=>by subst hj;omega)|>.down (by omega),XF⟩
theorem Truth8_h (t:DTr) (v:Value) (w:World) (hv:TruV w v t) (l1:t.days.length≤1000) (l2:t.sown.length≤1000) (l3:t.starts.length≤1000):
  Calls Tryz.prog 27 #[v] w fun e w'=>∃v',e= .returned v'∧TruV w' v' t∧Ext w w':=by
 obtain⟨vd,vs,vst,rfl,h1,h2,h3⟩:=hv;obtain⟨aD,cD,rfl,-⟩:=id h1;obtain⟨aS,cS,rfl,-⟩:=id h2;obtain⟨aT,cT,rfl,-⟩:=id h3;have H1:=hHd (fun W (hx:Ext w W)=>Truth1_h t.days t.sown _ _ W (h1.ext hx) (h2.ext hx) l1 l2);have H3:=hHd (fun W hx=>list8_n _ _ W (IntsV.ext (w':=W) hx h3) l3);clear h1 h2 h3;go_enter Tryz.func27,Tryz.ntmps27
 (go_wp2_with fail);obtain⟨W,hW⟩:∃W,W=((w.alloc (.cells #[.slice aD t.days.length cD,.slice aS t.sown.length cS,.slice aT t.starts.length cT,.int .i64 t.loss] 45)).alloc (.cells #[.slice none 0 0,.slice none 0 0,.slice none 0 0,.int .i64 0] 61)):=⟨_,rfl⟩;have X:Ext w W:=by subst hW;exact EX
 have HS:Hid (∀w',Ext W w'→(w'.cell? ⟨w.heap.size,0,none⟩=some (.slice aD t.days.length cD)∧w'.cell? ⟨w.heap.size,1,none⟩=some (.slice aS t.sown.length cS)∧w'.cell? ⟨w.heap.size,2,none⟩=some (.slice aT t.starts.length cT)∧w'.cell? ⟨w.heap.size,3,none⟩=some (.int .i64 t.loss))∧Ext W w'):=hHd (fun w' hx=>⟨by subst hW;and_intros<;>exact hx.keep (by simp [go_sem]),hx⟩);have HSf:Hid (∀w',Ext W w'→∀o,w'.frozen? ⟨w.heap.size+1,o,none⟩=false):=hHd (fun w' hx o=>(hx.frozen (by subst hW;simp)).trans (by subst hW;simp [go_sem]));have HSz:w.heap.size+1+1≤W.heap.size:=by subst hW;simp
 have HB1:Hid (∀w',Ext W w'→((∃v,w'.cell? ⟨w.heap.size+1,0,none⟩=some v)∧(∃v,w'.cell? ⟨w.heap.size+1,1,none⟩=some v)∧(∃v,w'.cell? ⟨w.heap.size+1,2,none⟩=some v)∧(∃v,w'.cell? ⟨w.heap.size+1,3,none⟩=some v))∧∀o,w'.frozen? ⟨w.heap.size+1,o,none⟩=false):=hHd (fun w' hx=>⟨⟨⟨_,hx.keep (v:= .slice none 0 0) (by subst hW;simp [go_sem])⟩,⟨_,hx.keep (v:= .slice none 0 0) (by subst hW;simp [go_sem])⟩,⟨_,hx.keep (v:= .slice none 0 0) (by subst hW;simp [go_sem])⟩,⟨_,hx.keep (v:= .int .i64 0) (by subst hW;simp [go_sem])⟩⟩,fun o=>(hx.frozen (by subst hW;simp;try omega)).trans (by subst hW;simp [go_sem])⟩);rw [←hW];clear hW;have HSz1:w.heap.size+1<W.heap.size:=by omega
 have HSS:Hid (∀w',Ext W w'→(w'.cell? ⟨w.heap.size,0,none⟩=some (.slice aD t.days.length cD)∧w'.cell? ⟨w.heap.size,1,none⟩=some (.slice aS t.sown.length cS)∧w'.cell? ⟨w.heap.size,2,none⟩=some (.slice aT t.starts.length cT)∧w'.cell? ⟨w.heap.size,3,none⟩=some (.int .i64 t.loss))∧(w'.cell? ⟨(w.heap.size+1),0,none⟩=some (curV w' ⟨(w.heap.size+1),0,none⟩)∧w'.cell? ⟨(w.heap.size+1),1,none⟩=some (curV w' ⟨(w.heap.size+1),1,none⟩)∧w'.cell? ⟨(w.heap.size+1),2,none⟩=some (curV w' ⟨(w.heap.size+1),2,none⟩)∧w'.cell? ⟨(w.heap.size+1),3,none⟩=some (curV w' ⟨(w.heap.size+1),3,none⟩)∧∀o,w'.frozen? ⟨(w.heap.size+1),o,none⟩=false)∧Ext w w'):=hHd (fun w' h=>by
  obtain⟨⟨q0,q1,q2,q3⟩,-⟩:=HS.out w' h;obtain⟨⟨⟨x0,r0⟩,⟨x1,r1⟩,⟨x2,r2⟩,⟨x3,r3⟩⟩,hf⟩:=HB1.out w' h;exact⟨⟨q0,q1,q2,q3⟩,⟨cur_self r0,cur_self r1,cur_self r2,cur_self r3,hf⟩,Ext.trans X h⟩)
 have HST:Hid (∀w' a0 a1 a2 a3 V,V=((((w'.setCell ⟨(w.heap.size+1),0,none⟩ a0).setCell ⟨(w.heap.size+1),1,none⟩ a1).setCell ⟨(w.heap.size+1),2,none⟩ a2).setCell ⟨(w.heap.size+1),3,none⟩ a3)→Ext W w'→(V.cell? ⟨w.heap.size,0,none⟩=some (.slice aD t.days.length cD)∧V.cell? ⟨w.heap.size,1,none⟩=some (.slice aS t.sown.length cS)∧V.cell? ⟨w.heap.size,2,none⟩=some (.slice aT t.starts.length cT)∧V.cell? ⟨w.heap.size,3,none⟩=some (.int .i64 t.loss))∧(V.cell? ⟨(w.heap.size+1),0,none⟩=some (curV V ⟨(w.heap.size+1),0,none⟩)∧V.cell? ⟨(w.heap.size+1),1,none⟩=some (curV V ⟨(w.heap.size+1),1,none⟩)∧V.cell? ⟨(w.heap.size+1),2,none⟩=some (curV V ⟨(w.heap.size+1),2,none⟩)∧V.cell? ⟨(w.heap.size+1),3,none⟩=some (curV V ⟨(w.heap.size+1),3,none⟩)∧∀o,V.frozen? ⟨(w.heap.size+1),o,none⟩=false)∧Ext w V):=hHd (fun w' a0 a1 a2 a3 V hV h=>by
  have hV:V=(setL w' (w.heap.size+1) [a0,a1,a2,a3] 0):=hV;subst hV;obtain⟨⟨q0,q1,q2,q3⟩,-⟩:=HS.out w' h;obtain⟨⟨⟨x0,r0⟩,⟨x1,r1⟩,⟨x2,r2⟩,⟨x3,r3⟩⟩,hf⟩:=HB1.out w' h;exact⟨⟨setL_ne (by omega) _ _ _ q0,setL_ne (by omega) _ _ _ q1,setL_ne (by omega) _ _ _ q2,setL_ne (by omega) _ _ _ q3⟩,⟨setL_cur r0,setL_cur r1,setL_cur r2,setL_cur r3,fun o=>(setL_fr _ _ _).trans (hf o)⟩,setL_ext (by omega) _ _ _ (Ext.trans X h)⟩)
 have HRT:Hid (∀w' a0 a1 a2 a3 V,V=((((w'.setCell ⟨(w.heap.size+1),0,none⟩ a0).setCell ⟨(w.heap.size+1),1,none⟩ a1).setCell ⟨(w.heap.size+1),2,none⟩ a2).setCell ⟨(w.heap.size+1),3,none⟩ a3)→Ext W w'→V.cell? ⟨(w.heap.size+1),0,none⟩=some a0∧V.cell? ⟨(w.heap.size+1),1,none⟩=some a1∧V.cell? ⟨(w.heap.size+1),2,none⟩=some a2∧V.cell? ⟨(w.heap.size+1),3,none⟩=some a3):=hHd (fun w' a0 a1 a2 a3 V hV h=>by
  have hV:V=(setL w' (w.heap.size+1) [a0,a1,a2,a3] 0):=hV;subst hV;obtain⟨⟨q0,q1,q2,q3⟩,-⟩:=HS.out w' h;obtain⟨⟨⟨x0,r0⟩,⟨x1,r1⟩,⟨x2,r2⟩,⟨x3,r3⟩⟩,hf⟩:=HB1.out w' h
  have hA:=setL_at (R:=(w.heap.size+1)) [a0,a1,a2,a3] 0 w' (fun i hi=>by
   simp only [List.length_cons,List.length_nil] at hi;rcases i with _|_|_|_|i
   ·exact⟨_,r0⟩
   ·exact⟨_,r1⟩
   ·exact⟨_,r2⟩
   ·exact⟨_,r3⟩
   ·omega)
  exact⟨hA 0 _ rfl,hA 1 _ rfl,hA 2 _ rfl,hA 3 _ rfl⟩)
 go_region_held3 (fun w'=>(w'.cell? ⟨w.heap.size,0,none⟩=some (.slice aD t.days.length cD)∧w'.cell? ⟨w.heap.size,1,none⟩=some (.slice aS t.sown.length cS)∧w'.cell? ⟨w.heap.size,2,none⟩=some (.slice aT t.starts.length cT)∧w'.cell? ⟨w.heap.size,3,none⟩=some (.int .i64 t.loss))∧(w'.cell? ⟨(w.heap.size+1),0,none⟩=some (curV w' ⟨(w.heap.size+1),0,none⟩)∧w'.cell? ⟨(w.heap.size+1),1,none⟩=some (curV w' ⟨(w.heap.size+1),1,none⟩)∧w'.cell? ⟨(w.heap.size+1),2,none⟩=some (curV w' ⟨(w.heap.size+1),2,none⟩)∧w'.cell? ⟨(w.heap.size+1),3,none⟩=some (curV w' ⟨(w.heap.size+1),3,none⟩)∧∀o,w'.frozen? ⟨(w.heap.size+1),o,none⟩=false)∧Ext w w')
  (first|(refine HSS.out _ ?_;((repeat (first|exact Ext.refl _|with_reducible (first|assumption|refine Ext.drew ?_|refine Ext.alloc ?_ _|refine Ext.drewN ?_ _|refine Ext.setCell ?_ (by omega) _|refine Ext.trans ?_ (by assumption))));done))|(refine HST.out _ _ _ _ _ _ rfl ?_;exact EXD))
  (first
   |(go_at_call 77;(with_reducible refine(H1.out _ (X.trans EX)).mono ?_);rintro e w3 ⟨va,qva,vb,qvb,rfl,iva,ivb,hx3⟩)
   |(go_at_call 20;(with_reducible refine(H3.out _ (X.trans EX)).mono ?_);rintro e w4 ⟨vc,qvc,rfl,ivc,hxvc⟩))
 all_goals
  have XL:Ext W w4:=EX;have TT:=HST.out w4 (.slice va t.days.length qva) (.slice vb t.sown.length qvb) (.slice vc t.starts.length qvc) (.int .i64 t.loss) _ rfl XL;have RR:=HRT.out w4 (.slice va t.days.length qva) (.slice vb t.sown.length qvb) (.slice vc t.starts.length qvc) (.int .i64 t.loss) _ rfl XL;have KK:KP (fun j=>j=w.heap.size+1) w4 ((((w4.setCell ⟨w.heap.size+1,0,none⟩ (.slice va t.days.length qva)).setCell ⟨w.heap.size+1,1,none⟩ (.slice vb t.sown.length qvb)).setCell ⟨w.heap.size+1,2,none⟩ (.slice vc t.starts.length qvc)).setCell ⟨w.heap.size+1,3,none⟩ (.int .i64 t.loss)):=((((KP.refl _).setCell (p:=fun j=>j=w.heap.size+1) rfl _).setCell rfl _).setCell rfl _).setCell rfl _;clear HSS HST HRT;(go_wp2_with fail);generalize ((((w4.setCell ⟨w.heap.size+1,0,none⟩ (.slice va t.days.length qva)).setCell ⟨w.heap.size+1,1,none⟩ (.slice vb t.sown.length qvb)).setCell ⟨w.heap.size+1,2,none⟩ (.slice vc t.starts.length qvc)).setCell ⟨w.heap.size+1,3,none⟩ (.int .i64 t.loss))=WF at*;obtain⟨r0,r1,r2,r3⟩:=RR;obtain⟨-,-,XF⟩:=TT;exact bodyPost_ret (v:= .agg #[.slice va t.days.length qva,.slice vb t.sown.length qvb,.slice vc t.starts.length qvc,.int .i64 t.loss]) (by simp [results,Tryz.results27,go_sem,r0,r1,r2,r3]) rfl ⟨_,rfl,⟨_,_,_,rfl,(((iva.ext (show Ext w3 w4 from EX)).down (D:=W.heap.size) (Ext.size EX)).kp KK (fun j hj=>by subst hj;omega)).1,(((ivb.ext (show Ext w3 w4 from EX)).down (D:=W.heap.size) (Ext.size EX)).kp KK (fun j hj=>by subst hj;omega)).1,((ivc.down (D:=W.heap.size) (Ext.size EX)).kp KK (fun j hj=>by subst hj;omega)).1⟩,XF⟩
end Go.Proofs.YtegkdnfeceomdaaGreat
