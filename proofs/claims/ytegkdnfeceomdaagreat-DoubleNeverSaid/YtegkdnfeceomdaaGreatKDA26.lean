/- Bundled: what the texts O VL OV HB say one after another. -/
import Derived.Test.YtegkdnfeceomdaaGreatRows
import Derived.Test.YtegkdnfeceomdaaGreatKDA2
import Derived.ProofKit
import Derived.OpenShut
import Derived.ChangeOld
import Derived.Deep.Slices
import Derived.Deep.Fields
import Derived.Test.YtegkdnfeceomdaaGreatKDA15
import Derived.Test.YtegkdnfeceomdaaGreatKDA5
import Derived.Test.YtegkdnfeceomdaaGreatKDA11
import Derived.Test.YtegkdnfeceomdaaGreatKDA17
import Derived.Deep.QuietTactic
set_option maxRecDepth 100000
set_option maxHeartbeats 16000000
set_option linter.unusedSimpArgs false
set_option linter.unusedVariables false
namespace Go.Hs
open Go.RowKit
def SliceW {α:Type} (R:World→Nat→Nat→α→Prop) (k:Nat) (w:World) (v:Value) (xs:List α):Prop:=
 ∃a cap,v= .slice a xs.length cap∧xs.length≤cap∧xs.length≤9223372036854775807∧Rows R k w a xs
def IntsW:World→Value→List Int→Prop:=SliceW IntAt 1
def IntsAtW (w:World) (b o:Nat) (xs:List Int):Prop:=∃v,w.cell? ⟨b,o,none⟩=some v∧IntsW w v xs
def Ints2W:World→Value→List (List Int)→Prop:=SliceW IntsAtW 1
def Ints2AtW (w:World) (b o:Nat) (xs:List (List Int)):Prop:=∃v,w.cell? ⟨b,o,none⟩=some v∧Ints2W w v xs
def Ints3W:World→Value→List (List (List Int))→Prop:=SliceW Ints2AtW 1
structure TarCW (w:World) (c3 c4 c5:Value) (t:Tar):Prop where
 f:i64ok t.start
 l:i64ok t.least
 weeks:IntsW w c3 t.weeks
 counts:IntsW w c4 t.counts
 rates:Ints3W w c5 t.rates
def TarAtW (w:World) (b o:Nat) (t:Tar):Prop:=∃c3 c4 c5,
 w.cell? ⟨b,o,none⟩=some (.int .i64 t.start)∧w.cell? ⟨b,o+1,none⟩=some (.bool t.whole)∧w.cell? ⟨b,o+2,none⟩=some (.int .i64 t.least)∧
 w.cell? ⟨b,o+3,none⟩=some c3∧w.cell? ⟨b,o+4,none⟩=some c4∧w.cell? ⟨b,o+5,none⟩=some c5∧TarCW w c3 c4 c5 t
def TarsW:World→Value→List Tar→Prop:=SliceW TarAtW 6
def thinC (x:List (List Int)):Bool:=decide (x.length≤7)&&allB x.length (fun i=>decide ((x.getD i []).length≤7))
def thinT (t:Tar):Bool:=decide (t.weeks.length≤7)&&decide (t.counts.length≤7)&&decide (t.rates.length≤5)&&allB t.rates.length (fun c=>thinC (t.rates.getD c []))
def thinB (l:List Tar):Bool:=decide (l.length≤5)&&allB l.length (fun i=>thinT (l.getD i default))
theorem SliceW.toV {α:Type} {R S:World→Nat→Nat→α→Prop} {k:Nat} {w:World} {v:Value} {xs:List α} (h:SliceW R k w v xs) (hl:xs.length≤7)
  (hs:∀i (hi:i<xs.length) b o,R w b o xs[i]→S w b o xs[i]):SliceV S k w v xs:=by
 obtain⟨a,c,he,h1,-,hr⟩:=h;refine⟨a,c,he,h1,by omega,fun i hi=> ?_⟩
 obtain⟨b,o,hb,hx⟩:=hr i hi;exact⟨b,o,hb,hs i hi _ _ hx⟩
theorem IntsW.toV {w:World} {v:Value} {xs:List Int} (h:IntsW w v xs) (hl:xs.length≤7):IntsV w v xs:=SliceW.toV h hl (fun _ _ _ _ h=>h)
theorem Ints2W.toV {w:World} {v:Value} {xs:List (List Int)} (h:Ints2W w v xs) (hl:thinC xs=true):Ints2V w v xs:=by
 simp only [thinC,Bool.and_eq_true,decide_eq_true_eq,allB_iff] at hl;refine SliceW.toV h hl.1 (fun i hi b o hx=> ?_)
 obtain⟨u,hc,hu⟩:=hx;exact⟨u,hc,hu.toV (by have:=hl.2 i hi;simpa [hi] using this)⟩
theorem TarsW.toV {w:World} {v:Value} {l:List Tar} (h:TarsW w v l) (hl:thinB l=true):TarsV w v l:=by
 simp only [thinB,thinT,Bool.and_eq_true,decide_eq_true_eq,allB_iff] at hl;refine SliceW.toV h (by omega) (fun i hi b o hx=> ?_)
 obtain⟨c3,c4,c5,h0,h1,h2,h3,h4,h5,g0,g1,g2,g3,g4⟩:=hx;have ht:=hl.2 i hi;have e:l.getD i default=l[i]:=by simp [hi]
 rw [e] at ht;refine⟨c3,c4,c5,h0,h1,h2,h3,h4,h5,g0,g1,g2.toV ht.1.1.1,g3.toV ht.1.1.2,SliceW.toV g4 (by omega) (fun j hj b o hx=> ?_)⟩
 obtain⟨u,hc,hu⟩:=hx;exact⟨u,hc,hu.toV (by have:=ht.2 j hj;simpa [hj] using this)⟩
end Go.Hs
namespace Go.Proofs.YtegkdnfeceomdaaGreat
open Go.ChangeShapes Go.WideShapes Go.ChangeAt Go.RowKit Go.Deep Go.Hs
section
variable {H:Type} {enc:TypeId×Value→H} {w:World} {base:Nat} {spare:Nat→Bool} {held:Bool}
theorem add_none (b o n:Nat):(⟨b,o,none⟩:Addr).add n=⟨b,o+n,none⟩:=by
 unfold Addr.add;split
 ·rename_i h;subst h;rfl
 ·rfl
theorem spot_none {a:Addr} {v:Value} (h:w.cell? (a.add 0)=some v):a=⟨a.block,a.off,none⟩:=by
  obtain⟨b,o,s⟩:=a;cases s with
  |none=>rfl
  | some s =>
    have e:(⟨b,o,some s⟩:Addr).add 0=⟨b,o,some s⟩:=rfl;rw [e] at h;unfold World.cell? at h;split at h
    · simp at h
    · cases h
theorem slice_open {α:Type} [Inhabited α] {P:Program} {t e:TypeId} {k:Nat} {R:World→Nat→Nat→α→Prop} (ht:P.underlying t=some (.slice e)) (hk:P.cellsOf e=k+1)
  (hR:∀b o cs n y,w.cells? base ⟨b,o,none⟩ (k+1)=some cs→DataW.trod enc P w base spare held n e cs=some y→∃x,R w b o x)
  {fuel:Nat} {v:Value} {x:DataW H×List MemPlace} (h:DataW.trod enc P w base spare held fuel t [v]=some x):∃xs,SliceW R (k+1) w v xs:=by
 rcases open_slice ht h with ⟨h0,-⟩|⟨a,len,cap,m,n,D,Pl,hcs,-,hl,hm,hmm,-,hi⟩
 ·simp at h0; subst h0
  exact⟨[],none,0,rfl,Nat.le_refl _,by simp,fun i h=>absurd h (Nat.not_lt_zero _)⟩
 ·simp at hcs; subst hcs
  have hex:∀i:Nat,∃x:α,i<len→∃b off,some a=some ⟨b,off,none⟩∧R w b (off+i*(k+1)) x:=by
   intro i
   by_cases hil:i<len
   ·obtain ⟨cs', hc, hd⟩ := hi i (by rw [hmm]; split <;> omega); rw [hk] at hc; obtain ⟨cs0, hc0, -⟩ := hi 0 (by rw [hmm]; split <;> omega); rw [hk, Nat.zero_mul] at hc0; obtain ⟨-, hcl, hat⟩ := World.cells?_some hc0; have hz := hat 0 (by omega); rw [List.getElem?_eq_getElem (by omega)] at hz; have e0 : a.add 0 = a := by unfold Addr.add; simp
    rw [e0] at hz;have ha:=spot_none hz;rw [ha,add_none] at hc;obtain⟨x,hx⟩:=hR _ _ _ _ _ hc hd;exact⟨x,fun _=>⟨a.block,a.off,by rw [←ha],hx⟩⟩
   ·exact⟨default,fun h=>absurd h hil⟩
  refine⟨(List.range len).map (fun i=>Classical.choose (hex i)),some a,cap,by simp,by simpa using hl,?_,fun i hi=> ?_⟩
  ·simp only [maxLen] at hm;simp;omega
  ·simp at hi
   have:=Classical.choose_spec (hex i) hi;simpa using this
theorem bd_of_wf {n:Int} (h:(Lit.int .i64 n).wf=true):i64ok n:=by
 have:=bounds_i64 h;unfold i64ok;omega
end
end Go.Proofs.YtegkdnfeceomdaaGreat
namespace Go.Hs
open Go.RowKit
theorem IntsV.cellsI {w:World} {v:Value} {a:List Int} (h:IntsV w v a):∃p c,v= .slice p a.length c∧a.length≤c∧∀i,i<a.length→∃b off,p=some ⟨b,off,none⟩∧w.cell? ⟨b,off+i,none⟩=some (.int .i64 (a.getD i 0)):=by
 obtain⟨p,c,rfl,h1,-,hr⟩:=h;refine⟨p,c,rfl,h1,fun i hi=> ?_⟩
 obtain⟨b,off,e,hc⟩:=hr i hi;refine⟨b,off,e,?_⟩
 have:=hc.1;have e2:a[i]=a.getD i 0:=by simp [hi]
 rw [e2,Nat.mul_one] at this;exact this
end Go.Hs
namespace Go.Proofs.YtegkdnfeceomdaaGreat
open Go.RowKit Go.Hs
attribute [local irreducible] World.setCell World.alloc
end Go.Proofs.YtegkdnfeceomdaaGreat
namespace Go.Hs
open Go.RowKit
def setL (w:World) (R:Nat):List Value→Nat→World
 | [],_=>w
 |v::r,i=>setL (w.setCell ⟨R,i,none⟩ v) R r (i+1)
theorem setL_ne {b o R:Nat} {x:Value} (h:b≠R):∀(vs:List Value) (k:Nat) (w:World),w.cell? ⟨b,o,none⟩=some x→(setL w R vs k).cell? ⟨b,o,none⟩=some x
 | [],_,_,e=>e
 |_::r,k,_,e=>setL_ne h r (k+1) _ (cell_ne (.inl h) e)
theorem setL_fr {b o R:Nat} :∀(vs:List Value) (k:Nat) (w:World),(setL w R vs k).frozen? ⟨b,o,none⟩=w.frozen? ⟨b,o,none⟩
 | [],_,_=>rfl
 |_::r,k,_=>(setL_fr r (k+1) _).trans (World.frozen?_setCell ..)
theorem setL_ext {w0:World} {R:Nat} (hR:w0.heap.size≤R):∀(vs:List Value) (k:Nat) (w:World),Ext w0 w→Ext w0 (setL w R vs k)
 | [],_,_,h=>h
 |v::r,k,_,h=>setL_ext hR r (k+1) _ (h.setCell hR v)
theorem setL_low {R o:Nat} {x:Value} :∀(vs:List Value) (k:Nat) (w:World),o<k→w.cell? ⟨R,o,none⟩=some x→(setL w R vs k).cell? ⟨R,o,none⟩=some x
 | [],_,_,_,e=>e
 |_::r,k,_,h,e=>setL_low r (k+1) _ (by omega) (cell_ne (.inr (by omega)) e)
theorem set_is {w:World} {a b:Addr} {x y:Value} (h:w.cell? a=some x):∃z,(w.setCell b y).cell? a=some z:=by
 by_cases e:a=b
 ·subst e;exact⟨y,World.cell?_setCell_same _ _ _ h⟩
 ·exact⟨x,by rw [World.cell?_setCell_other (h:=fun q=>e (by rw [q]))];exact h⟩
theorem setL_is {R o b:Nat} :∀(vs:List Value) (k:Nat) (w:World) (x:Value),w.cell? ⟨b,o,none⟩=some x→∃z,(setL w R vs k).cell? ⟨b,o,none⟩=some z
 | [],_,_,x,e=>⟨x,e⟩
 |_::r,k,_,_,e=>let ⟨z,hz⟩:=set_is (b:=⟨R,k,none⟩) e;setL_is r (k+1) _ z hz
theorem setL_cur {R o b:Nat} {vs:List Value} {k:Nat} {w:World} {x:Value} (e:w.cell? ⟨b,o,none⟩=some x):(setL w R vs k).cell? ⟨b,o,none⟩=some (curV (setL w R vs k) ⟨b,o,none⟩):=
 let ⟨_,hz⟩:=setL_is vs k w x e;cur_self hz
theorem setL_at {R:Nat} :∀(vs:List Value) (k:Nat) (w:World),(∀i,i<vs.length→∃y,w.cell? ⟨R,k+i,none⟩=some y)→∀i v,vs[i]?=some v→(setL w R vs k).cell? ⟨R,k+i,none⟩=some v
  | [],_,_,_,i,v,e=>by simp at e
  | u :: r, k, w, h, i, v, e => by
    cases i with
    | zero =>
      simp only [List.getElem?_cons_zero,Option.some.injEq] at e;subst e;obtain⟨y,hy⟩:=h 0 (by simp);exact setL_low r (k+1) _ (by omega) (World.cell?_setCell_same _ _ _ hy)
    | succ i =>
      have e1:k+(i+1)=k+1+i:=by omega
      rw [e1];refine setL_at r (k+1) _ (fun j hj=> ?_) i v (by simpa using e)
      obtain⟨y,hy⟩:=h (j+1) (by simp;omega);rw [show k+(j+1)=k+1+j by omega] at hy;exact set_is hy
theorem Cells4.of {w:World} {b:Nat} {us:List V4} (h:∀i (h:i<us.length),Cell4 w b (0+i*4) us[i]):Cells4 w (some ⟨b,0,none⟩) us:=fun i hi=>⟨b,0,rfl,h i hi⟩
theorem Cells8.of {w:World} {b:Nat} {us:List V8} (h:∀i (h:i<us.length),Cell8 w b (0+i*8) us[i]):Cells8 w (some ⟨b,0,none⟩) us:=fun i hi=>⟨b,0,rfl,h i hi⟩
theorem Cells7.of {w:World} {b:Nat} {us:List V7} (h:∀i (h:i<us.length),Cell7 w b (0+i*7) us[i]):Cells7 w (some ⟨b,0,none⟩) us:=fun i hi=>⟨b,0,rfl,h i hi⟩
theorem Cells3.of {w:World} {b:Nat} {us:List V3} (h:∀i (h:i<us.length),Cell3 w b (0+i*3) us[i]):Cells3 w (some ⟨b,0,none⟩) us:=fun i hi=>⟨b,0,rfl,h i hi⟩
theorem mk_ints8 {w:World} {B n:Nat} (xs:List Int) (hn:n=xs.length) (hl:xs.length≤1000) (h:∀i,i<xs.length→w.cell? ⟨B,i,none⟩=some (.int .i64 (xs.getD i 0))) (ok:∀x∈xs,i64ok x):IntsV w (.slice (some ⟨B,0,none⟩) n n) xs:=by
 subst hn;refine⟨_,_,rfl,Nat.le_refl _,by omega,fun i hi=>⟨B,0,rfl,?_,ok _ (List.getElem_mem hi)⟩⟩
 have e:xs.getD i 0=xs[i]:=by simp [hi]
 have:=h i hi;rw [e] at this;simpa using this
theorem cells_l {w:World} {b:Nat} {l:List Value} {o:Obj} {t:TypeId} {W:World} (hx:Ext (w.alloc o) W) (ho:o= .cells l.toArray t) (hb:b=w.heap.size):∀j v,l[j]?=some v→W.cell? ⟨b,j,none⟩=some v:=by
 subst ho hb;intro j v e
 exact hx.keep (by simp [go_sem,e])
end Go.Hs
namespace Go.Proofs.YtegkdnfeceomdaaGreat
open Go.RowKit Go.Hs
attribute [local irreducible] World.setCell World.alloc
theorem between8 (a b:Int) (w:World):Calls Tryz.prog 60 #[.int .i64 a,.int .i64 b] w fun e w'=>e= .returned (.agg #[.int .i64 a,.int .i64 b])∧Ext w w':=by
 have n0:(⟨w.heap.size+2,0,none⟩:Addr)≠⟨w.heap.size+2,1,none⟩:=by intro h;cases h
 go_enter Tryz.func60,Tryz.ntmps60
 (go_wp2_with fail);exact bodyPost_ret (v:= .agg #[.int .i64 a,.int .i64 b]) (by simp [results,Tryz.results60,go_sem]) rfl ⟨rfl,EX⟩
theorem later8 (w:World):Calls Tryz.prog 58 #[] w fun e w'=>∃v,e= .returned v∧TruV w' v laterT∧Ext w w':=by
 go_enter Tryz.func58,Tryz.ntmps58
 (go_wp2_with fail);refine bodyPost_ret (v:= .agg #[.slice (some ⟨w.heap.size+1,0,none⟩) 1 1,.slice (some ⟨w.heap.size+2,0,none⟩) 1 1,.slice (some ⟨w.heap.size+3,0,none⟩) 3 3,.int .i64 50]) (by simp [results,Tryz.results58,go_sem]) rfl ⟨_,rfl,?_,EX⟩
 refine⟨_,_,_,rfl,?_,?_,?_⟩
 ·exact mk_ints8 [5] rfl (by simp) (fun i hi=>by
   obtain rfl:i=0:=by simpa using hi
   simp [go_sem]) (by simp [i64ok])
 ·exact mk_ints8 [0] rfl (by simp) (fun i hi=>by
   obtain rfl:i=0:=by simpa using hi
   simp [go_sem]) (by simp [i64ok])
 ·exact mk_ints8 [1,4,0] rfl (by simp) (fun i hi=>by
   rcases i with _|_|_|i
   ·simp [go_sem]
   ·simp [go_sem]
   ·simp [go_sem]
   ·simp at hi;omega) (by simp [i64ok])
theorem two8 (w:World):Calls Tryz.prog 59 #[] w fun e w'=>∃v,e= .returned v∧ClmsV w' v twoL∧Ext w w':=by
 have HB:=hHd between8;go_enter Tryz.func59,Tryz.ntmps59
 (go_wp2_with fail);(with_reducible refine(HB.out _ _ _).mono ?_);rintro e w1 ⟨rfl,hx1⟩;(go_wp2_with fail);(with_reducible refine(HB.out _ _ _).mono ?_);rintro e w2 ⟨rfl,hx2⟩;(go_wp2_with fail);go_ret;refine⟨_,rfl,⟨_,_,rfl,by simp [twoL],by simp [twoL],Cells3.of (fun i hi=> ?_)⟩,EX⟩
 simp [twoL] at hi
 rcases i with _|_|i
 ·exact⟨by simp [go_sem,twoL,Clm.c],by simp [go_sem,twoL,Clm.c],by simp [go_sem,twoL,Clm.c]⟩
 ·exact⟨by simp [go_sem,twoL,Clm.c],by simp [go_sem,twoL,Clm.c],by simp [go_sem,twoL,Clm.c]⟩
 ·omega
theorem sold8 (clms:List Clm) (v:Value) (w:World) (hv:ClmsV w v clms):Calls Tryz.prog 57 #[v] w fun e w'=>∃A,e= .returned (A.v (soldC clms))∧CaseM w' A (soldC clms)∧Ext w w':=by
 have HB:=hHd between8;obtain⟨a4,c4,rfl,l1,l2,hc⟩:=hv;have HC:=hHd hc;have HS:Hid (soldC clms=⟨⟨9,2,[⟨0,100,0,0⟩],[⟨0,0,0,0,1,0,4,5⟩]⟩,2,4,0,[⟨0,0,0,60,9,1,1⟩,⟨1,0,0,90,9,3,5⟩,⟨1,1,0,50,9,0,0⟩],40,50,clms⟩):=rfl;rw [HS.out];clear hc HS;obtain⟨n4,hn4⟩:∃n,n=clms.length:=⟨_,rfl⟩;rw [←hn4] at l1 l2⊢;have HN:=hHd hn4;clear hn4;go_enter Tryz.func57,Tryz.ntmps57
 (go_wp2_with fail);obtain⟨W,hW⟩:∃W,W=((((w.alloc (.cells #[.int .i64 0,.int .i64 0,.slice none 0 0,.slice none 0 0,.int .i64 0,.int .i64 0,.int .i64 0,.slice none 0 0,.int .i64 0,.int .i64 0,.slice none 0 0] 57)).alloc (.cells #[.int .i64 0,.int .i64 100,.int .i64 0,.int .i64 0] 193)).alloc (.cells #[.int .i64 0,.int .i64 0,.int .i64 0,.int .i64 0,.int .i64 1,.int .i64 0,.int .i64 4,.int .i64 5] 125)).alloc (.cells #[.int .i64 9,.int .i64 2,.slice (some ⟨w.heap.size+1,0,none⟩) 1 1,.slice (some ⟨w.heap.size+1+1,0,none⟩) 1 1] 52)):=⟨_,rfl⟩;have X:Ext w W:=by subst hW;exact EX
 have HS:Hid (∀w',Ext W w'→(w'.cell? ⟨w.heap.size+1,0,none⟩=some (.int .i64 0)∧w'.cell? ⟨w.heap.size+1,1,none⟩=some (.int .i64 100)∧w'.cell? ⟨w.heap.size+1,2,none⟩=some (.int .i64 0)∧w'.cell? ⟨w.heap.size+1,3,none⟩=some (.int .i64 0)∧w'.cell? ⟨w.heap.size+1+1,0,none⟩=some (.int .i64 0)∧w'.cell? ⟨w.heap.size+1+1,1,none⟩=some (.int .i64 0)∧w'.cell? ⟨w.heap.size+1+1,2,none⟩=some (.int .i64 0)∧w'.cell? ⟨w.heap.size+1+1,3,none⟩=some (.int .i64 0)∧w'.cell? ⟨w.heap.size+1+1,4,none⟩=some (.int .i64 1)∧w'.cell? ⟨w.heap.size+1+1,5,none⟩=some (.int .i64 0)∧w'.cell? ⟨w.heap.size+1+1,6,none⟩=some (.int .i64 4)∧w'.cell? ⟨w.heap.size+1+1,7,none⟩=some (.int .i64 5)∧w'.cell? ⟨w.heap.size+1+1+1,0,none⟩=some (.int .i64 9)∧w'.cell? ⟨w.heap.size+1+1+1,1,none⟩=some (.int .i64 2)∧w'.cell? ⟨w.heap.size+1+1+1,2,none⟩=some (.slice (some ⟨w.heap.size+1,0,none⟩) 1 1)∧w'.cell? ⟨w.heap.size+1+1+1,3,none⟩=some (.slice (some ⟨w.heap.size+1+1,0,none⟩) 1 1))∧Ext W w'):=hHd (fun w' hx=>⟨by subst hW;and_intros<;>exact hx.keep (by simp [go_sem]),hx⟩);have HSf:Hid (∀w',Ext W w'→∀o,w'.frozen? ⟨w.heap.size+1+1+1,o,none⟩=false):=hHd (fun w' hx o=>(hx.frozen (by subst hW;simp)).trans (by subst hW;simp [go_sem]));have HSz:w.heap.size+1+1+1+1≤W.heap.size:=by subst hW;simp
 have HB0:Hid (∀w',Ext W w'→((∃v,w'.cell? ⟨w.heap.size,0,none⟩=some v)∧(∃v,w'.cell? ⟨w.heap.size,1,none⟩=some v)∧(∃v,w'.cell? ⟨w.heap.size,2,none⟩=some v)∧(∃v,w'.cell? ⟨w.heap.size,3,none⟩=some v)∧(∃v,w'.cell? ⟨w.heap.size,4,none⟩=some v)∧(∃v,w'.cell? ⟨w.heap.size,5,none⟩=some v)∧(∃v,w'.cell? ⟨w.heap.size,6,none⟩=some v)∧(∃v,w'.cell? ⟨w.heap.size,7,none⟩=some v)∧(∃v,w'.cell? ⟨w.heap.size,8,none⟩=some v)∧(∃v,w'.cell? ⟨w.heap.size,9,none⟩=some v)∧(∃v,w'.cell? ⟨w.heap.size,10,none⟩=some v))∧∀o,w'.frozen? ⟨w.heap.size,o,none⟩=false):=hHd (fun w' hx=>⟨⟨⟨_,hx.keep (v:= .int .i64 0) (by subst hW;simp [go_sem])⟩,⟨_,hx.keep (v:= .int .i64 0) (by subst hW;simp [go_sem])⟩,⟨_,hx.keep (v:= .slice none 0 0) (by subst hW;simp [go_sem])⟩,⟨_,hx.keep (v:= .slice none 0 0) (by subst hW;simp [go_sem])⟩,⟨_,hx.keep (v:= .int .i64 0) (by subst hW;simp [go_sem])⟩,⟨_,hx.keep (v:= .int .i64 0) (by subst hW;simp [go_sem])⟩,⟨_,hx.keep (v:= .int .i64 0) (by subst hW;simp [go_sem])⟩,⟨_,hx.keep (v:= .slice none 0 0) (by subst hW;simp [go_sem])⟩,⟨_,hx.keep (v:= .int .i64 0) (by subst hW;simp [go_sem])⟩,⟨_,hx.keep (v:= .int .i64 0) (by subst hW;simp [go_sem])⟩,⟨_,hx.keep (v:= .slice none 0 0) (by subst hW;simp [go_sem])⟩⟩,fun o=>(hx.frozen (by subst hW;simp;try omega)).trans (by subst hW;simp [go_sem])⟩);rw [←hW];clear hW
 have HSS:Hid (∀w',Ext W w'→(w'.cell? ⟨w.heap.size+1,0,none⟩=some (.int .i64 0)∧w'.cell? ⟨w.heap.size+1,1,none⟩=some (.int .i64 100)∧w'.cell? ⟨w.heap.size+1,2,none⟩=some (.int .i64 0)∧w'.cell? ⟨w.heap.size+1,3,none⟩=some (.int .i64 0)∧w'.cell? ⟨w.heap.size+1+1,0,none⟩=some (.int .i64 0)∧w'.cell? ⟨w.heap.size+1+1,1,none⟩=some (.int .i64 0)∧w'.cell? ⟨w.heap.size+1+1,2,none⟩=some (.int .i64 0)∧w'.cell? ⟨w.heap.size+1+1,3,none⟩=some (.int .i64 0)∧w'.cell? ⟨w.heap.size+1+1,4,none⟩=some (.int .i64 1)∧w'.cell? ⟨w.heap.size+1+1,5,none⟩=some (.int .i64 0)∧w'.cell? ⟨w.heap.size+1+1,6,none⟩=some (.int .i64 4)∧w'.cell? ⟨w.heap.size+1+1,7,none⟩=some (.int .i64 5)∧w'.cell? ⟨w.heap.size+1+1+1,0,none⟩=some (.int .i64 9)∧w'.cell? ⟨w.heap.size+1+1+1,1,none⟩=some (.int .i64 2)∧w'.cell? ⟨w.heap.size+1+1+1,2,none⟩=some (.slice (some ⟨w.heap.size+1,0,none⟩) 1 1)∧w'.cell? ⟨w.heap.size+1+1+1,3,none⟩=some (.slice (some ⟨w.heap.size+1+1,0,none⟩) 1 1))∧(w'.cell? ⟨w.heap.size,0,none⟩=some (curV w' ⟨w.heap.size,0,none⟩)∧w'.cell? ⟨w.heap.size,1,none⟩=some (curV w' ⟨w.heap.size,1,none⟩)∧w'.cell? ⟨w.heap.size,2,none⟩=some (curV w' ⟨w.heap.size,2,none⟩)∧w'.cell? ⟨w.heap.size,3,none⟩=some (curV w' ⟨w.heap.size,3,none⟩)∧w'.cell? ⟨w.heap.size,4,none⟩=some (curV w' ⟨w.heap.size,4,none⟩)∧w'.cell? ⟨w.heap.size,5,none⟩=some (curV w' ⟨w.heap.size,5,none⟩)∧w'.cell? ⟨w.heap.size,6,none⟩=some (curV w' ⟨w.heap.size,6,none⟩)∧w'.cell? ⟨w.heap.size,7,none⟩=some (curV w' ⟨w.heap.size,7,none⟩)∧w'.cell? ⟨w.heap.size,8,none⟩=some (curV w' ⟨w.heap.size,8,none⟩)∧w'.cell? ⟨w.heap.size,9,none⟩=some (curV w' ⟨w.heap.size,9,none⟩)∧w'.cell? ⟨w.heap.size,10,none⟩=some (curV w' ⟨w.heap.size,10,none⟩)∧∀o,w'.frozen? ⟨w.heap.size,o,none⟩=false)∧Ext w w'):=hHd (fun w' h=>by
  obtain⟨⟨q0,q1,q2,q3,q4,q5,q6,q7,q8,q9,q10,q11,q12,q13,q14,q15⟩,-⟩:=HS.out w' h;obtain⟨⟨⟨x0,r0⟩,⟨x1,r1⟩,⟨x2,r2⟩,⟨x3,r3⟩,⟨x4,r4⟩,⟨x5,r5⟩,⟨x6,r6⟩,⟨x7,r7⟩,⟨x8,r8⟩,⟨x9,r9⟩,⟨x10,r10⟩⟩,hf⟩:=HB0.out w' h;exact⟨⟨q0,q1,q2,q3,q4,q5,q6,q7,q8,q9,q10,q11,q12,q13,q14,q15⟩,⟨cur_self r0,cur_self r1,cur_self r2,cur_self r3,cur_self r4,cur_self r5,cur_self r6,cur_self r7,cur_self r8,cur_self r9,cur_self r10,hf⟩,Ext.trans X h⟩)
 have HST:Hid (∀w' a0 a1 a2 a3 a4 a5 a6 a7 a8 a9 a10 V,V=(((((((((((w'.setCell ⟨w.heap.size,0,none⟩ a0).setCell ⟨w.heap.size,1,none⟩ a1).setCell ⟨w.heap.size,2,none⟩ a2).setCell ⟨w.heap.size,3,none⟩ a3).setCell ⟨w.heap.size,4,none⟩ a4).setCell ⟨w.heap.size,5,none⟩ a5).setCell ⟨w.heap.size,6,none⟩ a6).setCell ⟨w.heap.size,7,none⟩ a7).setCell ⟨w.heap.size,8,none⟩ a8).setCell ⟨w.heap.size,9,none⟩ a9).setCell ⟨w.heap.size,10,none⟩ a10)→Ext W w'→(V.cell? ⟨w.heap.size+1,0,none⟩=some (.int .i64 0)∧V.cell? ⟨w.heap.size+1,1,none⟩=some (.int .i64 100)∧V.cell? ⟨w.heap.size+1,2,none⟩=some (.int .i64 0)∧V.cell? ⟨w.heap.size+1,3,none⟩=some (.int .i64 0)∧V.cell? ⟨w.heap.size+1+1,0,none⟩=some (.int .i64 0)∧V.cell? ⟨w.heap.size+1+1,1,none⟩=some (.int .i64 0)∧V.cell? ⟨w.heap.size+1+1,2,none⟩=some (.int .i64 0)∧V.cell? ⟨w.heap.size+1+1,3,none⟩=some (.int .i64 0)∧V.cell? ⟨w.heap.size+1+1,4,none⟩=some (.int .i64 1)∧V.cell? ⟨w.heap.size+1+1,5,none⟩=some (.int .i64 0)∧V.cell? ⟨w.heap.size+1+1,6,none⟩=some (.int .i64 4)∧V.cell? ⟨w.heap.size+1+1,7,none⟩=some (.int .i64 5)∧V.cell? ⟨w.heap.size+1+1+1,0,none⟩=some (.int .i64 9)∧V.cell? ⟨w.heap.size+1+1+1,1,none⟩=some (.int .i64 2)∧V.cell? ⟨w.heap.size+1+1+1,2,none⟩=some (.slice (some ⟨w.heap.size+1,0,none⟩) 1 1)∧V.cell? ⟨w.heap.size+1+1+1,3,none⟩=some (.slice (some ⟨w.heap.size+1+1,0,none⟩) 1 1))∧(V.cell? ⟨w.heap.size,0,none⟩=some (curV V ⟨w.heap.size,0,none⟩)∧V.cell? ⟨w.heap.size,1,none⟩=some (curV V ⟨w.heap.size,1,none⟩)∧V.cell? ⟨w.heap.size,2,none⟩=some (curV V ⟨w.heap.size,2,none⟩)∧V.cell? ⟨w.heap.size,3,none⟩=some (curV V ⟨w.heap.size,3,none⟩)∧V.cell? ⟨w.heap.size,4,none⟩=some (curV V ⟨w.heap.size,4,none⟩)∧V.cell? ⟨w.heap.size,5,none⟩=some (curV V ⟨w.heap.size,5,none⟩)∧V.cell? ⟨w.heap.size,6,none⟩=some (curV V ⟨w.heap.size,6,none⟩)∧V.cell? ⟨w.heap.size,7,none⟩=some (curV V ⟨w.heap.size,7,none⟩)∧V.cell? ⟨w.heap.size,8,none⟩=some (curV V ⟨w.heap.size,8,none⟩)∧V.cell? ⟨w.heap.size,9,none⟩=some (curV V ⟨w.heap.size,9,none⟩)∧V.cell? ⟨w.heap.size,10,none⟩=some (curV V ⟨w.heap.size,10,none⟩)∧∀o,V.frozen? ⟨w.heap.size,o,none⟩=false)∧Ext w V):=hHd (fun w' a0 a1 a2 a3 a4 a5 a6 a7 a8 a9 a10 V hV h=>by
  have hV:V=(setL w' w.heap.size [a0,a1,a2,a3,a4,a5,a6,a7,a8,a9,a10] 0):=hV;subst hV;obtain⟨⟨q0,q1,q2,q3,q4,q5,q6,q7,q8,q9,q10,q11,q12,q13,q14,q15⟩,-⟩:=HS.out w' h;obtain⟨⟨⟨x0,r0⟩,⟨x1,r1⟩,⟨x2,r2⟩,⟨x3,r3⟩,⟨x4,r4⟩,⟨x5,r5⟩,⟨x6,r6⟩,⟨x7,r7⟩,⟨x8,r8⟩,⟨x9,r9⟩,⟨x10,r10⟩⟩,hf⟩:=HB0.out w' h;exact⟨⟨setL_ne (by omega) _ _ _ q0,setL_ne (by omega) _ _ _ q1,setL_ne (by omega) _ _ _ q2,setL_ne (by omega) _ _ _ q3,setL_ne (by omega) _ _ _ q4,setL_ne (by omega) _ _ _ q5,setL_ne (by omega) _ _ _ q6,setL_ne (by omega) _ _ _ q7,setL_ne (by omega) _ _ _ q8,setL_ne (by omega) _ _ _ q9,setL_ne (by omega) _ _ _ q10,setL_ne (by omega) _ _ _ q11,setL_ne (by omega) _ _ _ q12,setL_ne (by omega) _ _ _ q13,setL_ne (by omega) _ _ _ q14,setL_ne (by omega) _ _ _ q15⟩,⟨setL_cur r0,setL_cur r1,setL_cur r2,setL_cur r3,setL_cur r4,setL_cur r5,setL_cur r6,setL_cur r7,setL_cur r8,setL_cur r9,setL_cur r10,fun o=>(setL_fr _ _ _).trans (hf o)⟩,setL_ext (by omega) _ _ _ (Ext.trans X h)⟩)
 have HRT:Hid (∀w' a0 a1 a2 a3 a4 a5 a6 a7 a8 a9 a10 V,V=(((((((((((w'.setCell ⟨w.heap.size,0,none⟩ a0).setCell ⟨w.heap.size,1,none⟩ a1).setCell ⟨w.heap.size,2,none⟩ a2).setCell ⟨w.heap.size,3,none⟩ a3).setCell ⟨w.heap.size,4,none⟩ a4).setCell ⟨w.heap.size,5,none⟩ a5).setCell ⟨w.heap.size,6,none⟩ a6).setCell ⟨w.heap.size,7,none⟩ a7).setCell ⟨w.heap.size,8,none⟩ a8).setCell ⟨w.heap.size,9,none⟩ a9).setCell ⟨w.heap.size,10,none⟩ a10)→Ext W w'→V.cell? ⟨w.heap.size,0,none⟩=some a0∧V.cell? ⟨w.heap.size,1,none⟩=some a1∧V.cell? ⟨w.heap.size,2,none⟩=some a2∧V.cell? ⟨w.heap.size,3,none⟩=some a3∧V.cell? ⟨w.heap.size,4,none⟩=some a4∧V.cell? ⟨w.heap.size,5,none⟩=some a5∧V.cell? ⟨w.heap.size,6,none⟩=some a6∧V.cell? ⟨w.heap.size,7,none⟩=some a7∧V.cell? ⟨w.heap.size,8,none⟩=some a8∧V.cell? ⟨w.heap.size,9,none⟩=some a9∧V.cell? ⟨w.heap.size,10,none⟩=some a10):=hHd (fun w' a0 a1 a2 a3 a4 a5 a6 a7 a8 a9 a10 V hV h=>by
  have hV:V=(setL w' w.heap.size [a0,a1,a2,a3,a4,a5,a6,a7,a8,a9,a10] 0):=hV;subst hV;obtain⟨⟨q0,q1,q2,q3,q4,q5,q6,q7,q8,q9,q10,q11,q12,q13,q14,q15⟩,-⟩:=HS.out w' h;obtain⟨⟨⟨x0,r0⟩,⟨x1,r1⟩,⟨x2,r2⟩,⟨x3,r3⟩,⟨x4,r4⟩,⟨x5,r5⟩,⟨x6,r6⟩,⟨x7,r7⟩,⟨x8,r8⟩,⟨x9,r9⟩,⟨x10,r10⟩⟩,hf⟩:=HB0.out w' h
  have hA:=setL_at (R:=w.heap.size) [a0,a1,a2,a3,a4,a5,a6,a7,a8,a9,a10] 0 w' (fun i hi=>by
   simp only [List.length_cons,List.length_nil] at hi;rcases i with _|_|_|_|_|_|_|_|_|_|_|i
   ·exact⟨_,r0⟩
   ·exact⟨_,r1⟩
   ·exact⟨_,r2⟩
   ·exact⟨_,r3⟩
   ·exact⟨_,r4⟩
   ·exact⟨_,r5⟩
   ·exact⟨_,r6⟩
   ·exact⟨_,r7⟩
   ·exact⟨_,r8⟩
   ·exact⟨_,r9⟩
   ·exact⟨_,r10⟩
   ·omega)
  exact⟨hA 0 _ rfl,hA 1 _ rfl,hA 2 _ rfl,hA 3 _ rfl,hA 4 _ rfl,hA 5 _ rfl,hA 6 _ rfl,hA 7 _ rfl,hA 8 _ rfl,hA 9 _ rfl,hA 10 _ rfl⟩)
 go_region_held3 (fun w'=>(w'.cell? ⟨w.heap.size+1,0,none⟩=some (.int .i64 0)∧w'.cell? ⟨w.heap.size+1,1,none⟩=some (.int .i64 100)∧w'.cell? ⟨w.heap.size+1,2,none⟩=some (.int .i64 0)∧w'.cell? ⟨w.heap.size+1,3,none⟩=some (.int .i64 0)∧w'.cell? ⟨w.heap.size+1+1,0,none⟩=some (.int .i64 0)∧w'.cell? ⟨w.heap.size+1+1,1,none⟩=some (.int .i64 0)∧w'.cell? ⟨w.heap.size+1+1,2,none⟩=some (.int .i64 0)∧w'.cell? ⟨w.heap.size+1+1,3,none⟩=some (.int .i64 0)∧w'.cell? ⟨w.heap.size+1+1,4,none⟩=some (.int .i64 1)∧w'.cell? ⟨w.heap.size+1+1,5,none⟩=some (.int .i64 0)∧w'.cell? ⟨w.heap.size+1+1,6,none⟩=some (.int .i64 4)∧w'.cell? ⟨w.heap.size+1+1,7,none⟩=some (.int .i64 5)∧w'.cell? ⟨w.heap.size+1+1+1,0,none⟩=some (.int .i64 9)∧w'.cell? ⟨w.heap.size+1+1+1,1,none⟩=some (.int .i64 2)∧w'.cell? ⟨w.heap.size+1+1+1,2,none⟩=some (.slice (some ⟨w.heap.size+1,0,none⟩) 1 1)∧w'.cell? ⟨w.heap.size+1+1+1,3,none⟩=some (.slice (some ⟨w.heap.size+1+1,0,none⟩) 1 1))∧(w'.cell? ⟨w.heap.size,0,none⟩=some (curV w' ⟨w.heap.size,0,none⟩)∧w'.cell? ⟨w.heap.size,1,none⟩=some (curV w' ⟨w.heap.size,1,none⟩)∧w'.cell? ⟨w.heap.size,2,none⟩=some (curV w' ⟨w.heap.size,2,none⟩)∧w'.cell? ⟨w.heap.size,3,none⟩=some (curV w' ⟨w.heap.size,3,none⟩)∧w'.cell? ⟨w.heap.size,4,none⟩=some (curV w' ⟨w.heap.size,4,none⟩)∧w'.cell? ⟨w.heap.size,5,none⟩=some (curV w' ⟨w.heap.size,5,none⟩)∧w'.cell? ⟨w.heap.size,6,none⟩=some (curV w' ⟨w.heap.size,6,none⟩)∧w'.cell? ⟨w.heap.size,7,none⟩=some (curV w' ⟨w.heap.size,7,none⟩)∧w'.cell? ⟨w.heap.size,8,none⟩=some (curV w' ⟨w.heap.size,8,none⟩)∧w'.cell? ⟨w.heap.size,9,none⟩=some (curV w' ⟨w.heap.size,9,none⟩)∧w'.cell? ⟨w.heap.size,10,none⟩=some (curV w' ⟨w.heap.size,10,none⟩)∧∀o,w'.frozen? ⟨w.heap.size,o,none⟩=false)∧Ext w w')
  (first|(refine HSS.out _ ?_;((repeat (first|exact Ext.refl _|with_reducible (first|assumption|refine Ext.drew ?_|refine Ext.alloc ?_ _|refine Ext.drewN ?_ _|refine Ext.setCell ?_ (by omega) _|refine Ext.trans ?_ (by assumption))));done))|(refine HST.out _ _ _ _ _ _ _ _ _ _ _ _ _ rfl ?_;exact EXD))
  (first
   |(go_at_call 60;(with_reducible refine(HB.out _ _ _).mono ?_);rintro e wn ⟨rfl,hxn⟩))
 have hzn:w.heap.size<wn.heap.size:=by have:=HSz;have:=Ext.size (show Ext W wn from EX);omega
 have XV:Ext W (wn.alloc (.cells #[.int .i64 0,.int .i64 0,.int .i64 0,.int .i64 60,.int .i64 9,.int .i64 1,.int .i64 1,.int .i64 1,.int .i64 0,.int .i64 0,.int .i64 90,.int .i64 9,.int .i64 3,.int .i64 5,.int .i64 1,.int .i64 1,.int .i64 0,.int .i64 50,.int .i64 9,.int .i64 0,.int .i64 0] 127)):=EX;have CV:∀j v,([.int .i64 0,.int .i64 0,.int .i64 0,.int .i64 60,.int .i64 9,.int .i64 1,.int .i64 1,.int .i64 1,.int .i64 0,.int .i64 0,.int .i64 90,.int .i64 9,.int .i64 3,.int .i64 5,.int .i64 1,.int .i64 1,.int .i64 0,.int .i64 50,.int .i64 9,.int .i64 0,.int .i64 0]:List Value)[j]?=some v→(wn.alloc (.cells #[.int .i64 0,.int .i64 0,.int .i64 0,.int .i64 60,.int .i64 9,.int .i64 1,.int .i64 1,.int .i64 1,.int .i64 0,.int .i64 0,.int .i64 90,.int .i64 9,.int .i64 3,.int .i64 5,.int .i64 1,.int .i64 1,.int .i64 0,.int .i64 50,.int .i64 9,.int .i64 0,.int .i64 0] 127)).cell? ⟨wn.heap.size,j,none⟩=some v:=cells_l (Ext.refl _) rfl rfl;generalize (wn.alloc (.cells #[.int .i64 0,.int .i64 0,.int .i64 0,.int .i64 60,.int .i64 9,.int .i64 1,.int .i64 1,.int .i64 1,.int .i64 0,.int .i64 0,.int .i64 90,.int .i64 9,.int .i64 3,.int .i64 5,.int .i64 1,.int .i64 1,.int .i64 0,.int .i64 50,.int .i64 9,.int .i64 0,.int .i64 0] 127))=V at*;have TT:=HST.out V (.int .i64 9) (.int .i64 2) (.slice (some ⟨w.heap.size+1,0,none⟩) 1 1) (.slice (some ⟨w.heap.size+1+1,0,none⟩) 1 1) (.int .i64 2) (.int .i64 4) (.int .i64 0) (.slice (some ⟨wn.heap.size,0,none⟩) 3 3) (.int .i64 40) (.int .i64 50) (.slice a4 n4 c4) _ rfl XV;have RR:=HRT.out V (.int .i64 9) (.int .i64 2) (.slice (some ⟨w.heap.size+1,0,none⟩) 1 1) (.slice (some ⟨w.heap.size+1+1,0,none⟩) 1 1) (.int .i64 2) (.int .i64 4) (.int .i64 0) (.slice (some ⟨wn.heap.size,0,none⟩) 3 3) (.int .i64 40) (.int .i64 50) (.slice a4 n4 c4) _ rfl XV;have CW:∀j v,([.int .i64 0,.int .i64 0,.int .i64 0,.int .i64 60,.int .i64 9,.int .i64 1,.int .i64 1,.int .i64 1,.int .i64 0,.int .i64 0,.int .i64 90,.int .i64 9,.int .i64 3,.int .i64 5,.int .i64 1,.int .i64 1,.int .i64 0,.int .i64 50,.int .i64 9,.int .i64 0,.int .i64 0]:List Value)[j]?=some v→(((((((((((V.setCell ⟨w.heap.size,0,none⟩ (.int .i64 9)).setCell ⟨w.heap.size,1,none⟩ (.int .i64 2)).setCell ⟨w.heap.size,2,none⟩ (.slice (some ⟨w.heap.size+1,0,none⟩) 1 1)).setCell ⟨w.heap.size,3,none⟩ (.slice (some ⟨w.heap.size+1+1,0,none⟩) 1 1)).setCell ⟨w.heap.size,4,none⟩ (.int .i64 2)).setCell ⟨w.heap.size,5,none⟩ (.int .i64 4)).setCell ⟨w.heap.size,6,none⟩ (.int .i64 0)).setCell ⟨w.heap.size,7,none⟩ (.slice (some ⟨wn.heap.size,0,none⟩) 3 3)).setCell ⟨w.heap.size,8,none⟩ (.int .i64 40)).setCell ⟨w.heap.size,9,none⟩ (.int .i64 50)).setCell ⟨w.heap.size,10,none⟩ (.slice a4 n4 c4)).cell? ⟨wn.heap.size,j,none⟩=some v:=fun j v e=>setL_ne (b:=wn.heap.size) (R:=w.heap.size) (by omega) [.int .i64 9,.int .i64 2,.slice (some ⟨w.heap.size+1,0,none⟩) 1 1,.slice (some ⟨w.heap.size+1+1,0,none⟩) 1 1,.int .i64 2,.int .i64 4,.int .i64 0,.slice (some ⟨wn.heap.size,0,none⟩) 3 3,.int .i64 40,.int .i64 50,.slice a4 n4 c4] 0 V (CV j v e)
 clear HSS HST HRT;(go_wp2_with fail);generalize (((((((((((V.setCell ⟨w.heap.size,0,none⟩ (.int .i64 9)).setCell ⟨w.heap.size,1,none⟩ (.int .i64 2)).setCell ⟨w.heap.size,2,none⟩ (.slice (some ⟨w.heap.size+1,0,none⟩) 1 1)).setCell ⟨w.heap.size,3,none⟩ (.slice (some ⟨w.heap.size+1+1,0,none⟩) 1 1)).setCell ⟨w.heap.size,4,none⟩ (.int .i64 2)).setCell ⟨w.heap.size,5,none⟩ (.int .i64 4)).setCell ⟨w.heap.size,6,none⟩ (.int .i64 0)).setCell ⟨w.heap.size,7,none⟩ (.slice (some ⟨wn.heap.size,0,none⟩) 3 3)).setCell ⟨w.heap.size,8,none⟩ (.int .i64 40)).setCell ⟨w.heap.size,9,none⟩ (.int .i64 50)).setCell ⟨w.heap.size,10,none⟩ (.slice a4 n4 c4))=WF at*;obtain⟨r0,r1,r2,r3,r4,r5,r6,r7,r8,r9,r10⟩:=RR;obtain⟨⟨p0,p1,p2,p3,e0,e1,e2,e3,e4,e5,e6,e7,-,-,-,-⟩,-,XF⟩:=TT;refine bodyPost_ret (v:= .agg #[.int .i64 9,.int .i64 2,.slice (some ⟨w.heap.size+1,0,none⟩) 1 1,.slice (some ⟨w.heap.size+1+1,0,none⟩) 1 1,.int .i64 2,.int .i64 4,.int .i64 0,.slice (some ⟨wn.heap.size,0,none⟩) 3 3,.int .i64 40,.int .i64 50,.slice a4 n4 c4]) (by simp [results,Tryz.results57,go_sem,r0,r1,r2,r3,r4,r5,r6,r7,r8,r9,r10]) rfl ⟨⟨some ⟨w.heap.size+1,0,none⟩,1,some ⟨w.heap.size+1+1,0,none⟩,1,some ⟨wn.heap.size,0,none⟩,3,a4,c4⟩,?_,?_,XF⟩
 ·show Ending.returned _ = _
  rw [HN.out];rfl
 ·refine ⟨Cells4.of (fun i hi => ?_), Cells8.of (fun i hi => ?_), Cells7.of (fun i hi => ?_), HC.out.ext XF, ⟨by simp, by simp⟩, ⟨by simp, by simp⟩, ⟨by simp, by simp⟩, ⟨by simpa [HN.out] using l1, by simpa [HN.out] using l2⟩⟩
  ·obtain rfl : i = 0 := by simp at hi; omega
   exact⟨p0,p1,p2,p3⟩
  ·obtain rfl : i = 0 := by simp at hi; omega
   exact⟨e0,e1,e2,e3,e4,e5,e6,e7⟩
  ·simp at hi
   rcases i with _|_|_|i
   ·exact⟨CW 0 _ rfl,CW 1 _ rfl,CW 2 _ rfl,CW 3 _ rfl,CW 4 _ rfl,CW 5 _ rfl,CW 6 _ rfl⟩
   ·exact⟨CW 7 _ rfl,CW 8 _ rfl,CW 9 _ rfl,CW 10 _ rfl,CW 11 _ rfl,CW 12 _ rfl,CW 13 _ rfl⟩
   ·exact⟨CW 14 _ rfl,CW 15 _ rfl,CW 16 _ rfl,CW 17 _ rfl,CW 18 _ rfl,CW 19 _ rfl,CW 20 _ rfl⟩
   ·omega
end Go.Proofs.YtegkdnfeceomdaaGreat
