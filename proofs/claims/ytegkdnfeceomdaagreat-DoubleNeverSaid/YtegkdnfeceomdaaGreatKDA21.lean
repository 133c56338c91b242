/- Bundled: what the texts SQ UN SR ST say one after another. -/
import Derived.Test.YtegkdnfeceomdaaGreatKDA20
import Derived.WalkMore
import Derived.Test.YtegkdnfeceomdaaGreatKDA19
import Derived.Deep.MidRow
import Derived.Test.YtegkdnfeceomdaaGreatKDA4
set_option maxRecDepth 100000
set_option maxHeartbeats 16000000
set_option linter.unusedSimpArgs false
set_option linter.unusedVariables false
namespace Go.Hs
open Go.RowKit
structure KT (p m b1 b2:Nat) (A:CaseA) (c:DCas) (vout:Value) (out:List Int) (w:World):Prop where
 c1:w.cell? ⟨b1,0,none⟩=some (.pointer (some ⟨p,0,none⟩))
 c2:w.cell? ⟨b2,0,none⟩=some vout
 out:IntsV w vout out
 box:BoxD p m A c w
 cas:CaseM w A c
 stl:Stl m w
theorem KT.mm {p m b1 b2:Nat} {A:CaseA} {c:DCas} {vout:Value} {out:List Int} {w w':World} (h:KT p m b1 b2 A c vout out w) (k:MM m w w'):KT p m b1 b2 A c vout out w':=
 ⟨k.keep h.stl h.c1,k.keep h.stl h.c2,mm_ints h.out k h.stl,box_mm h.box k h.stl,mm_case h.cas k h.stl,k.stl h.stl⟩
theorem mm_belr {m n U:Nat} {w w':World} (h:MM m w w'):BelR (fun k=>k=m) (Stl m) n U w w':=⟨h.kp.os,h.kp.tape,h.kp.output,h.kp.size,fun k hk _ hq=>h.kp.block k hk hq,h.stl⟩
def ArgT (ts:List (DTr×Dmg)) (i:Nat) (xs:Array Value) (w:World):Prop:=∃v,∃h:i<ts.length,xs= #[v,(ts[i]).2.v]∧TruV w v (ts[i]).1
def ArgN (ts:List (DTr×Dmg)) (U i:Nat) (xs:Array Value) (w:World):Prop:=∃v,∃h:i<ts.length,xs= #[v,(ts[i]).2.v]∧TruV w v (ts[i]).1∧TruB U v
structure TsO (L B bl gr qr:Nat) (rs:List (Int×Int)) (w:World):Prop where
 y:w.cell? ⟨B,0,none⟩=some (.func (.yield L) #[] #[])
 r:RngB bl (some ⟨gr,0,none⟩) qr rs w
theorem TsO.of {L B bl gr qr:Nat} {rs:List (Int×Int)} {w w':World} (h:TsO L B bl gr qr rs w) (k:∀b o v,b=B∨b=bl∨b=gr→w.cell? ⟨b,o,none⟩=some v→w'.cell? ⟨b,o,none⟩=some v):TsO L B bl gr qr rs w':=
 ⟨k _ _ _ (.inl rfl) h.y, k _ _ _ (.inr (.inl rfl)) h.r.1, fun i hi => by
  obtain⟨g,e,h1,h2⟩:=h.r.2 i hi;cases e
  exact⟨gr,rfl,k _ _ _ (.inr (.inr rfl)) h1,k _ _ _ (.inr (.inr rfl)) h2⟩⟩
theorem TsO.below {L B bl gr qr n:Nat} {rs:List (Int×Int)} {w w':World} (h:TsO L B bl gr qr rs w) (hx:Below n w w') (h1:B<n) (h2:bl<n) (h3:gr<n):TsO L B bl gr qr rs w':=
 h.of (fun b o v hb hc=>(hx.cell (p:=⟨b,o,none⟩) (show b<n by rcases hb with rfl|rfl|rfl<;>assumption)).trans hc)
theorem TsO.kept {L B bl gr qr n:Nat} {rs:List (Int×Int)} {w w':World} (h:TsO L B bl gr qr rs w) {U:Nat} (hx:KeptU n U w w') (h1:n≤B∧B<U) (h2:n≤bl∧bl<U) (h3:n≤gr∧gr<U):TsO L B bl gr qr rs w':=
 h.of (fun b o v hb hc=>have e:n≤b∧b<U:=by rcases hb with rfl|rfl|rfl<;>assumption
  hx.cell e.1 e.2 hc)
theorem ints_turned {L:Nat} {w w':World} {v:Value} {xs:List Int} {r:Loop} (h:IntsV w v xs) (hL:w.heap[L]?=some (.loop r)) (k:Turned L w w'):IntsV w' v xs:=by
 obtain⟨a,c,rfl,h1,h2,h3⟩:=h;refine⟨a,c,rfl,h1,h2,fun i hi=> ?_⟩
 obtain⟨b,o,e,hc,hc2⟩:=h3 i hi;refine⟨b,o,e,k.cell ?_ hc,hc2⟩
 rintro rfl;simp [World.cell?,hL] at hc
end Go.Hs
namespace Go.Proofs.YtegkdnfeceomdaaGreat
open Go.RowKit Go.Hs
attribute [local irreducible] World.setCell World.alloc
attribute [local go_sem] Oper.semAt_some
attribute [local simp] wide_fn wide_fn' wide_depth wide_round
attribute [local go_sem] wide_fn wide_fn' wide_depth wide_round
theorem fn_truthsD:FnOK 146:=fun args w=>by simp [go_sem]
theorem lists_d (a:Option Addr) (n q:Nat) (w:World):
  Calls Tryz.prog 147 #[.slice a n q] w fun e w'=>e= .returned (.func (.func 173) #[] #[.pointer (some ⟨w.heap.size,0,none⟩)])∧w'=w.alloc (.cells #[.slice a n q] 151):=by
 go_enter Tryz.func147,Tryz.ntmps147
 (go_wp2_with fail);go_ret;exact⟨rfl,rfl⟩
theorem truthsD_givesU (p m b1 b2 : Nat) (A : CaseA) (c : DCas) (vout : Value) (out : List Int) (hS : CasS c) :
    GivesU (fun k=>k=m) (Stl m) 146 #[.pointer (some ⟨b1,0,none⟩),.pointer (some ⟨b2,0,none⟩)] (truthsD c out).length (ArgN (truthsD c out)) (KT p m b1 b2 A c vout out):=by
  intro L J Jx W hq hK hJ hJx hY h0
  have hm:m<W.heap.size:=hq m rfl;have K0:=hK W.heap.size 0 W (h0 _ (Nat.le_refl _));have HRN:=hHd (fun W' (hx:Ext W W')=>ranges_d A c W' (K0.cas.ext hx));have hR:∀r∈rngsD c,0≤r.1∧r.1≤r.2∧r.2≤1000:=fun r hr=>by have:=rngsD_ok hS r hr;omega
  have hrl:0<(rngsD c).length∧(rngsD c).length≤1000:=by have:=rngsD_len c;have:=hS.nc;have:=hS.bk.ents;have:=hS.bk.pars;omega
  have HLG:=hHd (fun bl qr ar=>lists_givesU bl qr ar (rngsD c) hR hrl.2);have HK:=hHd hK;have HJ:=hHd hJ;have HJX:=hHd hJx;have HY:=hHd hY;have H0:=hHd h0;obtain⟨k0,k1,k2,k3,k4,k5,k6,k7,k8,k9,k10,k11⟩:=K0.box;have kb:=K0.c1;have hbl1:b1<W.heap.size:=lt_of_cell kb;have hp1:p<W.heap.size:=lt_of_cell k0;have hb1':¬b1=W.heap.size:=by omega
  have hp1':¬p=W.heap.size:=by omega
  have HCNT:=hHd (cntD_all c out);have HTA:=hHd (fun W' (hx:Ext W W') l v hv hl h1 h2 h3=>truth_d A c l v W' hv hl h1 h2 h3);clear hK hJ hJx hY h0 hR K0;rw [←HCNT.out];obtain⟨a1,c1,a2,c2,a3,c3,a4,c4⟩:=A;unfold CaseA.v caseV at HRN;simp only at*;refine callsIn_of_wp_marks Tryz.func146 rfl trivial (wpIn_wide.2 ?_) rfl
  simp only [Tryz.ntmps146,List.size_toArray,List.length_cons,List.length_nil,Nat.reduceAdd,Nat.reduceSub,Array.replicate_succ,Array.replicate_zero,List.push_toArray,List.append_toArray,List.nil_append,List.cons_append];(go_wp2_with fail);go_step3
  (go_wp2_with fail);go_step3
  (go_wp2_with fail);(with_reducible refine(HRN.out _ EX).mono ?_);rintro e w1 ⟨ar,qr,rfl,hown,hx1⟩;(go_wp2_with fail);(with_reducible refine(lists_d _ _ _ _).mono ?_);rintro e w' ⟨rfl,rfl⟩;obtain⟨gr,rfl,hg1,hg2,-⟩:=Hs.Own.at (C:=rngC) (k:=2) (fun _=>rfl) hown hrl.1
  have HT0:Hid (TsO L W.heap.size w1.heap.size gr qr (rngsD c) (w1.alloc (.cells #[.slice (some ⟨gr,0,none⟩) (rngsD c).length qr] 151))):=hHd (by
    have Y:Ext w1 (w1.alloc (.cells #[.slice (some ⟨gr,0,none⟩) (rngsD c).length qr] 151)):=EX;refine⟨(hx1.trans Y).keep (by simp [go_sem]),by simp [go_sem],fun k hk=> ?_⟩
    obtain⟨g',e,-,-,h5⟩:=Hs.Own.at (C:=rngC) (k:=2) (fun _=>rfl) hown hk;cases e
    exact⟨gr,rfl,Y.keep (h5 0 _ rfl),Y.keep (h5 1 _ rfl)⟩)
  have X0:Ext W (w1.alloc (.cells #[.slice (some ⟨gr,0,none⟩) (rngsD c).length qr] 151)):=EX;have S0:(w1.alloc (.cells #[.slice (some ⟨gr,0,none⟩) (rngsD c).length qr] 151)).heap.size=w1.heap.size+1:=by simp
  have hz1:W.heap.size+1≤w1.heap.size:=by have:=hx1.size;simpa using this
  have hg3:W.heap.size+1≤gr:=by simpa using hg1
  clear hown hg1 hx1 k0 k1 k2 k3 k4 k5 k6 k7 k8 k9 k10 k11 kb HRN;(go_wp2_with fail);generalize (w1.alloc (.cells #[.slice (some ⟨gr,0,none⟩) (rngsD c).length qr] 151))=W0 at*;have HS0:=hHd S0;have hS0:w1.heap.size+1≤W0.heap.size∧W0.heap.size≤w1.heap.size+1:=by omega
  clear S0
  have HQ:Hid (∀U A B,BelR (fun _=>False) (fun _=>True) W0.heap.size U A B→BelR (fun k=>k=m) (Stl m) W.heap.size U A B):=hHd (fun U A B h=>
    ⟨h.os,h.tape,h.output,h.size,fun k hk hr _=>h.block k hk (by omega) id,fun hs=>hs.of (h.block m hs.lt (.inl (by omega)) id)⟩)
  have HXT:Hid (∀U A B,m<A.heap.size→Ext A B→BelR (fun k=>k=m) (Stl m) W.heap.size U A B):=hHd (fun U A B hm h=>ext_toR h (inv_stl m) (fun k hk=>by omega))
  refine each_wpU (q:=fun _=>False) (I:=fun _=>True) (n:=(allL (rngsD c)).length) (Arg:=fun _=>ArgL (allL (rngsD c))) (K:=RngB w1.heap.size (some ⟨gr,0,none⟩) qr (rngsD c)) (by rfl) fn_lists1 (fun U i xs W' h=>by obtain⟨v,rfl,-⟩:=h;rfl) inv_none (fun _ h=>h.elim)
    (fun U i W'=>J U (cntD c out i) W'∧TsO L W.heap.size w1.heap.size gr qr (rngsD c) W') (fun U cd W'=>cd= .ret∧Jx U W') (HLG.out _ _ _) (fun U i W' h=>h.2.r)
    (fun U i A' B' hU h hx=>⟨HJ.out U _ A' B' (by omega) h.1 (HQ.out U A' B' hx),h.2.of (fun b o v hb hc=>hx.cell id (.inl (by omega)) hc)⟩)
    (fun U cd A' B' hU h hx=>⟨h.1,HJX.out U A' B' (by omega) h.2 (HQ.out U A' B' hx)⟩)
    (fun U hU=>⟨HJ.out U _ W W0 (by omega) (H0.out U (by omega)) (HXT.out U W W0 hm X0),HT0.out⟩) ?hround ?hdone ?hstop
  case hround =>
    intro U i hi W1 xs hU hUW hj harg hrec1 hs
    obtain⟨v,rfl,hi',hv⟩:=harg;obtain⟨r1,hr1⟩:=hrec1;simp only [Array.zip_eq_zipWith];(gi_wp2_with fail);refine⟨KeptU.refl _ _ _,fun W2 hT hrec=> ?_⟩
    have BT:BelR (fun k=>k=m) (Stl m) W.heap.size U W1 W2:=⟨hT.os,hT.tape,hT.output,by rw [hT.size];exact Nat.le_refl _,fun k _ hr _=>hT.block k (by omega),fun hs=>hs.of (hT.block m (by omega))⟩;have hj2:=HJ.out U _ _ _ (by omega) hj.1 BT;have O2:=hj.2.below (n:=W0.heap.size) (hT.below (by omega)) (by omega) (by omega) (by omega);have V2:=ints_turned hv hr1 hT;have hz2:W1.heap.size≤W2.heap.size:=by rw [hT.size];exact Nat.le_refl _
    have K2:=HK.out _ _ W2 hj2;have HJ2:=hHd hj2;have HO2:=hHd O2;have HV2:=hHd V2;have HK2:=hHd K2;have hml:(allL (rngsD c))[i]∈allL (rngsD c):=List.getElem_mem hi;have HTK:=hHd (truD_ok hml);have HLEN:=hHd ((mem_allL hml).1.trans (rngsD_len c));obtain⟨k0,k1,k2,k3,k4,k5,k6,k7,k8,k9,k10,k11⟩:=K2.box;have kb:=K2.c1;have HNO:=hHd (cntD_no (c:=c) (out:=out) hi);have HYES:=hHd (fun x=>cntD_yes (c:=c) (out:=out) hi (x:=x));have hUW2:U≤W2.heap.size:=Nat.le_trans hUW hz2;clear hj hj2 O2 V2 K2 hv hml hT hr1 HT0 H0 X0 BT;generalize (allL (rngsD c))[i]=l at*;have he:=hS.bk.ents;have hpp:=hS.bk.pars;have hnc:=hS.nc;have HTR:=hHd (truth_d ⟨a1,c1,a2,c2,a3,c3,a4,c4⟩ c l v W2 HV2.out HLEN.out (by omega) (by omega) (by omega));unfold CaseA.v caseV at HTR;simp only at HTR;(gi_wp2_with fail);(with_reducible refine(CallsIn.inRound _ (callsIn_wide.2 HTR.out)).mono ?_);rintro e w3 ⟨vt,rfl,ht,hnew,hx3⟩;have HNW:=hHd hnew;clear hnew;obtain⟨vd,vs,vst,rfl,i1,i2,i3⟩:=ht;obtain⟨vo1,vo2,rfl,-⟩:=id HK2.out.out;have HTD:Hid (tryD c out l=(damD c (truD c l)).bind (fun d=>if goodD c out d then some (truD c l,d) else none)):=rfl;generalize truD c l=t at*;have HDM:=hHd (fun W' (hx:Ext w3 W')=>damage_d p m ⟨a1,c1,a2,c2,a3,c3,a4,c4⟩ c t (.agg #[vd,vs,vst,.int .i64 t.loss]) W' (box_mm HK2.out.box ((Ext.mm hx3).ext hx) HK2.out.stl) (HK2.out.cas.ext (hx3.trans hx)) hS ⟨vd,vs,vst,rfl,i1.ext hx,i2.ext hx,i3.ext hx⟩ HTK.out);have HTV:Hid (TruV w3 (.agg #[vd,vs,vst,.int .i64 t.loss]) t):=hHd ⟨vd,vs,vst,rfl,i1,i2,i3⟩;obtain⟨ad,cd,rfl,-⟩:=i1;obtain⟨as',cs,rfl,-⟩:=i2;obtain⟨at',ct,rfl,-⟩:=i3;replace kb:=hx3.keep kb;have kba:=fun o=>((Ext.refl w3).alloc o).keep kb
    (gi_wp2_with fail);(with_reducible refine(CallsIn.inRound _ (callsIn_wide.2 (HDM.out _ EX))).mono ?_);rintro e w5 ⟨rfl,hx5⟩;have t0:=hx5.keep (k:=w3.heap.size) (o:=0) (v:= .slice ad t.days.length cd) (by simp [go_sem]);have t1:=hx5.keep (k:=w3.heap.size) (o:=1) (v:= .slice as' t.sown.length cs) (by simp [go_sem]);have t2:=hx5.keep (k:=w3.heap.size) (o:=2) (v:= .slice at' t.starts.length ct) (by simp [go_sem]);have t3:=hx5.keep (k:=w3.heap.size) (o:=3) (v:= .int .i64 t.loss) (by simp [go_sem]);have X35:Ext w3 w5:=EX;have X5:Ext W2 w5:=hx3.trans X35;have hz3:W2.heap.size≤w3.heap.size:=hx3.size;have hz5:w3.heap.size<w5.heap.size:=lt_of_cell t0;have HTL:=hHd HTK.out.loss;clear hx5 hx3 kb kba HDM HTR k0 k1 k2 k3 k4 k5 k6 k7 k8 k9 k10 k11 HTK;cases hdm:damD c t with
    | none =>
      have HN:Hid (cntD c out (i+1)=cntD c out i):=hHd (HNO.out (by rw [HTD.out,hdm];rfl));simp only [dmgO,Dmg.v,Option.isSome_none];clear hdm;(gi_wp2_with fail);have X6:Ext W2 (w5.alloc (.cells #[.int .i64 0,.int .i64 0,.int .i64 0,.int .i64 0] 139)):=X5.alloc _;exact⟨(Kept.ext X6).toU,by rw [HN.out];exact HJ.out U _ _ _ (by omega) HJ2.out (HXT.out U _ _ HK2.out.stl.lt X6),HO2.out.below (n:=W2.heap.size) X6 (by omega) (by omega) (by omega)⟩
    | some d =>
      have HDK:Hid (DmgOK d):=hHd (damD_ok hS (by have:=HTL.out;have:=hS.loss;omega) hdm);have HG1:Hid (goodD c out d=true→cntD c out (i+1)=cntD c out i+1∧∃h2:cntD c out i<(truthsD c out).length,(truthsD c out)[cntD c out i]=(t,d)):=hHd (fun h=>HYES.out (t,d) (by rw [HTD.out,hdm];simp [h]));have HG0:Hid (goodD c out d=false→cntD c out (i+1)=cntD c out i):=hHd (fun h=>HNO.out (by rw [HTD.out,hdm];simp [h]));have K5:=HK2.out.mm (Ext.mm X5)
      have HV:Hid (∀W',MM m (w5.alloc (.cells #[.int .i64 d.amount,.int .i64 d.s0,.int .i64 d.s1,.int .i64 d.s2] 139)) W'→(W'.cell? ⟨b1,0,none⟩=some (.pointer (some ⟨p,0,none⟩))∧W'.cell? ⟨b2,0,none⟩=some (.slice vo1 out.length vo2)∧W'.cell? ⟨p,10,none⟩=some (.slice a4 c.clms.length c4)∧W'.cell? ⟨w3.heap.size,0,none⟩=some (.slice ad t.days.length cd)∧W'.cell? ⟨w3.heap.size,1,none⟩=some (.slice as' t.sown.length cs)∧W'.cell? ⟨w3.heap.size,2,none⟩=some (.slice at' t.starts.length ct)∧W'.cell? ⟨w3.heap.size,3,none⟩=some (.int .i64 t.loss)∧W'.cell? ⟨w5.heap.size,0,none⟩=some (.int .i64 d.amount)∧W'.cell? ⟨w5.heap.size,1,none⟩=some (.int .i64 d.s0)∧W'.cell? ⟨w5.heap.size,2,none⟩=some (.int .i64 d.s1)∧W'.cell? ⟨w5.heap.size,3,none⟩=some (.int .i64 d.s2)∧W'.cell? ⟨W.heap.size,0,none⟩=some (.func (.yield L) #[] #[]))∧(KT p m b1 b2 ⟨a1,c1,a2,c2,a3,c3,a4,c4⟩ c (.slice vo1 out.length vo2) out W'∧TruV W' (.agg #[.slice ad t.days.length cd,.slice as' t.sown.length cs,.slice at' t.starts.length ct,.int .i64 t.loss]) t)∧MM m W2 W'):=hHd (fun W' h=>by
        have M5:MM m w5 W':=(Ext.mm ((Ext.refl w5).alloc _)).trans h;have KW:=K5.mm M5;have M2:MM m W2 W':=(Ext.mm X5).trans M5;have hml:m<W2.heap.size:=HK2.out.stl.lt;have hmn3:¬m=w3.heap.size:=by omega
        exact⟨⟨KW.c1,KW.c2,KW.box.c10,M5.keep' (by omega) t0,M5.keep' (by omega) t1,M5.keep' (by omega) t2,M5.keep' (by omega) t3,h.keep' (by omega) (by simp [go_sem]),h.keep' (by omega) (by simp [go_sem]),h.keep' (by omega) (by simp [go_sem]),h.keep' (by omega) (by simp [go_sem]),M2.keep' (by omega) HO2.out.y⟩,⟨KW,mm_tru (HTV.out.ext X35) M5 K5.stl⟩,M2⟩)
      simp only [dmgO,Dmg.v,Option.isSome_some];obtain⟨⟨b1c,b2c,c10,t0,t1,t2,t3,d0,d1,d2,d3,yc⟩,-⟩:=HV.out _ (MM.refl _);clear hdm t0 t1 t2 t3;have kb:=K5.c1;(gi_wp2_with fail);have hVz:w5.heap.size<(w5.alloc (.cells #[.int .i64 d.amount,.int .i64 d.s0,.int .i64 d.s1,.int .i64 d.s2] 139)).heap.size:=by simp
      generalize (w5.alloc (.cells #[.int .i64 d.amount,.int .i64 d.s0,.int .i64 d.s1,.int .i64 d.s2] 139))=V at*;clear b1c b2c c10 t0 t1 t2 t3 d0 d1 d2 d3 yc kb K5
      have HSO:Hid (∀k (h:k<c.clms.length),(c.clms[k]).soc=0∨(c.clms[k]).soc=1∨(c.clms[k]).soc=2):=hHd (fun k h=>by
        have h1:=hS.clm _ (List.getElem_mem h);have h2:=hS.soc;simp only [clmB,socB,Bool.and_eq_true,inR_iff] at h1;omega)
      have hnm:=hS.nm;gi_loopw [37] (fun s wr=>∃k:Nat,k≤c.clms.length∧s= .int .i64 k∧MM m V wr∧Hid (∀j,j<k→(decide ((j:Int)∈out)||rightD (c.clms.getD j default) d)=true)) (fun s _=>c.clms.length - (intOf s).toNat)
      case atStart=>exact⟨0,Nat.zero_le _,rfl,MM.refl _,hHd (fun j hj=>absurd hj (Nat.not_lt_zero _))⟩
      case round=>
        obtain⟨k,hk,rfl,hmm,HJK⟩:=hrel;obtain⟨wo,rfl⟩:∃x,x=wr:=⟨_,rfl⟩;obtain⟨⟨b1c,b2c,c10,t0,t1,t2,t3,d0,d1,d2,d3,yc⟩,⟨KW,TW⟩,MW⟩:=HV.out wo hmm;have HKW:=hHd KW;have HTW:=hHd TW;have HMW:=hHd MW;clear TW MW;by_cases hlt:k<c.clms.length
        · obtain ⟨b', off, e4, hce⟩ := KW.cas.clms k (by simpa using hlt); simp only at e4; subst e4; have e1 : (c.clms.map Clm.c)[k]'(by simpa using hlt) = (c.clms[k]).c := by simp
          rw [e1] at hce;clear e1
          have HOK1:Hid (∀b,(decide ((k:Int)∈out)||rightD c.clms[k] d)=b→b=true→∀j,j<k+1→(decide ((j:Int)∈out)||rightD (c.clms.getD j default) d)=true):=hHd (fun b hb hb1 j hj=>by
            by_cases e:j=k
            · subst e; have e2 : c.clms.getD j default = c.clms[j] := by simp [hlt]
              rw [e2,hb];exact hb1
            · exact HJK.out j (by omega))
          have HBAD:Hid ((decide ((k:Int)∈out)||rightD c.clms[k] d)=false→goodD c out d=false):=hHd (fun hb=>by
            refine all_range_false hlt ?_
            have e2:c.clms.getD k default=c.clms[k]:=by simp [hlt]
            rw [e2];exact hb)
          have hso:=HSO.out k hlt;have HRT:=hHd (fun W' (hw:W'.cell? ⟨p,11,none⟩=some (.map (some m))) (hs':Stl m W')=>right_d p m c.clms[k] d W' hw hs' HDK.out hso);have HCO:=hHd (fun W' (hx:Ext wo W')=>contains_p (.slice vo1 out.length vo2) out (k:Int) W' (KW.out.ext hx));clear hso KW;obtain⟨cb,hcb⟩:∃cb,cb=decide ((k:Int)∈out):=⟨_,rfl⟩;obtain⟨rb,hrb⟩:∃rb,rb=rightD c.clms[k] d:=⟨_,rfl⟩;rw [←hcb] at HOK1 HBAD HCO;rw [←hrb] at HOK1 HBAD HRT;clear hcb hrb;generalize c.clms[k]=x at*;obtain⟨so,plo,phi⟩:=x;obtain⟨m0,m1,m2⟩:=hce;simp only [Clm.c,V3.val] at m0 m1 m2 HRT;have hk0:(0:Int)≤(k:Int):=by omega
          have hk1:(k:Int)<(c.clms.length:Int):=by omega
          have b2a:=fun o=>((Ext.refl wo).alloc o).keep b2c
          (gi_wp2_with fail);(with_reducible refine(CallsIn.inRound _ (callsIn_wide.2 (HCO.out _ EX))).mono ?_);rintro e w7 ⟨rfl,hx7⟩;have X7:Ext wo w7:=EX;have M7:MM m V w7:=hmm.ext X7;have y0:=hx7.keep (k:=wo.heap.size) (o:=0) (v:= .int .i64 so) (by simp [go_sem]);have y1:=hx7.keep (k:=wo.heap.size) (o:=1) (v:= .int .i64 plo) (by simp [go_sem]);have y2:=hx7.keep (k:=wo.heap.size) (o:=2) (v:= .int .i64 phi) (by simp [go_sem]);clear b1c b2c c10 t0 t1 t2 t3 d0 d1 d2 d3 yc b2a m0 m1 m2 hx7 HCO;cases cb with
          | true =>
            have HJ8:=hHd (HOK1.out true (Bool.true_or _) rfl);clear HBAD HOK1 HRT;(gi_wp2_with fail);go_roundw
            case rel=>exact⟨k+1,by omega,by go_num,M7,HJ8⟩
            case measure=>simp [intOf];omega
          | false =>
            obtain⟨⟨b1c,b2c,c10,t0,t1,t2,t3,d0,d1,d2,d3,yc⟩,⟨KW,TW⟩,MW⟩:=HV.out w7 M7;have hw11:=KW.box.c11;have hst:=KW.stl;have HR8:=hHd (HRT.out w7 hw11 hst);clear HRT hw11 hst KW TW MW t0 t1 t2 t3 yc b2c c10;(gi_wp2_with fail);(with_reducible refine(CallsIn.inRound _ (callsIn_wide.2 HR8.out)).mono ?_);rintro e w8 ⟨rfl,hm8⟩;have M8:=M7.trans hm8;clear b1c d0 d1 d2 d3 y0 y1 y2 hm8;cases rb with
            | true =>
              have HJ8:=hHd (HOK1.out true rfl rfl);clear HBAD HOK1;(gi_wp2_with fail);go_roundw
              case rel=>exact⟨k+1,by omega,by go_num,M8,HJ8⟩
              case measure=>simp [intOf];omega
            | false =>
              have HN:=hHd (HG0.out (HBAD.out rfl));obtain⟨-,-,MW⟩:=HV.out w8 M8;clear HBAD HOK1;(gi_wp2_with fail);exact⟨(mm_kept MW (by omega)).toU,by rw [HN.out];exact HJ.out U _ W2 w8 (by omega) HJ2.out (mm_belr MW),HO2.out.of (fun b o v hb hc=>MW.keep' (by omega) hc)⟩
        · obtain rfl : k = c.clms.length := by omega
          have HG:=hHd (HG1.out (List.all_eq_true.2 (fun j hj=>HJK.out j (List.mem_range.1 hj))));obtain⟨-,TW,MW⟩:=HV.out wo hmm;obtain⟨hc1,h2,he⟩:=HG.out;have hj9:J U (cntD c out i) wo:=HJ.out U _ W2 wo (by omega) HJ2.out (mm_belr MW);have hy:=HY.out U _ h2 wo #[.agg #[.slice ad t.days.length cd,.slice as' t.sown.length cs,.slice at' t.starts.length ct,.int .i64 t.loss],d.v] (by omega) (by have:=MW.size;omega) hj9 ⟨_,h2,by rw [he],by rw [he];exact TW.2,HNW.out.mono hUW2⟩;have HE9:Hid (cntD c out (i+1)=cntD c out i+1):=hHd hc1;have HO9:=hHd (HO2.out.of (w':=wo) (fun b o v hb hc=>MW.keep' (by omega) hc));have HK9:Hid (KeptU W0.heap.size U W2 wo):=hHd (mm_kept MW (by omega)).toU;obtain⟨fn,tmps,assign,body,hy,hrd⟩:=hy;simp only [Dmg.v] at hy hrd;clear KW TW MW HG hc1 h2 he hj9;gi_wp2_with ((with_reducible refine(RoundIn.inR _ hrd).mono ?_);rintro e w9 ⟨hk2,⟨rfl,hI2⟩|⟨rfl,hI2⟩⟩)
          · (gi_wp2_with fail);exact⟨HK9.out.trans (hk2.mono (by omega)),by rw [HE9.out];exact hI2,HO9.out.kept (n:=W.heap.size) hk2 (by omega) (by omega) (by omega)⟩
          · (gi_wp2_with fail);exact⟨HK9.out.trans (hk2.mono (by omega)),rfl,hI2⟩
  case hdone=>
    rintro U W3 hU ⟨hj,-⟩ hd;(go_wp2_with fail);simp only [Exit.noGoto];refine⟨by simp,.inl ⟨_,_,rfl,run_takeDeferred hd,?_⟩⟩
    exact⟨_,results_none rfl _ _ _,⟨_,rfl⟩,U,by omega,.inl (HJ.out U _ _ _ (by omega) hj (belR_put (inv_stl m) (fun k hk=>by omega) (by omega) (by omega)))⟩
  case hstop=>
    rintro U cd W3 hU ⟨rfl,hj⟩ hd;(go_wp2_with fail);(try rw [Exit.noGoto_ret])
    refine⟨by simp,.inl ⟨_,_,rfl,run_takeDeferred hd,?_⟩⟩
    exact⟨_,results_none rfl _ _ _,⟨_,rfl⟩,U,by omega,.inr (HJX.out U _ _ (by omega) hj (belR_put (inv_stl m) (fun k hk=>by omega) (by omega) (by omega)))⟩
theorem truthsD_gives (p m b1 b2:Nat) (A:CaseA) (c:DCas) (vout:Value) (out:List Int) (hS:CasS c):
  GivesQ (fun k=>k=m) (Stl m) 146 #[.pointer (some ⟨b1,0,none⟩),.pointer (some ⟨b2,0,none⟩)] (truthsD c out).length (ArgT (truthsD c out)) (KT p m b1 b2 A c vout out):=(truthsD_givesU p m b1 b2 A c vout out hS).toQ (fun U i xs W ⟨v,h,e,ht,_⟩=>⟨v,h,e,ht⟩)
end Go.Proofs.YtegkdnfeceomdaaGreat
namespace Go.Hs
open Go.RowKit
section
variable {F:Fence} {n:Nat} {P:Program} {w:World} {ops:Array Oper} {rest:List Oper} {o:Oper} {a:Act} {Q:Exit→Act→World→Prop}
end
theorem results_load {P:Program} {fn:Func} {p:Tmp} {ty:TypeId} (h:fn.results= #[.cell p ty]) (tmps:Array Value) (w:World) (q:Addr) (v:Value) (hp:tmps.getD p undef= .pointer (some q)) (hl:(loadVar ty q).run P w= .ok v w):
  (results fn tmps).run P w= .ok v w:=by
 have hp':tmps[p]?.getD undef= .pointer (some q):=by simpa using hp
 simp [results,h,hp',asAddr,hl]
def BitsAt (b N:Nat) (g:Nat→Bool) (W:World):Prop:=∀j,j<N→W.cell? ⟨b,j,none⟩=some (.bool (g j))
theorem BitsAt.below {b N n:Nat} {g:Nat→Bool} {w w':World} (h:BitsAt b N g w) (hx:Below n w w') (hb:b<n):BitsAt b N g w':=fun j hj=>(hx.cell (p:=⟨b,j,none⟩) hb).trans (h j hj)
theorem BitsAt.ext {b N:Nat} {g:Nat→Bool} {w w':World} (h:BitsAt b N g w) (hx:Ext w w'):BitsAt b N g w':=fun j hj=>hx.keep (h j hj)
def bitsV (N:Nat) (g:Nat→Bool):List Value:=(List.range N).map (fun j=> .bool (g j))
theorem bitsV_len (N:Nat) (g:Nat→Bool):(bitsV N g).length=N:=by simp [bitsV]
theorem BitsAt.range {b N:Nat} {g:Nat→Bool} {w:World} (h:BitsAt b N g w):w.rangeAt b 0 (bitsV N g):=fun j v hv=>by
 have hj:j<N:=by
  have:=(List.getElem?_eq_some_iff.1 hv).1;rwa [bitsV_len] at this
 have e:v= .bool (g j):=by simp [bitsV,hj] at hv;exact hv.symm
 subst e;simpa using h j hj
theorem setCell_same (W : World) (a : Addr) (v : Value) (h : W.cell? a = some v) : W.setCell a v = W := by
  obtain⟨heap,tape,drawn,os,output⟩:=W;unfold World.setCell;simp only [World.mk.injEq,and_true];apply Array.ext_getElem?
  intro i
  rw [Array.getElem?_modify];split
  · rename_i e
    subst e;unfold World.cell? at h;simp only at h;cases ho:heap[a.block]? with
    |none=>rfl
    | some o =>
      rw [ho] at h;cases o with
      | cells c e f =>
        simp only at h;split at h
        · cases h
        · rename_i hsp
          simp only [Option.map_some,hsp,Bool.false_eq_true,if_false,Option.some.injEq,Obj.cells.injEq,and_true];apply Array.ext_getElem?
          intro k
          rw [Array.getElem?_setIfInBounds];split
          · rename_i e; subst e
            split
            · exact h.symm
            · rename_i hlt;rw [Array.getElem?_eq_none (by omega)] at h;cases h
          · rfl
      |_=>cases h
  · rfl
structure KB (p m:Nat) (A:CaseA) (c:DCas) (w:World):Prop where
 box:BoxD p m A c w
 cas:CaseM w A c
 stl:Stl m w
theorem KB.mm {p m:Nat} {A:CaseA} {c:DCas} {w w':World} (h:KB p m A c w) (k:MM m w w'):KB p m A c w':=⟨box_mm h.box k h.stl,mm_case h.cas k h.stl,k.stl h.stl⟩
theorem KB.ext {p m:Nat} {A:CaseA} {c:DCas} {w w':World} (h:KB p m A c w) (k:Ext w w'):KB p m A c w':=h.mm (Ext.mm k)
theorem KB.kt {p m b1 b2:Nat} {A:CaseA} {c:DCas} {vout:Value} {out:List Int} {w w':World} (h:KB p m A c w) (hv:IntsV w vout out) (k:MM m w w') (h1:w'.cell? ⟨b1,0,none⟩=some (.pointer (some ⟨p,0,none⟩))) (h2:w'.cell? ⟨b2,0,none⟩=some vout):KT p m b1 b2 A c vout out w':=
 ⟨h1,h2,mm_ints hv k h.stl,box_mm h.box k h.stl,mm_case h.cas k h.stl,k.stl h.stl⟩
theorem mm_bel {m n:Nat} {w a b:World} (h:MM m w a) (k:BelQ (fun k=>k=m) (Stl m) n a b) (hn:w.heap.size≤n):MM m w b:=
 ⟨⟨k.os.trans h.kp.os,k.tape.trans h.kp.tape,k.output.trans h.kp.output,Nat.le_trans h.kp.size k.size,fun j hj hq=>(k.block j (by omega) hq).trans (h.kp.block j hj hq)⟩,fun q=>k.inv (h.stl q)⟩
end Go.Hs
namespace Go.Proofs.YtegkdnfeceomdaaGreat
open Go.RowKit Go.Hs
attribute [local irreducible] World.setCell World.alloc
attribute [local go_sem] Oper.semAt_some
attribute [local simp] wide_fn wide_fn' wide_depth wide_round
attribute [local go_sem] wide_fn wide_fn' wide_depth wide_round
theorem truthsF_d (p:Nat) (a:Option Addr) (n q:Nat) (w:World):
  Calls Tryz.prog 100 #[.pointer (some ⟨p,0,none⟩),.slice a n q] w fun e w'=>e= .returned (.func (.func 146) #[] #[.pointer (some ⟨w.heap.size,0,none⟩),.pointer (some ⟨w.heap.size+1,0,none⟩)])∧w'=(w.alloc (.cells #[.pointer (some ⟨p,0,none⟩)] 136)).alloc (.cells #[.slice a n q] 22):=by
 go_enter Tryz.func100,Tryz.ntmps100
 (go_wp2_with fail);go_ret;exact⟨rfl,rfl⟩
theorem possible_d (p m:Nat) (A:CaseA) (c:DCas) (vout:Value) (out:List Int) (w:World) (hS:CasS c) (hb:KB p m A c w) (hv:IntsV w vout out):
  Calls Tryz.prog 99 #[.pointer (some ⟨p,0,none⟩),vout] w fun e w'=>e= .returned (.bool (!(truthsD c out).isEmpty))∧MM m w w':=by
 have HGV:=hHd (fun b1 b2=>truthsD_gives p m b1 b2 A c vout out hS);have HKT:=hHd (fun b1 b2 W' (k:MM m w W') h1 h2=>KB.kt (b1:=b1) (b2:=b2) hb hv k h1 h2);obtain⟨ao,co,rfl,-⟩:=id hv;have hml:m<w.heap.size:=hb.stl.lt;have hst:=hHd hb.stl;clear hb hv;refine(callsIn_wide (n:=0)).1 (callsIn_of_wp_marks Tryz.func99 rfl trivial (wpIn_wide.2 ?_) rfl)
 simp only [Tryz.ntmps99,List.size_toArray,List.length_cons,List.length_nil,Nat.reduceAdd,Nat.reduceSub,Array.replicate_succ,Array.replicate_zero,List.push_toArray,List.append_toArray,List.nil_append,List.cons_append];(go_wp2_with fail);(with_reducible refine(truthsF_d _ _ _ _ _).mono ?_);rintro e w' ⟨rfl,rfl⟩;(go_wp2_with fail);have X0:Ext w (((w.alloc (.cells #[.bool false] 4)).alloc (.cells #[.pointer (some ⟨p,0,none⟩)] 136)).alloc (.cells #[.slice ao out.length co] 22)):=EX;have r0:(((w.alloc (.cells #[.bool false] 4)).alloc (.cells #[.pointer (some ⟨p,0,none⟩)] 136)).alloc (.cells #[.slice ao out.length co] 22)).cell? ⟨w.heap.size,0,none⟩=some (.bool false):=by simp [go_sem]
 have rf:∀o,(((w.alloc (.cells #[.bool false] 4)).alloc (.cells #[.pointer (some ⟨p,0,none⟩)] 136)).alloc (.cells #[.slice ao out.length co] 22)).frozen? ⟨w.heap.size,o,none⟩=false:=fun o=>by simp [go_sem]
 have r1:(((w.alloc (.cells #[.bool false] 4)).alloc (.cells #[.pointer (some ⟨p,0,none⟩)] 136)).alloc (.cells #[.slice ao out.length co] 22)).cell? ⟨w.heap.size+1,0,none⟩=some (.pointer (some ⟨p,0,none⟩)):=by simp [go_sem]
 have r2:(((w.alloc (.cells #[.bool false] 4)).alloc (.cells #[.pointer (some ⟨p,0,none⟩)] 136)).alloc (.cells #[.slice ao out.length co] 22)).cell? ⟨w.heap.size+2,0,none⟩=some (.slice ao out.length co):=by simp [go_sem]
 have hz:(((w.alloc (.cells #[.bool false] 4)).alloc (.cells #[.pointer (some ⟨p,0,none⟩)] 136)).alloc (.cells #[.slice ao out.length co] 22)).heap.size=w.heap.size+3:=by simp
 rw [show w.heap.size+1+1=w.heap.size+2 from rfl];generalize (((w.alloc (.cells #[.bool false] 4)).alloc (.cells #[.pointer (some ⟨p,0,none⟩)] 136)).alloc (.cells #[.slice ao out.length co] 22))=W0 at*;have HZ:=hHd hz;have hz0:w.heap.size+3≤W0.heap.size∧W0.heap.size≤w.heap.size+3:=by omega
 clear hz
 refine each_wpQ (q:=fun k=>k=m) (I:=Stl m) (n:=(truthsD c out).length) (Arg:=ArgT (truthsD c out)) (K:=KT p m (w.heap.size+1) (w.heap.size+2) A c (.slice ao out.length co) out) (by rfl) fn_truthsD (fun i xs W' h=>by obtain⟨v,h2,rfl,-⟩:=h;rfl) (inv_stl m) (fun k hk=>by omega)
  (fun i W'=>i=0∧MM m w W'∧(W'.cell? ⟨w.heap.size,0,none⟩=some (.bool false)∧(∀o,W'.frozen? ⟨w.heap.size,o,none⟩=false))∧W'.cell? ⟨w.heap.size+1,0,none⟩=some (.pointer (some ⟨p,0,none⟩))∧W'.cell? ⟨w.heap.size+2,0,none⟩=some (.slice ao out.length co))
  (fun cd W'=>cd= .ret∧(!(truthsD c out).isEmpty)=true∧MM m w W'∧W'.cell? ⟨w.heap.size,0,none⟩=some (.bool true)) (HGV.out _ _) (fun i W' h=>HKT.out _ _ W' h.2.1 h.2.2.2.1 h.2.2.2.2)
  (fun i A' B' h hx=>⟨h.1,mm_bel h.2.1 hx (by omega),⟨hx.cell (by omega) (by omega) h.2.2.1.1,fun o=>(hx.frozen (by omega) (by omega)).trans (h.2.2.1.2 o)⟩,hx.cell (by omega) (by omega) h.2.2.2.1,hx.cell (by omega) (by omega) h.2.2.2.2⟩)
  (fun cd A' B' h hx=>⟨h.1,h.2.1,mm_bel h.2.2.1 hx (by omega),hx.cell (by omega) (by omega) h.2.2.2⟩)
  ⟨rfl,Ext.mm X0,⟨r0,rf⟩,r1,r2⟩ ?hround ?hdone ?hstop
 case hround=>
  intro i hi W1 xs hj harg hrec1 hs
  obtain⟨v,h2,rfl,-⟩:=harg;obtain⟨rfl,hmm,⟨r0,rf⟩,r1,r2⟩:=hj;simp only [Array.zip_eq_zipWith];(gi_wp2_with fail);refine⟨Kept.refl _ _,fun W2 hT hrec=> ?_⟩
  have BA:BelQ (fun k=>k=m) (Stl m) W0.heap.size W1 W2:=(below_toQ (hT.below (Nat.le_refl _)) (inv_stl m) (fun k hk=>by omega)).mono (by omega);have M2:=mm_bel hmm BA (by omega);have q0:W2.cell? ⟨w.heap.size,0,none⟩=some (.bool false):=BA.cell (by omega) (by omega) r0;have qf:∀o,W2.frozen? ⟨w.heap.size,o,none⟩=false:=fun o=>(BA.frozen (by omega) (by omega)).trans (rf o)
  have HNE:Hid ((!(truthsD c out).isEmpty)=true):=hHd (by
   cases ht:truthsD c out with
   |nil=>rw [ht] at hi;exact absurd hi (Nat.not_lt_zero _)
   |cons x y=>rfl)
  clear hmm r0 rf r1 r2 hT BA;(gi_wp2_with fail);exact⟨⟨by rw [World.size_setCell];exact Nat.le_refl _,fun q hq1 hq2=>Below.heap_setCell _ _ _ _ (show q≠w.heap.size by omega)⟩,rfl,HNE.out,M2.setCell (Nat.le_refl _) hst.out _,World.cell?_setCell_same _ _ _ q0⟩
 case hdone=>
  rintro W3 ⟨h0,hmm,⟨ci,hfr⟩,-,-⟩ hd;have HM:Hid ((!(truthsD c out).isEmpty)=false):=hHd (by rw [List.length_eq_zero_iff.1 h0];rfl);have BT:BelQ (fun k=>k=m) (Stl m) W0.heap.size W3 (W3.putObj W0.heap.size (.deferred none)):=below_toQ ((Turned.put W3 W0.heap.size (.deferred none)).below (Nat.le_refl _)) (inv_stl m) (fun k hk=>by omega);have hXX:=hHd (mm_bel hmm BT (by omega));have hc2:(W3.putObj W0.heap.size (.deferred none)).cell? ⟨w.heap.size,0,none⟩=some (.bool false):=BT.cell (by omega) (by omega) ci;have hlv:(loadVar 4 ⟨w.heap.size,0,none⟩).run Tryz.prog (W3.putObj W0.heap.size (.deferred none))= .ok (.bool false) (W3.putObj W0.heap.size (.deferred none)):=by simp [go_sem,hc2]
  have hsame:=setCell_same W3 _ _ ci;clear hmm BT h0 hc2;(go_wp2_with fail);refine⟨by simp,.inl ⟨_,_,rfl,run_takeDeferred hd,?_⟩⟩
  exact⟨_,results_load rfl _ _ _ _ rfl hlv,congrArg (fun z=>Ending.returned (.bool z)) HM.out.symm,hXX.out⟩
 case hstop=>
  rintro cd W3 ⟨rfl,hne,hmm,ci⟩ hd;have HM:=hHd hne;have BT:BelQ (fun k=>k=m) (Stl m) W0.heap.size W3 (W3.putObj W0.heap.size (.deferred none)):=below_toQ ((Turned.put W3 W0.heap.size (.deferred none)).below (Nat.le_refl _)) (inv_stl m) (fun k hk=>by omega);have hXX:=hHd (mm_bel hmm BT (by omega));have hc2:(W3.putObj W0.heap.size (.deferred none)).cell? ⟨w.heap.size,0,none⟩=some (.bool true):=BT.cell (by omega) (by omega) ci;have hlv:(loadVar 4 ⟨w.heap.size,0,none⟩).run Tryz.prog (W3.putObj W0.heap.size (.deferred none))= .ok (.bool true) (W3.putObj W0.heap.size (.deferred none)):=by simp [go_sem,hc2]
  clear hmm BT hne hc2;(go_wp2_with fail);refine⟨by simp,.inl ⟨_,_,rfl,run_takeDeferred hd,?_⟩⟩
  exact⟨_,results_load rfl _ _ _ _ rfl hlv,congrArg (fun z=>Ending.returned (.bool z)) HM.out.symm,hXX.out⟩
end Go.Proofs.YtegkdnfeceomdaaGreat
namespace Go.Hs
open Go.RowKit
def everyI (n:Nat):List Int:=(List.range n).map (fun i:Nat=>(i:Int))
theorem everyI_len (n:Nat):(everyI n).length=n:=by simp [everyI]
theorem everyI_next (n:Nat):everyI (n+1)=everyI n++ [(n:Int)]:=by simp [everyI,List.range_succ]
def askD (c:DCas) (fb:Bool):Int:=if caseD c≠0 then caseD c else if fb then (if (truthsD c (everyI c.clms.length)).isEmpty then 9 else 0) else 2
theorem askD_zero {c:DCas} {fb:Bool} (h:askD c fb=0):caseD c=0∧fb=true∧(truthsD c (everyI c.clms.length)).isEmpty=false:=by
 unfold askD at h;split at h
 ·exact absurd h ‹_›
 ·rename_i h0
  split at h
  ·split at h
   ·cases h
   ·rename_i h1 h2
    exact⟨by omega,h1,by simpa using h2⟩
  ·cases h
theorem WkD.kb {W0 w:World} {p m:Nat} {A:CaseA} {c:DCas} (h:WkD W0 p m A c w) (hc:CaseM W0 A c):KB p m A c w:=⟨h.cells,hc.ext h.ext,h.stl⟩
end Go.Hs
namespace Go.Proofs.YtegkdnfeceomdaaGreat
open Go.RowKit Go.Hs
attribute [local irreducible] World.setCell World.alloc
def AskQ (A:CaseA) (c:DCas) (fb:Bool) (w:World) (e:Ending) (w':World):Prop:=
 (askD c fb≠0→e= .returned (.tuple #[.pointer none,.int .i64 (askD c fb)]))∧(askD c fb=0→∃p m,e= .returned (.tuple #[.pointer (some ⟨p,0,none⟩),.int .i64 0])∧WkD w p m A c w')∧Ext w w'
theorem askQ_no {A:CaseA} {c:DCas} {fb:Bool} {w w':World} {r:Int} (h:askD c fb=r) (h0:r≠0) (hx:Ext w w'):AskQ A c fb w (.returned (.tuple #[.pointer none,.int .i64 r])) w':=
 ⟨fun _=>by rw [h],fun e=>absurd (h.symm.trans e) h0,hx⟩
theorem asked_d (A : CaseA) (c : DCas) (w : World) (hm : CaseM w A c) (F : FuncId) (caps : Array Value) (fb : Bool) (hF : FnOK F) (hf : caseD c = 0 → ∀ W, Ext w W → Calls Tryz.prog F caps W fun e w' => e = .returned (.bool fb) ∧ Ext W w') :
    Calls Tryz.prog 89 #[A.v c,.func (.func F) #[] caps] w (AskQ A c fb w):=by
  obtain⟨i0,hi0,hz0,hz1,hz2⟩:=info_parts info_int;have HCK:=hHd (fun W (hx:Ext w W)=>checkC_d A c W (hm.ext hx));have HF:=hHd hf;have HWK:=hHd (fun W (hx:Ext w W)=>work_d w A c W hx);have HPO:Hid (caseD c=0→∀p m W v,WkD w p m A c W→IntsV W v (everyI c.clms.length)→Calls Tryz.prog 99 #[.pointer (some ⟨p,0,none⟩),v] W fun e w'=>e= .returned (.bool (!(truthsD c (everyI c.clms.length)).isEmpty))∧MM m W w'):=hHd (fun h0 p m W v hk hv=>possible_d p m A c v (everyI c.clms.length) W (caseD_zero h0).2.1 (hk.kb hm) hv);have HE1:Hid (∀r,caseD c=r→r≠0→askD c fb=r):=hHd (fun r h h0=>by unfold askD;rw [h,if_pos h0]);have HE2:Hid (caseD c=0→fb=false→askD c fb=2):=hHd (fun h h0=>by unfold askD;rw [h,h0];rfl)
  have HE3:Hid (caseD c=0→fb=true→∀b,(!(truthsD c (everyI c.clms.length)).isEmpty)=b→askD c fb=if b then 0 else 9):=hHd (fun h h0 b hb=>by
    unfold askD;rw [h,h0,←hb];cases (truthsD c (everyI c.clms.length)).isEmpty<;>rfl)
  have hl4:=hm.l4.2;clear hf hm;unfold FnOK at hF;generalize hce:caseD c=ce at*;have HCE:=hHd hce;clear hce;obtain⟨tb,htb⟩:∃tb,tb= !(truthsD c (everyI c.clms.length)).isEmpty:=⟨_,rfl⟩;rw [←htb] at HPO HE3;have HQ:Hid (∀p m W,WkD w p m A c W→askD c fb=0→AskQ A c fb w (.returned (.tuple #[.pointer (some ⟨p,0,none⟩),.int .i64 0])) W):=hHd (fun p m W hk h0=>⟨fun h=>absurd h0 h,fun _=>⟨p,m,rfl,hk⟩,hk.ext⟩);clear htb;obtain⟨a1,c1,a2,c2,a3,c3,a4,c4⟩:=A;unfold CaseA.v caseV at*;simp only at*;generalize hn:c.clms.length=n4 at*;clear hn;generalize c.bk.pars.length=n1 at*;generalize c.bk.ents.length=n2 at*;generalize c.covs.length=n3 at*;generalize c.bk.last=last at*;generalize c.bk.owners=owners at*;generalize c.soc=soc at*;generalize c.day=day at*;generalize c.parcel=parcel at*;generalize c.llo=llo at*;generalize c.lhi=lhi at*;go_enter Tryz.func89,Tryz.ntmps89
  (go_wp2_with fail);obtain⟨W0,hW,X,HS,HSf,HSz⟩:=bx11 w 57 (.int .i64 last) (.int .i64 owners) (.slice a1 n1 c1) (.slice a2 n2 c2) (.int .i64 soc) (.int .i64 day) (.int .i64 parcel) (.slice a3 n3 c3) (.int .i64 llo) (.int .i64 lhi) (.slice a4 n4 c4);rw [hW];clear hW;(with_reducible refine(HCK.out _ X).mono ?_);rintro e w1 ⟨rfl,hx1⟩;obtain⟨⟨q0,q1,q2,q3,q4,q5,q6,q7,q8,q9,q10⟩,-⟩:=HS.out w1 hx1;have X1:=X.trans hx1;by_cases h0:ce=0
  · have hb : (ce != 0) = false := by rw [h0]; rfl
    have H0:=hHd h0;have HPO2:=hHd (HPO.out h0);have HE22:=hHd (HE2.out h0);have HE32:=hHd (HE3.out h0);clear h0 HPO HE2 HE3 HE1 HCK;(go_wp2_with fail);(with_reducible refine(HF.out H0.out _ X1).mono ?_);rintro e w2 ⟨rfl,hx2⟩;have X2:=X1.trans hx2;replace hx1:=hx1.trans hx2;cases fb with
    | false =>
      have HR:=hHd (HE22.out rfl);clear HE22 HE32 HPO2 q0 q1 q2 q3 q4 q5 q6 q7 q8 q9 q10 hx2;(go_wp2_with fail);go_ret2;exact askQ_no HR.out (by decide) X2
    | true =>
      have HR:=hHd (HE32.out rfl);clear HE22 HE32 q0 q1 q2 q3 q4 q5 q6 q7 q8 q9 q10 hx2 HF;obtain⟨⟨q0,q1,q2,q3,q4,q5,q6,q7,q8,q9,q10⟩,-⟩:=HS.out w2 hx1;(go_wp2_with fail);go_loopw [7,23] (fun s7 s23 wr=>∃(k m:Nat) (a5:Option Addr) (cq:Nat),k≤n4∧m=k∧s23= .int .i64 k∧s7= .slice a5 m cq∧Hid (wr.ownsRow w2.heap.size 3 1 (.slice a5 m cq) m ((everyI k).map (.int .i64)))∧Ext w2 wr) (fun _ s _=>n4 - (intOf s).toNat)
      case atStart=>exact⟨0,0,none,0,Nat.zero_le _,rfl,rfl,rfl,hHd (World.ownsRow_nil _ _ _ _),Ext.refl _⟩
      case round=>
        obtain⟨k,m,a5,cq,hk,hmk,rfl,rfl,HO,hx⟩:=hrel;obtain⟨wo,rfl⟩:∃x,x=wr:=⟨_,rfl⟩;by_cases hlt:k<n4
        · have hk0 : (0 : Int) ≤ (k : Int) := by omega
          have hk1:(k:Int)<(n4:Int):=by omega
          have HM:=hHd hmk;have HNX:Hid ((everyI (k+1)).map (Value.int .i64)=(everyI k).map (.int .i64)++ [.int .i64 (k:Int)]):=hHd (by rw [everyI_next,List.map_append];rfl);have hml:m≤1000:=by omega
          have hsz:w2.heap.size≤wo.heap.size:=hx.size;clear hmk q0 q1 q2 q3 q4 q5 q6 q7 q8 q9 q10;go_wp2_with (at_builtin;refine wpList_append_own_at _ rfl _ _ 22 rfl w2.heap.size 3 i0 (.int .i64 0) 1 8 Tryz.underlying22 hi0 hz0 hz1 hz2 rfl (by decide) (.slice a5 m cq) m ((everyI k).map (.int .i64)) rfl ?own ⟨wo.heap.size,0,none⟩ 1 1 [.int .i64 (k:Int)] rfl rfl (one_inN (Ext.refl _) rfl) ?one ?f1 ?f2 ?f3 ?next)
          case own=>exact own_extR HO.out EX
          case one=>intro u hu;simp only [List.mem_cons,List.not_mem_nil,or_false] at hu;rw [hu];rfl
          case f1=>simp only [maxLen];omega
          case f2=>omega
          case f3=>simp;omega
          case next=>
            intro v' w7 hown hgrow hnil hat
            have hx7:Ext w2 w7:=grown_ext (hx.trans EX) hgrow (fun g hg=>(own_lt HO.out hg).1);have HUR:Hid (w7.ownsRow w2.heap.size 3 1 v' (m+1) ((everyI (k+1)).map (.int .i64))):=hHd (by rw [HNX.out];exact hown);rcases own_open hown with ⟨-,h0⟩|⟨g',cap,rfl,-,-,-,-⟩
            · omega
            · clear hnil hat hgrow hown; (go_wp2_with fail); go_roundw
              case rel=>exact⟨k+1,m+1,_,_,by omega,by rw [HM.out],by go_num,rfl,HUR,hx7⟩
              case measure=>simp [intOf];omega
        · obtain rfl : k = n4 := by omega
          obtain⟨⟨q0,q1,q2,q3,q4,q5,q6,q7,q8,q9,q10⟩,-⟩:=HS.out wo (hx1.trans hx)
          have HIV:Hid (IntsV wo (.slice a5 m cq) (everyI k)):=hHd (own_intsV HO.out rfl (by rw [hmk,everyI_len]) (fun x hx=>by
            obtain⟨i,hi,rfl⟩:=List.mem_map.1 hx;have:=List.mem_range.1 hi;unfold i64ok;omega) (by rw [everyI_len];exact hl4))
          have X3:=X2.trans hx;have HM:=hHd hmk;clear hmk HO;(go_wp2_with fail);(with_reducible refine(HWK.out _ X3).mono ?_);rintro e w4 ⟨p,mm,rfl,hwk,hx4⟩;have HWD:=hHd hwk;have HIV4:=hHd (HIV.out.ext hx4);clear hwk q0 q1 q2 q3 q4 q5 q6 q7 q8 q9 q10 HS;(go_wp2_with fail);(with_reducible refine(HPO2.out p mm w4 _ HWD.out HIV4.out).mono ?_);rintro e w5 ⟨rfl,hm5⟩;have HW5:=hHd (HWD.out.mm hm5);cases tb with
          | true =>
            have HR2:=hHd (HR.out true rfl);(go_wp2_with fail);go_ret2;exact HQ.out p mm w5 HW5.out (by rw [HR2.out];rfl)
          | false =>
            have HR2:=hHd (HR.out false rfl);(go_wp2_with fail);go_ret2;exact askQ_no (by rw [HR2.out];rfl) (by decide) HW5.out.ext
  · have hb : (ce != 0) = true := by rw [bne_iff_ne]; exact h0
    have HR:=hHd (HE1.out ce rfl h0);have HN:=hHd h0;clear h0 HE1 HE2 HE3 HPO HCK HF;(go_wp2_with fail);go_ret2;exact askQ_no HR.out HN.out X1
end Go.Proofs.YtegkdnfeceomdaaGreat
