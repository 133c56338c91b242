/- Bundled: what the texts GT GP GE say one after another. -/
import Derived.Test.YtegkdnfeceomdaaGreatKDX1
import Derived.Test.YtegkdnfeceomdaaGreatKDA11
import Derived.Test.YtegkdnfeceomdaaGreatKDA21
set_option maxRecDepth 100000
set_option maxHeartbeats 16000000
set_option linter.unusedSimpArgs false
set_option linter.unusedVariables false
namespace Go.Hs
open Go.RowKit
structure KTP (b1 b2 b3:Nat) (a1:Option Addr) (c1:Nat) (a2:Option Addr) (c2:Nat) (b:Bk) (day:Nat) (vo:Value) (out:List Int) (w:World):Prop where
 q0:w.cell? ⟨b1,0,none⟩=some (.int .i64 b.last)
 q1:w.cell? ⟨b1,1,none⟩=some (.int .i64 b.owners)
 q2:w.cell? ⟨b1,2,none⟩=some (.slice a1 b.pars.length c1)
 q3:w.cell? ⟨b1,3,none⟩=some (.slice a2 b.ents.length c2)
 d:w.cell? ⟨b2,0,none⟩=some (.int .i64 day)
 o:w.cell? ⟨b3,0,none⟩=some vo
 out:IntsV w vo out
 bk:BkV w (bkV a1 b.pars.length c1 a2 b.ents.length c2 b.last b.owners) b
theorem KTP.ext {b1 b2 b3:Nat} {a1:Option Addr} {c1:Nat} {a2:Option Addr} {c2:Nat} {b:Bk} {day:Nat} {vo:Value} {out:List Int} {w w':World} (h:KTP b1 b2 b3 a1 c1 a2 c2 b day vo out w) (x:Ext w w'):KTP b1 b2 b3 a1 c1 a2 c2 b day vo out w':=
 ⟨x.keep h.q0,x.keep h.q1,x.keep h.q2,x.keep h.q3,x.keep h.d,x.keep h.o,h.out.ext x,h.bk.ext x⟩
def ArgP (ts:List (PTr×Fds)) (i:Nat) (xs:Array Value) (w:World):Prop:=∃vd vs,∃h:i<ts.length,xs= #[.agg #[vd,vs],.agg (fdsL (ts[i]).2).toArray]∧IntsV w vd (ts[i]).1.days∧IntsV w vs (ts[i]).1.sown
structure TsP (L B bl n:Nat) (ar:Option Addr) (qr:Nat) (rs:List (Int×Int)) (w:World):Prop where
 y:w.cell? ⟨B,0,none⟩=some (.func (.yield L) #[] #[])
 nb:w.cell? ⟨B+1,0,none⟩=some (.int .i64 n)
 r:RngB bl ar qr rs w
theorem TsP.of {L B bl n:Nat} {ar:Option Addr} {qr:Nat} {rs:List (Int×Int)} {w w':World} (h:TsP L B bl n ar qr rs w) (k:∀b o v,(b=B∨b=B+1∨b=bl∨(0<rs.length∧ar=some ⟨b,0,none⟩))→w.cell? ⟨b,o,none⟩=some v→w'.cell? ⟨b,o,none⟩=some v):TsP L B bl n ar qr rs w':=
 ⟨k _ _ _ (.inl rfl) h.y, k _ _ _ (.inr (.inl rfl)) h.nb, k _ _ _ (.inr (.inr (.inl rfl))) h.r.1, fun i hi => by
  obtain⟨g,e,h1,h2⟩:=h.r.2 i hi;exact⟨g,e,k _ _ _ (.inr (.inr (.inr ⟨by omega,e⟩))) h1,k _ _ _ (.inr (.inr (.inr ⟨by omega,e⟩))) h2⟩⟩
theorem ext_belq {n:Nat} {a b:World} (h:Ext a b) (hn:n≤a.heap.size):BelQ (fun _=>False) (fun _=>True) n a b:=(below_toQ h inv_none (fun _ h=>h.elim)).mono hn
end Go.Hs
namespace Go.Proofs.YtegkdnfeceomdaaGreat
open Go.RowKit Go.Hs
attribute [local irreducible] World.setCell World.alloc
attribute [local go_sem] Oper.semAt_some
attribute [local simp] wide_fn wide_fn' wide_depth wide_round
attribute [local go_sem] wide_fn wide_fn' wide_depth wide_round
theorem run_slice_pre {g n q k:Nat} (h:k≤q):∀w,(Instr.slice 22 (.slice (some ⟨g,0,none⟩) n q) none (some (.int .i64 k)) none).run Tryz.prog w= .ok (.slice (some ⟨g,0,none⟩) k q) w:=by
 intro w
 have a1:(0:Int)≤(k:Int)∧(k:Int)≤(q:Int):=by omega
 simp [Instr.slice,Instr.sliceBounds,Instr.sliceBound,asIntOf,run_underlying Tryz.underlying22,h,Addr.add_lit]
theorem run_slice_suf {g n q k:Nat} (h0:k≤n) (h1:n≤q):∃X,((k<n→X=some ⟨g,k,none⟩)∧∃o,X=some ⟨g,o,none⟩)∧∀w,(Instr.slice 22 (.slice (some ⟨g,0,none⟩) n q) (some (.int .i64 k)) none none).run Tryz.prog w= .ok (.slice X (n - k) (q - k)) w:=by
 refine⟨if q=k then some ⟨g,0,none⟩ else some ⟨g,k,none⟩,⟨fun h=>if_neg (by omega),by split<;>exact⟨_,rfl⟩⟩,fun w=> ?_⟩
 have hz:=Tryz.sizeOf3;have a0:k≤q:=by omega
 by_cases hm:q=k
 ·subst hm; obtain rfl : n = q := by omega
  simp [Instr.slice,Instr.sliceBounds,Instr.sliceBound,asIntOf,run_underlying Tryz.underlying22,hz]
 ·simp [Instr.slice,Instr.sliceBounds,Instr.sliceBound,asIntOf,run_underlying Tryz.underlying22,h0,h1,hz,hm,Addr.add_lit]
theorem fn_truthsP:FnOK 175:=fun args w=>by simp [go_sem]
theorem lists_p (a:Option Addr) (n q:Nat) (w:World):
  Calls Tryz.prog 176 #[.slice a n q] w fun e w'=>e= .returned (.func (.func 182) #[] #[.pointer (some ⟨w.heap.size,0,none⟩)])∧w'=w.alloc (.cells #[.slice a n q] 222):=by
 go_enter Tryz.func176,Tryz.ntmps176
 (go_wp2_with fail);go_ret;exact⟨rfl,rfl⟩
theorem lists_gives (bl qr:Nat) (ar:Option Addr) (rs:List (Int×Int)) (hR:∀r∈rs,0≤r.1∧r.1≤r.2∧r.2≤1000) (hn:rs.length≤1000):
  GivesQ (fun _=>False) (fun _=>True) 182 #[.pointer (some ⟨bl,0,none⟩)] (allL rs).length (ArgG rs.length (allL rs)) (RngB bl ar qr rs):=(lists_givesUP bl qr ar rs hR hn).toQ (fun _ _ _ _ h=>h)
theorem truthsP_gives (b1 b2 b3:Nat) (a1:Option Addr) (c1:Nat) (a2:Option Addr) (c2:Nat) (b:Bk) (hb:BkS b) (day:Nat) (hday:(day:Int)≤b.last) (vo:Value) (out:List Int):
    GivesQ (fun _=>False) (fun _=>True) 175 #[.pointer (some ⟨b1,0,none⟩),.pointer (some ⟨b2,0,none⟩),.pointer (some ⟨b3,0,none⟩)] (truthsP b day out).length (ArgP (truthsP b day out)) (KTP b1 b2 b3 a1 c1 a2 c2 b day vo out):=by
  intro L J Jx W hq hK hJ hJx hY h0
  have K0:=hK 0 W h0;have HRN:=hHd (fun W' (hx:Ext W W')=>ranges_p b _ W' (K0.bk.ext hx));have hR:∀r∈rngsB b,0≤r.1∧r.1≤r.2∧r.2≤1000:=fun r hr=>by have:=rngs_ok hb r hr;omega
  have hel:=hb.ents;have hpl:=hb.pars;have hrl:(rngsB b).length≤b.ents.length+b.pars.length∧b.ents.length+b.pars.length≤(rngsB b).length:=by rw [rngsB_len b];exact⟨Nat.le_refl _,Nat.le_refl _⟩
  have HLG:=hHd (fun bl qr ar=>lists_gives bl qr ar (rngsB b) hR (by omega));have HK:=hHd hK;have HJ:=hHd hJ;have HJX:=hHd hJx;have HY:=hHd hY;have H0:=hHd h0;obtain⟨q0,q1,q2,q3,qd,qo,-,-⟩:=K0;have hb1:b1<W.heap.size:=lt_of_cell q0;have hb1':¬b1=W.heap.size:=by omega
  have HCNT:=hHd (cntF_all (tryP b day out) (allL (rngsB b)));clear hK hJ hJx hY h0 hR;rw [show (truthsP b day out).length=cntF (tryP b day out) (allL (rngsB b)) (allL (rngsB b)).length from HCNT.out.symm];unfold bkV at HRN;refine callsIn_of_wp_marks Tryz.func175 rfl trivial (wpIn_wide.2 ?_) rfl
  simp only [Tryz.ntmps175,List.size_toArray,List.length_cons,List.length_nil,Nat.reduceAdd,Nat.reduceSub,Array.replicate_succ,Array.replicate_zero,List.push_toArray,List.append_toArray,List.nil_append,List.cons_append];(go_wp2_with fail);(with_reducible refine(HRN.out _ EX).mono ?_);rintro e w1 ⟨ar,qr,rfl,hown,hx1⟩;(go_wp2_with fail);(with_reducible refine(lists_p _ _ _ _).mono ?_);rintro e w' ⟨rfl,rfl⟩
  have HG:Hid (∀g,0<(rngsB b).length→ar=some ⟨g,0,none⟩→W.heap.size+2≤g∧g<w1.heap.size):=hHd (fun g hp e=>by
    obtain⟨g',e',h1,h2,-⟩:=Hs.Own.at (C:=rngC) (k:=2) (fun _=>rfl) hown hp;rw [e'] at e;cases e;exact⟨by simpa using h1,h2⟩)
  have HT0:Hid (TsP L W.heap.size w1.heap.size b.ents.length ar qr (rngsB b) (w1.alloc (.cells #[.slice ar (rngsB b).length qr] 222))):=hHd (by
    have Y:Ext w1 (w1.alloc (.cells #[.slice ar (rngsB b).length qr] 222)):=EX;refine⟨(hx1.trans Y).keep (by simp [go_sem]),(hx1.trans Y).keep (by simp [go_sem]),by simp [go_sem],fun k hk=> ?_⟩
    obtain⟨g',e,-,-,h5⟩:=Hs.Own.at (C:=rngC) (k:=2) (fun _=>rfl) hown hk;exact⟨g',e,Y.keep (h5 0 _ rfl),Y.keep (h5 1 _ rfl)⟩)
  have X0:Ext W (w1.alloc (.cells #[.slice ar (rngsB b).length qr] 222)):=EX;have S0:(w1.alloc (.cells #[.slice ar (rngsB b).length qr] 222)).heap.size=w1.heap.size+1:=by simp
  have hz1:W.heap.size+2≤w1.heap.size:=by have:=hx1.size;simpa using this
  clear hown hx1 q0 q1 q2 q3 qd qo HRN;(go_wp2_with fail);generalize (w1.alloc (.cells #[.slice ar (rngsB b).length qr] 222))=W0 at*;have HS0:=hHd S0;have hS0:w1.heap.size+1≤W0.heap.size∧W0.heap.size≤w1.heap.size+1:=by omega
  clear S0
  have HB:Hid (∀bb,(bb=W.heap.size∨bb=W.heap.size+1∨bb=w1.heap.size∨(0<(rngsB b).length∧ar=some ⟨bb,0,none⟩))→W.heap.size≤bb∧bb<W0.heap.size):=hHd (fun bb h=>by
    rcases h with rfl|rfl|rfl|⟨h1,h2⟩
    · omega
    · omega
    · omega
    · have:=HG.out bb h1 h2;omega)
  refine each_wpQ (q:=fun _=>False) (I:=fun _=>True) (n:=(allL (rngsB b)).length) (Arg:=ArgG (rngsB b).length (allL (rngsB b))) (K:=RngB w1.heap.size ar qr (rngsB b)) (by rfl) fn_lists1P (fun i xs W' h=>by obtain⟨g,rfl,-⟩:=h;rfl) inv_none (fun _ h=>h.elim)
    (fun i W'=>J (cntF (tryP b day out) (allL (rngsB b)) i) W'∧TsP L W.heap.size w1.heap.size b.ents.length ar qr (rngsB b) W') (fun cd W'=>cd= .ret∧Jx W') (HLG.out _ _ _) (fun i W' h=>h.2.r)
    (fun i A' B' h hx=>⟨HJ.out _ A' B' h.1 (hx.mono (by omega)),h.2.of (fun bb o v hb hc=>hx.cell id (HB.out bb hb).2 hc)⟩)
    (fun cd A' B' h hx=>⟨h.1,HJX.out A' B' h.2 (hx.mono (by omega))⟩)
    ⟨HJ.out _ W W0 H0.out (ext_belq X0 (Nat.le_refl _)),HT0.out⟩ ?hround ?hdone ?hstop
  case hround=>
    intro i hi W1 xs hj harg hrec1 hs
    obtain⟨g,rfl,hi',hv⟩:=harg;obtain⟨r1,hr1⟩:=hrec1;simp only [Array.zip_eq_zipWith];(gi_wp2_with fail);refine⟨Kept.refl _ _,fun W2 hT hrec=> ?_⟩
    have BT:BelQ (fun _=>False) (fun _=>True) W0.heap.size W1 W2:=(below_toQ (hT.below (Nat.le_refl _)) inv_none (fun _ h=>h.elim)).mono (by omega);have hj2:=HJ.out _ _ _ hj.1 (BT.mono (by omega));have O2:=hj.2.of (fun bb o v hb hc=>BT.cell id (HB.out bb hb).2 hc);have V2:=ints_turned hv hr1 hT;have hz2:W1.heap.size≤W2.heap.size:=by rw [hT.size];exact Nat.le_refl _
    have K2:=HK.out _ W2 hj2;have HJ2:=hHd hj2;have HO2:=hHd O2;have HK2:=hHd K2;have hml:(allL (rngsB b))[i]∈allL (rngsB b):=List.getElem_mem hi;have HTK:=hHd (truP_ok hml);have HLEN:=hHd (mem_allL hml).1;have HBD:=hHd (allL_bd hb hml);have HNO:=hHd (cntF_no (f:=tryP b day out) hi);have HYES:=hHd (fun x=>cntF_yes (f:=tryP b day out) hi (x:=x));have hTP:Hid ((allL (rngsB b)).filterMap (tryP b day out)=truthsP b day out):=rfl;rw [hTP.out] at HYES;generalize (allL (rngsB b))[i]=l at*
    have HROW:Hid (∀j (h:j<l.length),W2.cell? ⟨g,j,none⟩=some (.int .i64 l[j])):=hHd (fun j h=>by
      obtain⟨a,c,e,-,-,h3⟩:=V2;obtain⟨rfl,-,-⟩:=Value.slice.inj e;obtain⟨g',o,e,h4,-⟩:=h3 j h;cases e
      simpa using h4)
    have hlen:=HLEN.out;have hs1:=run_slice_pre (g:=g) (n:=(rngsB b).length) (q:=(rngsB b).length) (k:=b.ents.length) (by omega);obtain⟨X,⟨hX,-⟩,hs2⟩:=run_slice_suf (g:=g) (n:=(rngsB b).length) (q:=(rngsB b).length) (k:=b.ents.length) (by omega) (Nat.le_refl _);rw [show (rngsB b).length - b.ents.length=b.pars.length by omega] at hs2
    have HV:Hid (∀W',Ext W2 W'→IntsV W' (.slice (some ⟨g,0,none⟩) b.ents.length (rngsB b).length) (truP b l).days∧IntsV W' (.slice X b.pars.length b.pars.length) (truP b l).sown):=hHd (fun W' hx=>by
      have hok:∀x∈l,i64ok x:=fun x hx=>by have:=HBD.out x hx;unfold i64ok;omega
      have h1:=slice_ints (w:=W') (g:=g) (n:=(rngsB b).length) (q:=(rngsB b).length) (lo:=0) (hi:=b.ents.length) (X:=some ⟨g,0,none⟩) hlen hok (by omega) (fun j h=>hx.keep (HROW.out j h)) (by omega) (by omega) (by omega) (fun _=>rfl);have h2:=slice_ints (w:=W') (g:=g) (n:=(rngsB b).length) (q:=b.pars.length) (lo:=b.ents.length) (hi:=(rngsB b).length) (X:=X) hlen hok (by omega) (fun j h=>hx.keep (HROW.out j h)) (by omega) (by omega) (by omega) (fun h=>hX h);rw [show (rngsB b).length - b.ents.length=b.pars.length by omega] at h2;rw [List.take_of_length_le (by simp;omega)] at h2;exact⟨by simpa [truP] using h1,h2⟩)
    have HTL:=hHd (show (truP b l).days.length=b.ents.length∧(truP b l).sown.length=b.pars.length from ⟨HTK.out.l1,HTK.out.l2⟩);have HTD:Hid (tryP b day out l=(playB b (truP b l).days (truP b l).sown day (outF out)).map (fun f=>(truP b l,f))):=rfl;have HPL:Hid (∀W',Ext W2 W'→Calls Tryz.prog 163 #[bkV a1 b.pars.length c1 a2 b.ents.length c2 b.last b.owners,.agg #[.slice (some ⟨g,0,none⟩) b.ents.length (rngsB b).length,.slice X b.pars.length b.pars.length],.int .i64 day,vo] W' fun e w'=>(∃g,e= .returned (.tuple #[.agg (fdsL g).toArray,.bool (playB b (truP b l).days (truP b l).sown day (outF out)).isSome])∧∀f,playB b (truP b l).days (truP b l).sown day (outF out)=some f→g=f)∧Ext W' w'):=hHd (fun W' hx=>play_p b hb a1 a2 c1 c2 _ _ vo _ _ out day W' (K2.bk.ext hx) (HV.out W' hx).1 (HV.out W' hx).2 (K2.out.ext hx) HTL.out.1 HTL.out.2 hday);obtain⟨pb,hpb⟩:∃pb,pb=playB b (truP b l).days (truP b l).sown day (outF out):=⟨_,rfl⟩;rw [←hpb] at HPL HTD;clear hpb;generalize truP b l=t at*;obtain⟨q0,q1,q2,q3,qd,qo,-,-⟩:=K2;have oy:=O2.y;have onb:=O2.nb;clear hj hj2 O2 V2 hv hml hT hr1 HT0 H0 X0 hX hlen HBD HLEN;unfold bkV at HPL;have HSX:Hid (∀w',Ext W2 w'→w'.cell? ⟨W.heap.size+1,0,none⟩=some (.int .i64 b.ents.length)∧Ext W2 w'):=hHd (fun w' hx=>⟨hx.keep onb,hx⟩);(gi_wp2_with fail);refine wpIn_round_held (S:=(fun w'=>w'.cell? ⟨W.heap.size+1,0,none⟩=some (.int .i64 b.ents.length)∧Ext W2 w')) (by kernel_rfl) (by kernel_rfl) ?_ (fun hHeld=> ?_)
    focus ((try dsimp only);(refine HSX.out _ ?_;exact EX))
    repeat' (first
      |((first|refine tk 0 (v:= ?_) (hi:=rfl) (hy:=Or.inl ⟨by rfl,?_⟩) (h:= ?_)|refine tk 1 (v:= ?_) (hi:=rfl) (hy:=Or.inl ⟨by rfl,?_⟩) (h:= ?_)|refine tk 2 (v:= ?_) (hi:=rfl) (hy:=Or.inl ⟨by rfl,?_⟩) (h:= ?_)|refine tk 3 (v:= ?_) (hi:=rfl) (hy:=Or.inl ⟨by rfl,?_⟩) (h:= ?_)|refine tk 4 (v:= ?_) (hi:=rfl) (hy:=Or.inl ⟨by rfl,?_⟩) (h:= ?_)|refine tk 5 (v:= ?_) (hi:=rfl) (hy:=Or.inl ⟨by rfl,?_⟩) (h:= ?_)|refine tk 6 (v:= ?_) (hi:=rfl) (hy:=Or.inl ⟨by rfl,?_⟩) (h:= ?_));rotate_left;(focus (intro w hSw;(try dsimp only at hSw);go_simp;try (first|(with_reducible rfl)|(with_reducible exact rfl))));(try simp only [Act.put,List.getElem_toArray,List.getElem_cons_succ,List.getElem_cons_zero,List.setIfInBounds_toArray,List.set_cons_zero,List.set_cons_succ]))
      |((first|refine rdy [7] ?_|refine rdy [8] ?_);(repeat (refine AllReadyH.cons rfl (fun K hK=> ?_) ?_;(focus (go_simp;refine hK.out _ _ ?_ (fun hNew=> ?_);(focus ((try dsimp only);(refine HSX.out _ ?_;exact EX)));clear hK K hHeld;have hHeld:=hNew;clear hNew;(try simp only [Act.put,List.getElem_toArray,List.getElem_cons_succ,List.getElem_cons_zero,List.setIfInBounds_toArray,List.set_cons_zero,List.set_cons_succ])));rotate_left));exact AllReadyH.nil)
      |(refine wpAnyH_done (by decide+kernel) (noOut_n ?_) _)
      |fail)
    have X3:Ext W2 ((W2.alloc (.cells #[.slice (some ⟨g,0,none⟩) b.ents.length (rngsB b).length,.slice X b.pars.length b.pars.length] 59)).drew):=EX;have t0:((W2.alloc (.cells #[.slice (some ⟨g,0,none⟩) b.ents.length (rngsB b).length,.slice X b.pars.length b.pars.length] 59)).drew).cell? ⟨W2.heap.size,0,none⟩=some (.slice (some ⟨g,0,none⟩) b.ents.length (rngsB b).length):=by simp [go_sem]
    have t1:((W2.alloc (.cells #[.slice (some ⟨g,0,none⟩) b.ents.length (rngsB b).length,.slice X b.pars.length b.pars.length] 59)).drew).cell? ⟨W2.heap.size,1,none⟩=some (.slice X b.pars.length b.pars.length):=by simp [go_sem]
    generalize ((W2.alloc (.cells #[.slice (some ⟨g,0,none⟩) b.ents.length (rngsB b).length,.slice X b.pars.length b.pars.length] 59)).drew)=W3 at*;replace q0:=X3.keep q0;replace q1:=X3.keep q1;replace q2:=X3.keep q2;replace q3:=X3.keep q3;replace qd:=X3.keep qd;replace qo:=X3.keep qo;clear hs1 hs2 HSX onb;(gi_wp2_with fail);(with_reducible refine(CallsIn.inRound _ (callsIn_wide.2 (HPL.out _ X3))).mono ?_);rintro e w5 ⟨⟨gf,rfl,hgf⟩,hx5⟩;replace t0:=hx5.keep t0;replace t1:=hx5.keep t1;have X5:=X3.trans hx5;clear q0 q1 q2 q3 qd qo HPL X3 hx5;obtain⟨W6,hst,hrow,x6,z6⟩:=fds_new gf w5;have X6:Ext W2 W6:=X5.trans x6;have HZ6:=hHd z6;replace t0:=x6.keep t0;replace t1:=x6.keep t1;replace oy:=X6.keep oy;clear x6 X5 z6;cases pb with
    | none =>
      have HN:Hid (cntF (tryP b day out) (allL (rngsB b)) (i+1)=cntF (tryP b day out) (allL (rngsB b)) i):=hHd (HNO.out (by rw [HTD.out];rfl));clear hrow t0 t1 oy;simp only [Option.isSome_none];(gi_wp2_with fail);exact⟨Kept.ext X6,by rw [HN.out];exact HJ.out _ _ _ HJ2.out (ext_belq X6 (by omega)),HO2.out.of (fun bb o v hb hc=>X6.keep hc)⟩
    | some f =>
      obtain rfl:=hgf f rfl;obtain⟨hc1,h2,he⟩:=HYES.out (t,gf) (by rw [HTD.out];rfl);have hj6:=HJ.out _ _ W6 HJ2.out (ext_belq X6 (by omega));have hy:=HY.out _ h2 W6 #[.agg #[.slice (some ⟨g,0,none⟩) b.ents.length (rngsB b).length,.slice X b.pars.length b.pars.length],.agg (fdsL gf).toArray] hj6 ⟨_,_,h2,by rw [he],by rw [he];exact(HV.out W6 X6).1,by rw [he];exact(HV.out W6 X6).2⟩ (by have:=X6.size;omega);have hlF:=load_fields w5.heap.size gf W6 hrow;have HE9:=hHd hc1;have HO9:=hHd (HO2.out.of (w':=W6) (fun bb o v hb hc=>X6.keep hc));have HK9:Hid (Kept W0.heap.size W2 W6):=hHd (Kept.ext X6);obtain⟨fn,tmps,assign,body,hy,hrd⟩:=hy;clear hc1 h2 he hj6 hgf HNO HYES HTD;simp only [Option.isSome_some];gi_wp2_with (first|refine step_loadIn (by rfl) 198 _ rfl _ _ rfl hlF ?_|((with_reducible refine(RoundIn.inR _ hrd).mono ?_);rintro e w9 ⟨hk2,⟨rfl,hI2⟩|⟨rfl,hI2⟩⟩))
      · (gi_wp2_with fail);exact⟨HK9.out.trans (hk2.mono (by omega)),by rw [HE9.out];exact hI2,HO9.out.of (fun bb o v hb hc=>hk2.cell (HB.out bb hb).1 hc)⟩
      · (gi_wp2_with fail);exact⟨HK9.out.trans (hk2.mono (by omega)),rfl,hI2⟩
  case hdone=>
    rintro W3 ⟨hj,-⟩ hd;(go_wp2_with fail);(try simp only [Exit.noGoto])
    refine⟨by simp,.inl ⟨_,_,rfl,run_takeDeferred hd,?_⟩⟩
    have BT:BelQ (fun _=>False) (fun _=>True) W.heap.size W3 (W3.putObj W0.heap.size (.deferred none)):=(below_toQ ((Turned.put W3 W0.heap.size (.deferred none)).below (Nat.le_refl _)) inv_none (fun _ h=>h.elim)).mono (by omega);exact⟨_,results_none rfl _ _ _,⟨_,rfl⟩,.inl (HJ.out _ _ _ hj BT)⟩
  case hstop=>
    rintro cd W3 ⟨rfl,hj⟩ hd;(go_wp2_with fail);(try rw [Exit.noGoto_ret])
    refine⟨by simp,.inl ⟨_,_,rfl,run_takeDeferred hd,?_⟩⟩
    have BT:BelQ (fun _=>False) (fun _=>True) W.heap.size W3 (W3.putObj W0.heap.size (.deferred none)):=(below_toQ ((Turned.put W3 W0.heap.size (.deferred none)).below (Nat.le_refl _)) inv_none (fun _ h=>h.elim)).mono (by omega);exact⟨_,results_none rfl _ _ _,⟨_,rfl⟩,.inr (HJX.out _ _ hj BT)⟩
end Go.Proofs.YtegkdnfeceomdaaGreat
namespace Go.Hs
open Go.RowKit
theorem KTP.of {b1 b2 b3:Nat} {a1:Option Addr} {c1:Nat} {a2:Option Addr} {c2:Nat} {b:Bk} {day:Nat} {vo:Value} {out:List Int} {w w':World} (hv:BkV w (bkV a1 b.pars.length c1 a2 b.ents.length c2 b.last b.owners) b) (ho:IntsV w vo out) (x:Ext w w')
  (h:(w'.cell? ⟨b1,0,none⟩=some (.int .i64 b.last)∧w'.cell? ⟨b1,1,none⟩=some (.int .i64 b.owners)∧w'.cell? ⟨b1,2,none⟩=some (.slice a1 b.pars.length c1)∧w'.cell? ⟨b1,3,none⟩=some (.slice a2 b.ents.length c2))∧w'.cell? ⟨b2,0,none⟩=some (.int .i64 day)∧w'.cell? ⟨b3,0,none⟩=some vo):KTP b1 b2 b3 a1 c1 a2 c2 b day vo out w':=
 ⟨h.1.1,h.1.2.1,h.1.2.2.1,h.1.2.2.2,h.2.1,h.2.2,ho.ext x,hv.ext x⟩
theorem BelQ.extF {n:Nat} {w a b:World} (h:BelQ (fun _=>False) (fun _=>True) n a b) (x:Ext w a) (hn:w.heap.size≤n):Ext w b:=h.toExt x hn (fun _ h=>h.elim)
def askPB (b:Bk) (p day:Int):Int:=if bookE b≠0 then bookE b else if numberB b p&&dayB b day then 0 else 2
end Go.Hs
namespace Go.Proofs.YtegkdnfeceomdaaGreat
open Go.RowKit Go.Hs
attribute [local irreducible] World.setCell World.alloc
attribute [local go_sem] Oper.semAt_some
attribute [local simp] wide_fn wide_fn' wide_depth wide_round
attribute [local go_sem] wide_fn wide_fn' wide_depth wide_round
theorem truthsF_p (a1:Option Addr) (n1 c1:Nat) (a2:Option Addr) (n2 c2:Nat) (la ow:Int) (day:Int) (ao:Option Addr) (no co:Nat) (w:World):
  Calls Tryz.prog 155 #[.agg #[.int .i64 la,.int .i64 ow,.slice a1 n1 c1,.slice a2 n2 c2],.int .i64 day,.slice ao no co] w fun e w'=>e= .returned (.func (.func 175) #[] #[.pointer (some ⟨w.heap.size,0,none⟩),.pointer (some ⟨w.heap.size+1,0,none⟩),.pointer (some ⟨w.heap.size+1+1,0,none⟩)])∧w'=((w.alloc (.cells #[.int .i64 la,.int .i64 ow,.slice a1 n1 c1,.slice a2 n2 c2] 52)).alloc (.cells #[.int .i64 day] 3)).alloc (.cells #[.slice ao no co] 22):=by
 go_enter Tryz.func155,Tryz.ntmps155
 (go_wp2_with fail);go_ret;exact⟨rfl,rfl⟩
theorem possible_p (b:Bk) (hb:BkS b) (v vo:Value) (out:List Int) (w:World) (hv:BkV w v b) (ho:IntsV w vo out):
  Calls Tryz.prog 156 #[v,vo] w fun e w'=>e= .returned (.bool (!(truthsP b 0 out).isEmpty))∧Ext w w':=by
 obtain⟨a1,c1,a2,c2,rfl,-⟩:=hv.open;have hl:=hb.last;have HGV:=hHd (fun b1 b2 b3=>truthsP_gives b1 b2 b3 a1 c1 a2 c2 b hb 0 (by omega) vo out);have HKT:=hHd (fun b1 b2 b3 W' (x:Ext w W') h=>KTP.of (b1:=b1) (b2:=b2) (b3:=b3) (day:=0) hv ho x h);obtain⟨ao,co,rfl,-⟩:=id ho;clear hv ho hl;unfold bkV at*;refine(callsIn_wide (n:=0)).1 (callsIn_of_wp_marks Tryz.func156 rfl trivial (wpIn_wide.2 ?_) rfl)
 simp only [Tryz.ntmps156,List.size_toArray,List.length_cons,List.length_nil,Nat.reduceAdd,Nat.reduceSub,Array.replicate_succ,Array.replicate_zero,List.push_toArray,List.append_toArray,List.nil_append,List.cons_append];(go_wp2_with fail);(with_reducible refine(truthsF_p _ _ _ _ _ _ _ _ _ _ _ _ _).mono ?_);rintro e w' ⟨rfl,rfl⟩;(go_wp2_with fail);obtain⟨W0,hW⟩:∃W,W=(((((w.alloc (.cells #[.int .i64 b.last,.int .i64 b.owners,.slice a1 b.pars.length c1,.slice a2 b.ents.length c2] 52)).alloc (.cells #[.bool false] 4)).alloc (.cells #[.int .i64 b.last,.int .i64 b.owners,.slice a1 b.pars.length c1,.slice a2 b.ents.length c2] 52)).alloc (.cells #[.int .i64 0] 3)).alloc (.cells #[.slice ao out.length co] 22)):=⟨_,rfl⟩;have X0:Ext w W0:=by subst hW;exact EX
 have HS:Hid (∀w',Ext W0 w'→(w'.cell? ⟨w.heap.size,0,none⟩=some (.int .i64 b.last)∧w'.cell? ⟨w.heap.size,1,none⟩=some (.int .i64 b.owners)∧w'.cell? ⟨w.heap.size,2,none⟩=some (.slice a1 b.pars.length c1)∧w'.cell? ⟨w.heap.size,3,none⟩=some (.slice a2 b.ents.length c2)∧w'.cell? ⟨w.heap.size+1,0,none⟩=some (.bool false)∧w'.cell? ⟨w.heap.size+1+1,0,none⟩=some (.int .i64 b.last)∧w'.cell? ⟨w.heap.size+1+1,1,none⟩=some (.int .i64 b.owners)∧w'.cell? ⟨w.heap.size+1+1,2,none⟩=some (.slice a1 b.pars.length c1)∧w'.cell? ⟨w.heap.size+1+1,3,none⟩=some (.slice a2 b.ents.length c2)∧w'.cell? ⟨w.heap.size+1+1+1,0,none⟩=some (.int .i64 0)∧w'.cell? ⟨w.heap.size+1+1+1+1,0,none⟩=some (.slice ao out.length co))∧Ext W0 w'):=hHd (fun w' hx=>⟨by subst hW;and_intros<;>exact hx.keep (by simp [go_sem]),hx⟩);have HSf:Hid (∀w',Ext W0 w'→∀o,w'.frozen? ⟨w.heap.size+1+1+1+1,o,none⟩=false):=hHd (fun w' hx o=>(hx.frozen (by subst hW;simp)).trans (by subst hW;simp [go_sem]));have HSz:w.heap.size+1+1+1+1+1≤W0.heap.size:=by subst hW;simp
 have HSe:Hid (W0.heap.size=w.heap.size+1+1+1+1+1):=hHd (by subst hW;simp);have HB1:Hid (∀w',Ext W0 w'→((∃v,w'.cell? ⟨w.heap.size+1,0,none⟩=some v))∧∀o,w'.frozen? ⟨w.heap.size+1,o,none⟩=false):=hHd (fun w' hx=>⟨⟨_,hx.keep (v:= .bool false) (by subst hW;simp [go_sem])⟩,fun o=>(hx.frozen (by subst hW;simp;try omega)).trans (by subst hW;simp [go_sem])⟩);rw [←hW];clear hW;have hz:=HSe.out;obtain⟨⟨-,-,-,-,r0,k0,k1,k2,k3,kd,ko⟩,-⟩:=HS.out W0 (Ext.refl _);have rf:=(HB1.out W0 (Ext.refl _)).2;have HZ:Hid (W0.heap.size=w.heap.size+5):=hHd (by rw [hz]);have hz0:w.heap.size+5≤W0.heap.size∧W0.heap.size≤w.heap.size+5:=by omega
 clear hz HS HB1 HSe HSf HSz
 have HB0:Hid (∀W',BelQ (fun _=>False) (fun _=>True) W0.heap.size W0 W'→Ext w W'∧KTP (w.heap.size+1+1) (w.heap.size+1+1+1) (w.heap.size+1+1+1+1) a1 c1 a2 c2 b 0 (.slice ao out.length co) out W'∧W'.cell? ⟨w.heap.size+1,0,none⟩=some (.bool false)∧∀o,W'.frozen? ⟨w.heap.size+1,o,none⟩=false):=hHd (fun W' h=>by
  have X:=h.extF X0 (by omega);exact⟨X,HKT.out _ _ _ W' X ⟨⟨h.cell id (by omega) k0,h.cell id (by omega) k1,h.cell id (by omega) k2,h.cell id (by omega) k3⟩,h.cell id (by omega) kd,h.cell id (by omega) ko⟩,h.cell id (by omega) r0,fun o=>(h.frozen id (by omega)).trans (rf o)⟩)
 clear k0 k1 k2 k3 kd ko r0 rf HKT
 refine each_wpQ (q:=fun _=>False) (I:=fun _=>True) (n:=(truthsP b 0 out).length) (Arg:=ArgP (truthsP b 0 out)) (K:=KTP (w.heap.size+1+1) (w.heap.size+1+1+1) (w.heap.size+1+1+1+1) a1 c1 a2 c2 b 0 (.slice ao out.length co) out) (by rfl) fn_truthsP (fun i xs W' h=>by obtain⟨vd,vs,h2,rfl,-⟩:=h;rfl) inv_none (fun _ h=>h.elim)
  (fun i W'=>i=0∧BelQ (fun _=>False) (fun _=>True) W0.heap.size W0 W')
  (fun cd W'=>cd= .ret∧(!(truthsP b 0 out).isEmpty)=true∧Ext w W'∧W'.cell? ⟨w.heap.size+1,0,none⟩=some (.bool true)) (HGV.out _ _ _) (fun i W' h=>(HB0.out W' h.2).2.1)
  (fun i A' B' h hx=>⟨h.1,h.2.trans hx⟩)
  (fun cd A' B' h hx=>⟨h.1,h.2.1,hx.extF h.2.2.1 (by omega),hx.cell id (by omega) h.2.2.2⟩)
  ⟨rfl,ext_belq (Ext.refl _) (Nat.le_refl _)⟩ ?hround ?hdone ?hstop
 case hround=>
  intro i hi W1 xs hj harg hrec1 hs
  obtain⟨vd,vs,h2,rfl,-⟩:=harg;obtain⟨rfl,hbq⟩:=hj;simp only [Array.zip_eq_zipWith];(gi_wp2_with fail);refine⟨Kept.refl _ _,fun W2 hT hrec=> ?_⟩
  have BA:BelQ (fun _=>False) (fun _=>True) W0.heap.size W0 W2:=hbq.trans ((below_toQ (hT.below (Nat.le_refl _)) inv_none (fun _ h=>h.elim)).mono (by omega));obtain⟨X2,-,q0,qf⟩:=HB0.out W2 BA
  have HNE:Hid ((!(truthsP b 0 out).isEmpty)=true):=hHd (by
   cases ht:truthsP b 0 out with
   |nil=>rw [ht] at hi;exact absurd hi (Nat.not_lt_zero _)
   |cons x y=>rfl)
  clear hbq hT BA;(gi_wp2_with fail);exact⟨⟨by rw [World.size_setCell];exact Nat.le_refl _,fun q hq1 hq2=>Below.heap_setCell _ _ _ _ (show q≠w.heap.size+1 by omega)⟩,rfl,HNE.out,X2.setCell (by omega) _,World.cell?_setCell_same _ _ _ q0⟩
 case hdone=>
  rintro W3 ⟨h0,hbq⟩ hd;have HM:Hid ((!(truthsP b 0 out).isEmpty)=false):=hHd (by rw [List.length_eq_zero_iff.1 h0];rfl);obtain⟨X3,-,q0,hfr⟩:=HB0.out W3 hbq;have BT:BelQ (fun _=>False) (fun _=>True) W0.heap.size W3 (W3.putObj W0.heap.size (.deferred none)):=below_toQ ((Turned.put W3 W0.heap.size (.deferred none)).below (Nat.le_refl _)) inv_none (fun _ h=>h.elim);obtain⟨XX,-,hc2,-⟩:=HB0.out _ (hbq.trans BT);have hXX:=hHd XX;have hlv:(loadVar 4 ⟨w.heap.size+1,0,none⟩).run Tryz.prog (W3.putObj W0.heap.size (.deferred none))= .ok (.bool false) (W3.putObj W0.heap.size (.deferred none)):=by simp [go_sem,hc2]
  have hsame:=setCell_same W3 _ _ q0;clear hbq BT h0 hc2 XX X3;(go_wp2_with fail);refine⟨by simp,.inl ⟨_,_,rfl,run_takeDeferred hd,?_⟩⟩
  exact⟨_,results_load rfl _ _ _ _ rfl hlv,congrArg (fun z=>Ending.returned (.bool z)) HM.out.symm,hXX.out⟩
 case hstop=>
  rintro cd W3 ⟨rfl,hne,X3,ci⟩ hd;have HM:=hHd hne;have BT:BelQ (fun _=>False) (fun _=>True) W0.heap.size W3 (W3.putObj W0.heap.size (.deferred none)):=below_toQ ((Turned.put W3 W0.heap.size (.deferred none)).below (Nat.le_refl _)) inv_none (fun _ h=>h.elim);have hXX:=hHd (BT.extF X3 (by omega));have hc2:(W3.putObj W0.heap.size (.deferred none)).cell? ⟨w.heap.size+1,0,none⟩=some (.bool true):=BT.cell id (by omega) ci;have hlv:(loadVar 4 ⟨w.heap.size+1,0,none⟩).run Tryz.prog (W3.putObj W0.heap.size (.deferred none))= .ok (.bool true) (W3.putObj W0.heap.size (.deferred none)):=by simp [go_sem,hc2]
  clear X3 BT hne hc2;(go_wp2_with fail);refine⟨by simp,.inl ⟨_,_,rfl,run_takeDeferred hd,?_⟩⟩
  exact⟨_,results_load rfl _ _ _ _ rfl hlv,congrArg (fun z=>Ending.returned (.bool z)) HM.out.symm,hXX.out⟩
theorem asked_p (b : Bk) (v : Value) (p day : Int) (w : World) (hv : BkV w v b) :
    Calls Tryz.prog 116 #[v,.int .i64 p,.int .i64 day] w fun e w'=>e= .returned (.int .i64 (askPB b p day))∧Ext w w':=by
  have HCK:=hHd (fun W (hx:Ext w W)=>check_p b v W (hv.ext hx));have HNM:=hHd (fun W (hx:Ext w W)=>number_p b v p W (hv.ext hx));have HDY:=hHd (fun W (hx:Ext w W)=>day_p b v day W (hv.ext hx));obtain⟨r,hr⟩:∃r,r=askPB b p day:=⟨_,rfl⟩;rw [←hr];have HR:Hid (r=if bookE b≠0 then bookE b else if numberB b p&&dayB b day then 0 else 2):=hHd hr;clear hr;obtain⟨a1,c1,a2,c2,rfl,-⟩:=hv.open;clear hv;unfold bkV at*;generalize bookE b=eb at*;generalize numberB b p=nb at*;generalize dayB b day=db at*;generalize b.pars.length=n1 at*;generalize b.ents.length=n2 at*;generalize b.last=last at*;generalize b.owners=owners at*;go_enter Tryz.func116,Tryz.ntmps116
  (go_wp2_with fail);obtain⟨W,hW⟩:∃W,W=(w.alloc (.cells #[.int .i64 last,.int .i64 owners,.slice a1 n1 c1,.slice a2 n2 c2] 52)):=⟨_,rfl⟩;have X:Ext w W:=by subst hW;exact EX
  have HS:Hid (∀w',Ext W w'→(w'.cell? ⟨w.heap.size,0,none⟩=some (.int .i64 last)∧w'.cell? ⟨w.heap.size,1,none⟩=some (.int .i64 owners)∧w'.cell? ⟨w.heap.size,2,none⟩=some (.slice a1 n1 c1)∧w'.cell? ⟨w.heap.size,3,none⟩=some (.slice a2 n2 c2))∧Ext W w'):=hHd (fun w' hx=>⟨by subst hW;and_intros<;>exact hx.keep (by simp [go_sem]),hx⟩);have HSf:Hid (∀w',Ext W w'→∀o,w'.frozen? ⟨w.heap.size,o,none⟩=false):=hHd (fun w' hx o=>(hx.frozen (by subst hW;simp)).trans (by subst hW;simp [go_sem]));have HSz:w.heap.size+1≤W.heap.size:=by subst hW;simp
  have HSe:Hid (W.heap.size=w.heap.size+1):=hHd (by subst hW;simp);rw [←hW];clear hW;(with_reducible refine(HCK.out _ X).mono ?_);rintro e w1 ⟨rfl,hx1⟩;obtain⟨⟨q0,q1,q2,q3⟩,-⟩:=HS.out w1 hx1;have X1:=X.trans hx1;by_cases h0:eb=0
  · subst h0; have HR2 : Hid (r = if (nb && db) = true then 0 else 2) := hHd (by rw [HR.out, if_neg (fun h => h rfl)]); clear HR; (go_wp2_with fail); (with_reducible refine (HNM.out _ X1).mono ?_); rintro e w2 ⟨rfl, hx2⟩; obtain ⟨⟨q0, q1, q2, q3⟩, -⟩ := HS.out w2 (hx1.trans hx2); have X2 := X1.trans hx2; cases nb with
    | false =>
      obtain rfl:r=2:=HR2.out;clear HR2 HDY HNM HCK;(go_wp2_with fail);go_ret;exact⟨rfl,X2⟩
    | true =>
      (go_wp2_with fail);(with_reducible refine(HDY.out _ X2).mono ?_);rintro e w3 ⟨rfl,hx3⟩;have X3:=X2.trans hx3;cases db with
      | false =>
        obtain rfl:r=2:=HR2.out;clear HR2 HDY HNM HCK;(go_wp2_with fail);go_ret;exact⟨rfl,X3⟩
      | true =>
        obtain rfl:r=0:=HR2.out;clear HR2 HDY HNM HCK;(go_wp2_with fail);go_ret;exact⟨rfl,X3⟩
  · have hb : (eb != 0) = true := by rw [bne_iff_ne]; exact h0
    obtain rfl:r=eb:=by rw [HR.out,if_pos h0]
    clear HR h0 HNM HDY HCK;(go_wp2_with fail);go_ret;exact⟨rfl,X1⟩
end Go.Proofs.YtegkdnfeceomdaaGreat
namespace Go.Hs
open Go.RowKit
def sameFds (f g:Fds):Bool:=(List.range 10).all (fun i=>decide (f i=g i))
end Go.Hs
namespace Go.Proofs.YtegkdnfeceomdaaGreat
open Go.RowKit Go.Hs
theorem fdVal_inj (x y:Hs.Fd) (h:fdVal x=fdVal y):x=y:=by
 obtain⟨a,b,c,d,e⟩:=x;obtain⟨a',b',c',d',e'⟩:=y;simp [fdVal] at h
 simp [h]
theorem eq_fd (n:Nat) (x y:Hs.Fd) (w:World):(Op.equalIn (n+2) 196 (fdVal x) (fdVal y)).run Tryz.prog w= .ok (decide (x=y)) w:=by
 obtain⟨a,b,c,d,e⟩:=x;obtain⟨a',b',c',d',e'⟩:=y;have u3:=Tryz.underlying4;have a3:=Tryz.isAgg4;have z3:=Tryz.sizeOf4;have u4:=Tryz.underlying3;have a4:=Tryz.isAgg3;have z4:=Tryz.sizeOf3;have hst:Tryz.prog.stoodInHeld 196=false:=by kernel_rfl
 unfold fdVal;rw [show n+2=(n+1)+1 from rfl,Op.equalIn];simp only [Sem.run_bind,run_underlying Tryz.underlying196,Result.andThen_ok];go_simp;(repeat' split)<;>simp_all
theorem part_fd (f:Fds) (i:Nat) (hi:i<10) (w:World):(part 196 (fdsL f).toArray (i*5)).run Tryz.prog w= .ok (fdVal (f i)) w:=by
 have ha:=Tryz.isAgg196;have hz:=Tryz.sizeOf196;rcases i with _|_|_|_|_|_|_|_|_|_|i
 all_goals first
  |omega
  |(simp [part,ha,hz];rfl)
theorem eqIn_fds (n:Nat) (f g:Fds) (w:World):(Op.equalIn (n+3) 198 (.agg (fdsL f).toArray) (.agg (fdsL g).toArray)).run Tryz.prog w= .ok (sameFds f g) w:=by
  have hz:∀w,(sizeOf 196).run Tryz.prog w= .ok 5 w:=fun w=>by have:=Tryz.sizeOf196;simp [this]
  rw [sameFds,List.range_eq_range',show n+3=(n+2)+1 from rfl,Op.equalIn];simp only [Sem.run_bind,run_underlying Tryz.underlying198,Result.andThen_ok,hz,Std.Legacy.Range.forIn_eq_forIn_range',Std.Legacy.Range.size,Nat.sub_zero,Nat.add_sub_cancel,Nat.div_one];have hl:∀i∈List.range' 0 10 1,i<10:=fun i hi=>by simpa using (List.mem_range'_1.1 hi).2
  generalize List.range' 0 10 1=l at hl⊢;induction l with
  |nil=>simp
  | cons i l ih =>
    have hi:i<10:=hl i (by simp);simp only [List.forIn_cons,Sem.run_bind,part_fd f i hi,part_fd g i hi,eq_fd n,Result.andThen_ok,List.all_cons];cases hb:decide (f i=g i)
    · simp
    · simp only [Bool.not_true,Bool.false_eq_true,if_false,Sem.run_pure,Result.andThen_ok,Bool.true_and];exact ih fun j hj=>hl j (by simp [hj])
theorem neq_fds (f g:Fds) (w:World):(binOp .neq 198 (.agg (fdsL f).toArray) (.agg (fdsL g).toArray)).run Tryz.prog w= .ok (.bool (!sameFds f g)) w:=by
 rw [run_neq_struct,show (10000:Nat)=9997+3 from rfl,eqIn_fds 9997 f g w];rfl
theorem eql_fds (f g:Fds) (w:World):(binOp .eql 198 (.agg (fdsL f).toArray) (.agg (fdsL g).toArray)).run Tryz.prog w= .ok (.bool (sameFds f g)) w:=by
 rw [run_eql_struct,show (10000:Nat)=9997+3 from rfl,eqIn_fds 9997 f g w];rfl
theorem check_fd (em:Bool) (x:Hs.Fd) (w:World):(Instr.checkKey em 10000 196 (fdVal x)).run Tryz.prog w= .ok () w:=by
 have:∀n,(Instr.checkKey em (n+3) 196 (fdVal x)).run Tryz.prog w= .ok () w:=by
  intro n
  simp [Instr.checkKey,go_sem,Std.Legacy.Range.forIn_eq_forIn_range',Std.Legacy.Range.size,List.range'_succ]
 exact this 9997
theorem kFd:KeyT Tryz.prog 196 fdVal:=by
 refine⟨fun a b w=>⟨decide (a=b),?_,by simp⟩,fun a w=>check_fd _ a w,⟨_,Tryz.underlying196⟩,fun a=> ?_⟩
 ·show (Op.equalIn (9998 + 2) _ _ _).run _ _ = _
  exact eq_fd 9998 a b w
 ·have : ∀ n, Instr.sameBits (n + 2) (fdVal a) (fdVal a) = true := by intro n; simp [Instr.sameBits, fdVal]
  exact this 9998
end Go.Proofs.YtegkdnfeceomdaaGreat
