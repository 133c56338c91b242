/- Bundled: what the texts HU WA WC WD say one after another. -/
import Derived.Test.YtegkdnfeceomdaaGreatKDC5
import Derived.Test.YtegkdnfeceomdaaGreatKDA4
import Derived.Test.YtegkdnfeceomdaaGreatKDA23
import Derived.Test.YtegkdnfeceomdaaGreatKDA24
import Derived.Test.YtegkdnfeceomdaaGreatKDC3
set_option maxRecDepth 100000
set_option maxHeartbeats 16000000
set_option linter.unusedSimpArgs false
set_option linter.unusedVariables false
namespace Go.Hs
open Go.RowKit Go.Proofs.YtegkdnfeceomdaaGreat
def isTruD (c:DCas) (t:DTr):Bool:=match damD c t with|none=>false|some d=>goodD c [] d
def goodTo (c:DCas) (d:Dmg) (k:Nat):Bool:=(c.clms.take k).all (fun x=>rightD x d)
theorem goodTo_next {c:DCas} {d:Dmg} {k:Nat} (h:k<c.clms.length):goodTo c d (k+1)=(goodTo c d k&&rightD c.clms[k] d):=by
 unfold goodTo;rw [List.take_succ_eq_append_getElem h,List.all_append];simp
theorem goodTo_all (c:DCas) (d:Dmg):goodTo c d c.clms.length=goodD c [] d:=by
 unfold goodTo;rw [List.take_length,goodD_nil]
theorem goodTo_false {c:DCas} {d:Dmg} {k:Nat} (h:goodTo c d k=false):goodD c [] d=false:=by
 rw [goodD_nil];unfold goodTo at h;rw [List.all_eq_false] at h⊢;obtain⟨x,hx,e⟩:=h;exact⟨x,List.mem_of_mem_take hx,e⟩
theorem payL_get {d:Dmg} {n k:Nat} (hk:k<n) (h3:n≤3):(payL d n).getD k 0=payD d k:=by
 unfold payL payD;rcases k with _|_|_|k
 ·rcases n with _ | n
  ·omega
  ·simp
 ·rcases n with _ | _ | n
  ·omega
  ·omega
  ·simp
 ·rcases n with _ | _ | _ | n
  ·omega
  ·omega
  ·omega
  ·simp
 ·omega
def inTo (l:List Int) (rs:List (Int×Int)) (k:Nat):Bool:=(List.range k).all (fun i=>inR (l.getD i 0) (rs.getD i default).1 (rs.getD i default).2)
theorem inTo_next (l:List Int) (rs:List (Int×Int)) (k:Nat):inTo l rs (k+1)=(inTo l rs k&&inR (l.getD k 0) (rs.getD k default).1 (rs.getD k default).2):=by
 unfold inTo;rw [List.range_succ,List.all_append];simp
theorem inTo_false {l:List Int} {rs:List (Int×Int)} {k n:Nat} (hk:k<n) (h:inR (l.getD k 0) (rs.getD k default).1 (rs.getD k default).2=false):inTo l rs n=false:=by
 unfold inTo;rw [List.all_eq_false];exact⟨k,List.mem_range.2 hk,by rw [h];decide⟩
theorem entR_get {b:Bk} {i:Nat} (h:i<b.ents.length):(entR b).getD i default=(b.ents[i].dlo,b.ents[i].dhi):=by simp [entR,h]
theorem parR_get {b:Bk} {i:Nat} (h:i<b.pars.length):(parR b).getD i default=(b.pars[i].slo,b.pars[i].shi):=by simp [parR,h]
theorem covR_get {c:DCas} {i:Nat} (h:i<c.covs.length):(covR c).getD i default=(c.covs[i].slo,c.covs[i].shi):=by simp [covR,h]
theorem inTo_congr {l:List Int} {rs:List (Int×Int)} {p:Nat→Int×Int} {n:Nat} (h:∀i,i<n→rs.getD i default=p i):inTo l rs n=(List.range n).all (fun i=>inR (l.getD i 0) (p i).1 (p i).2):=by
 unfold inTo;rw [Bool.eq_iff_iff,List.all_eq_true,List.all_eq_true];constructor<;>intro hh i hi<;>have:=hh i hi<;>have e:=h i (List.mem_range.1 hi)
 ·rw [e] at this;exact this
 ·rw [e];exact this
theorem listedH_eq (b:Bk) (days sown:List Int):listedK b days sown=(decide (days.length=b.ents.length)&&(decide (sown.length=b.pars.length)&&(inTo days (entR b) b.ents.length&&inTo sown (parR b) b.pars.length))):=by
 unfold listedK;rw [inTo_congr (rs:=entR b) (p:=fun i=>((b.ents.getD i default).dlo,(b.ents.getD i default).dhi)) (fun i hi=>by rw [entR_get hi];simp [hi]),inTo_congr (rs:=parR b) (p:=fun i=>((b.pars.getD i default).slo,(b.pars.getD i default).shi)) (fun i hi=>by rw [parR_get hi];simp [hi])]
def listedR (c:DCas) (t:DTr):Bool:=listedK c.bk t.days t.sown&&(decide (t.starts.length=c.covs.length)&&(inR t.loss c.llo c.lhi&&inTo t.starts (covR c) c.covs.length))
theorem inTo_iff {l:List Int} {rs:List (Int×Int)} (hl:l.length=rs.length):inTo l rs rs.length=true↔InL rs l:=by
 unfold inTo InL;rw [List.all_eq_true];constructor
 ·intro h
  refine⟨hl,fun i hi=> ?_⟩
  have:=h i (List.mem_range.2 hi);rw [inR_iff] at this;simpa [hi] using this
 ·rintro ⟨-,h⟩ i hi;have hi:=List.mem_range.1 hi;rw [inR_iff];simpa [hi] using h i hi
theorem listedR_eq (c:DCas) (t:DTr):listedR c t=listedD c t:=by
 rw [Bool.eq_iff_iff,listedD_iff];unfold listedR;rw [listedH_eq];simp only [Bool.and_eq_true,decide_eq_true_eq,inR_iff];constructor
 ·rintro ⟨⟨h1,h2,h3,h4⟩,h5,h6,h7⟩;exact⟨(inTo_iff (by simpa [entR] using h1)).1 (by simpa [entR] using h3),(inTo_iff (by simpa [parR] using h2)).1 (by simpa [parR] using h4),(inTo_iff (by simpa [covR] using h5)).1 (by simpa [covR] using h7),h6⟩
 ·rintro ⟨h1, h2, h3, h4⟩; have e1 : t.days.length = c.bk.ents.length := by simpa [entR] using h1.1
  have e2:t.sown.length=c.bk.pars.length:=by simpa [parR] using h2.1
  have e3:t.starts.length=c.covs.length:=by simpa [covR] using h3.1
  exact⟨⟨e1,e2,by simpa [entR] using (inTo_iff h1.1).2 h1,by simpa [parR] using (inTo_iff h2.1).2 h2⟩,e3,h4,by simpa [covR] using (inTo_iff h3.1).2 h3⟩
end Go.Hs
namespace Go.Proofs.YtegkdnfeceomdaaGreat
open Go.RowKit Go.Hs
attribute [local irreducible] World.setCell World.alloc
theorem IsTruth_h (A : CaseA) (c : DCas) (t : DTr) (vd vs vst : Value) (w : World) (hm : CaseM w A c) (hc : caseD c = 0) (ht : TruOK c t) (h1 : IntsV w vd t.days) (h2 : IntsV w vs t.sown) (h3 : IntsV w vst t.starts) :
    Calls Tryz.prog 31 #[A.v c,.agg #[vd,vs,vst,.int .i64 t.loss]] w fun e w'=>e= .returned (.bool (isTruD c t))∧Ext w w':=by
  have hS:=(caseD_zero hc).2.1;have hsoc:=hS.soc;have HPA:=hHd (fun W (hx:Ext w W)=>Pays_h A c t vd vs vst W (hm.ext hx) hc ht (h1.ext hx) (h2.ext hx) (h3.ext hx));have HCM:=hHd (fun W (hx:Ext w W)=>Cells3.ext hx hm.clms);have HCL:=hHd (fun x hx=>hS.clm x hx);have hnm:=hS.nm;have HIN:=hHd In_h;obtain⟨a1,c1,a2,c2,a3,c3,a4,c4⟩:=A;unfold CaseA.v caseV at*;simp only at*;clear hm hc ht h1 h2 h3 hS;go_enter Tryz.func31,Tryz.ntmps31
  (go_wp2_with fail);obtain⟨W,hW,X,HS,HSf,HSz⟩:=bx11_4 w 41 (.int .i64 c.bk.last) (.int .i64 c.bk.owners) (.slice a1 c.bk.pars.length c1) (.slice a2 c.bk.ents.length c2) (.int .i64 c.soc) (.int .i64 c.day) (.int .i64 c.parcel) (.slice a3 c.covs.length c3) (.int .i64 c.llo) (.int .i64 c.lhi) (.slice a4 c.clms.length c4) 45 (vd) (vs) (vst) (.int .i64 t.loss);rw [hW];clear hW;(with_reducible refine(HPA.out _ X).mono ?_);rintro e w1 ⟨v1,v2,hno,hyes,hx1⟩;clear HPA;have XX:=X.trans hx1;obtain⟨⟨-,-,-,-,-,-,-,-,-,-,q10,-,-,-,-⟩,-⟩:=HS.out w1 hx1;cases hd:damD c t with
  | none =>
    obtain⟨rfl,hi⟩:=hno hd;have HE:Hid (isTruD c t=false):=hHd (by unfold isTruD;rw [hd]);clear hno hyes hd hi;(go_wp2_with fail);go_loopw [8,9] (fun s8 s9 wr=>s8= .bool false∧s9= .int .i64 0∧Ext w1 wr) (fun _ _ _=>0)
    case atStart=>exact⟨rfl,rfl,Ext.refl _⟩
    case round=>
      obtain⟨rfl,rfl,hx⟩:=hrel;obtain⟨wo,rfl⟩:∃x,x=wr:=⟨_,rfl⟩;replace q10:=hx.keep q10;have XW:=XX.trans hx;by_cases h0:c.clms.length=0
      · have hl1:decide ((0:Int)<(c.clms.length:Int))=false:=decide_eq_false (by omega);have hl2:decide (0<c.clms.length)=false:=decide_eq_false (by omega);clear h0;(go_wp2_with fail);go_ret;exact⟨ret_bool HE.out.symm,XW⟩
      · have hl1:decide ((0:Int)<(c.clms.length:Int))=true:=decide_eq_true (by omega);have hl2:decide (0<c.clms.length)=true:=decide_eq_true (by omega);clear h0;(go_wp2_with fail);go_ret;exact⟨ret_bool HE.out.symm,XW⟩
  | some d =>
    obtain⟨rfl,hi1,-⟩:=hyes d hd;have HE:Hid (isTruD c t=goodD c [] d):=hHd (by unfold isTruD;rw [hd]);clear hno hyes hd
    have HPY:Hid (∀W,Ext w1 W→∀i,i<c.soc.toNat→∃p q b' off,v1= .slice p c.soc.toNat q∧p=some ⟨b',off,none⟩∧W.cell? ⟨b',off+i,none⟩=some (.int .i64 (payD d i))):=hHd (fun W hx i hi=>by
      obtain⟨p,q,e,-,hc⟩:=IntsV.cellsI (hi1.ext hx);have hln:(payL d c.soc.toNat).length=c.soc.toNat:=by simp [payL];omega
      rw [hln] at e hc;obtain⟨b',o,e2,k⟩:=hc i hi;rw [payL_get hi (by omega)] at k;exact⟨p,q,b',o,e,e2,k⟩)
    have HNX:=hHd (fun k h=>goodTo_next (c:=c) (d:=d) (k:=k) h);have HAL:=hHd (goodTo_all c d);have HFA:=hHd (fun k h=>goodTo_false (c:=c) (d:=d) (k:=k) h);have H0:Hid (goodTo c d 0=true):=hHd (by simp [goodTo]);obtain⟨p,q,b0,o0,rfl,rfl,-⟩:=HPY.out w1 (Ext.refl _) 0 (by omega);clear hi1;generalize hns:c.soc.toNat=ns at*;have HNS:=hHd hns;clear hns;(go_wp2_with fail);go_loopw [8,9] (fun s8 s9 wr=>∃k:Nat,k≤c.clms.length∧s9= .int .i64 k∧s8= .bool (goodTo c d k)∧Ext w1 wr) (fun _ s _=>c.clms.length - (intOf s).toNat)
    case atStart=>exact⟨0,Nat.zero_le _,rfl,by rw [H0.out],Ext.refl _⟩
    case round =>
      obtain⟨k,hk,rfl,rfl,hx⟩:=hrel;obtain⟨wo,rfl⟩:∃x,x=wr:=⟨_,rfl⟩;replace q10:=hx.keep q10;have XW:=XX.trans hx;cases hg:goodTo c d k with
      | false =>
        have HE2:Hid (isTruD c t=false):=hHd (by rw [HE.out];exact HFA.out k hg);by_cases hlt:k<c.clms.length
        · have hl1:decide ((k:Int)<(c.clms.length:Int))=true:=decide_eq_true (by omega);(go_wp2_with fail);go_ret;exact⟨ret_bool HE2.out.symm,XW⟩
        · have hl1:decide ((k:Int)<(c.clms.length:Int))=false:=decide_eq_false (by omega);(go_wp2_with fail);go_ret;exact⟨ret_bool HE2.out.symm,XW⟩
      | true =>
        by_cases hlt:k<c.clms.length
        · skip
          obtain⟨b',off,rfl,hce⟩:=HCM.out wo XW k (by simpa using hlt);have e1:(c.clms.map Clm.c)[k]'(by simpa using hlt)=(c.clms[k]).c:=by simp
          rw [e1] at hce;have HNK:Hid (goodTo c d (k+1)=rightD c.clms[k] d):=hHd (by rw [HNX.out k hlt,hg];rfl);have hkb:=HCL.out _ (List.getElem_mem hlt);simp only [clmB,socB,Bool.and_eq_true,inR_iff] at hkb;have HRD:Hid (rightD c.clms[k] d=inR (payD d c.clms[k].soc) c.clms[k].plo c.clms[k].phi):=rfl;generalize c.clms[k]=x at*;obtain⟨xs,xl,xh⟩:=x;obtain⟨m0,m1,m2⟩:=hce;simp only [Clm.c] at m0 m1 m2 hkb HRD HNK;obtain⟨sn,hsn⟩:∃sn:Nat,xs=(sn:Int):=⟨xs.toNat,by omega⟩;subst hsn;have hs1:sn<ns:=by have:=HNS.out;omega
          have g0:(0:Int)≤(sn:Int):=by omega
          have g1:(sn:Int)<(ns:Int):=by omega
          have hk0:(0:Int)≤(k:Int):=by omega
          have hk1:(k:Int)<(c.clms.length:Int):=by omega
          have HPC:Hid (∀W,Ext w1 W→W.cell? ⟨b0,o0+sn,none⟩=some (.int .i64 (payD d sn))):=hHd (fun W hx=>by
            obtain⟨p,q,b',o,e,e2,h⟩:=HPY.out W hx sn hs1;simp only [Value.slice.injEq] at e;rw [e2] at e;cases e.1
            exact h)
          generalize payD d sn=pv at*;generalize rightD _ d=rb at*;have HI:=hHd (HIN.out pv xl xh);rw [←HRD.out] at HI;clear e1 hg HRD;go_upto_region 6 with fail
          obtain⟨W3,hW3⟩:∃W,W=(wo.alloc (.cells #[.int .i64 sn,.int .i64 xl,.int .i64 xh] 103)):=⟨_,rfl⟩;have X3:Ext wo W3:=by subst hW3;exact(Ext.refl wo).alloc _
          have HK3:Hid (∀V,Ext W3 V→(V.cell? ⟨wo.heap.size,0,none⟩=some (.int .i64 sn)∧V.cell? ⟨wo.heap.size,1,none⟩=some (.int .i64 xl)∧V.cell? ⟨wo.heap.size,2,none⟩=some (.int .i64 xh))∧V.cell? ⟨b0,o0+sn,none⟩=some (.int .i64 pv)):=hHd (fun V h=>by
            have h2:=HPC.out V ((hx.trans X3).trans h);subst hW3;exact⟨⟨h.keep (by simp [go_sem]),h.keep (by simp [go_sem]),h.keep (by simp [go_sem])⟩,h2⟩)
          rw [←hW3];clear hW3 m0 m1 m2;refine wp_region_quiet (C:=Ext W3) (by kernel_rfl) (by kernel_rfl) (Ext.drew EX) ?_
          rw [tl]
          repeat (first
            |go_big_quiet_skip
            | (go_big_quiet_want
               first
                |(go_big_quiet_op;go_big_quiet_on)
                | (apply Exists.intro
                   refine⟨fun w' hxw=> ?_,?_⟩
                   focus (obtain⟨⟨k0,k1,k2⟩,mm⟩:=HK3.out w' hxw;go_simp;first|exact rfl|(go_at_call 21;with_reducible refine(HI.out w').mono ?_;exact fun e w'' h=>⟨h.1,hxw.trans h.2⟩))
                   simp only [Act.put,List.setIfInBounds_toArray,List.set_cons_zero,List.set_cons_succ];go_big_quiet_on)))
          refine wpQuiet_nil ?_
          intro w2 hx2
          (go_wp2_with fail);go_roundw
          case rel=>exact⟨k+1,by omega,by go_num,by rw [HNK.out],(hx.trans X3).trans hx2⟩
          case measure=>simp [intOf];omega
        · obtain rfl : k = c.clms.length := by omega
          have HE2:Hid (isTruD c t=true):=hHd (by rw [HE.out,←HAL.out,hg]);clear hg hlt;(go_wp2_with fail);go_ret;exact⟨ret_bool HE2.out.symm,XW⟩
end Go.Proofs.YtegkdnfeceomdaaGreat
namespace Go.Hs
open Go.RowKit Go.Proofs.YtegkdnfeceomdaaGreat
def rightsD (c:DCas) (d:Dmg):List Bool:=c.clms.map (fun x=>rightD x d)
def bitsD (c:DCas) (t:DTr):Int:=match damD c t with
 |none=> -1
 |some d=>(maskOf (rightsD c d):Nat)
def allD (c:DCas):List Int:=(List.range (manyC c).toNat).map (fun n:Nat=>bitsD c (nthT c n))
theorem pow_le32 {n:Nat} (h:n≤5):2 ^ n≤32:=by
 rcases n with _|_|_|_|_|_|n
 all_goals first|decide|omega
theorem rights_get {c:DCas} {d:Dmg} {i:Nat} (h:i<c.clms.length):(rightsD c d).getD i false=rightD (c.clms.getD i default) d:=by
 simp [rightsD,h]
theorem mask_iff {c:DCas} (hn:c.clms.length≤5) (d:Dmg) {m:Nat} (hm:m<32):(bits BinOp.and IntKind.i64 ((maskOf (rightsD c d):Nat):Int) (m:Int)==(m:Int))=true↔∀i,i<5→bitB m i=true→(rightsD c d).getD i false=true:=by
 have hl:maskOf (rightsD c d)<32:=Nat.lt_of_lt_of_le (maskOf_lt _) (by
  have:(rightsD c d).length=c.clms.length:=by simp [rightsD]
  rw [this];exact pow_le32 hn)
 rw [and_mask _ hl m hm,List.all_eq_true];constructor
 ·intro h i hi hb
  have:=h i (List.mem_range.2 hi);rw [hb,maskOf_bit] at this;simpa using this
 ·intro h i hi
  rw [maskOf_bit];cases hb:bitB m i with
  |false=>rfl
  |true=>rw [h i (List.mem_range.1 hi) hb];rfl
theorem can_iff {c:DCas} (h:caseD c=0) {m:Nat} (hm:m<32):canB (allD c) (m:Int)=true↔∃t d,listedD c t=true∧damD c t=some d∧∀i,i<5→bitB m i=true→(rightsD c d).getD i false=true:=by
  have hn:=(caseD_zero h).2.1.nm;unfold canB allD;rw [List.any_eq_true];constructor
  · rintro ⟨x, hx, hp⟩; obtain ⟨n, hn', rfl⟩ := List.mem_map.1 hx; unfold bitsD at hp; cases hd : damD c (nthT c n) with
    |none=>rw [hd] at hp;simp at hp
    | some d =>
      rw [hd] at hp;simp only [Bool.and_eq_true,decide_eq_true_eq] at hp;exact⟨_,d,nthT_listed h,hd,(mask_iff hn d hm).1 hp.2⟩
  · rintro ⟨t, d, ht, hd, hr⟩; obtain ⟨n, hn', rfl⟩ := nthT_of h ht; refine ⟨bitsD c (nthT c n), List.mem_map.2 ⟨n, List.mem_range.2 (by omega), rfl⟩, ?_⟩
    unfold bitsD;rw [hd];simp only [Bool.and_eq_true,decide_eq_true_eq];exact⟨by omega,(mask_iff hn d hm).2 hr⟩
theorem good_iff {c:DCas} {out:List Int} {d:Dmg} :goodD c out d=true↔∀i,i<c.clms.length→¬(i:Int)∈out→(rightsD c d).getD i false=true:=by
 unfold goodD;rw [List.all_eq_true];constructor
 ·intro h i hi ho
  have:=h i (List.mem_range.2 hi);rw [rights_get hi];simpa [ho] using this
 ·intro h i hi
  have hi':=List.mem_range.1 hi;by_cases ho:(i:Int)∈out
  ·simp [ho]
  ·rw [Bool.or_eq_true];exact .inr (by rw [←rights_get hi'];exact h i hi' ho)
theorem truthsNe {c:DCas} {out:List Int} :(!(truthsD c out).isEmpty)=true↔∃t d,listedD c t=true∧damD c t=some d∧goodD c out d=true:=by
 rw [Bool.not_eq_true',List.isEmpty_eq_false_iff_exists_mem];constructor
 ·rintro ⟨x,hx⟩;obtain⟨h1,h2,h3⟩:=mem_truthsD.1 hx;exact⟨_,_,h1,h2,h3⟩
 ·rintro ⟨t,d,h1,h2,h3⟩;exact⟨(t,d),mem_truthsD.2 ⟨h1,h2,h3⟩⟩
theorem can_truths {c:DCas} (h:caseD c=0) {m:Nat} (hm:m<32) {out:List Int} (ho:∀i,i<5→(bitB m i=true↔i<c.clms.length∧¬(i:Int)∈out)):canB (allD c) (m:Int)= !(truthsD c out).isEmpty:=by
 have hn:=(caseD_zero h).2.1.nm;rw [Bool.eq_iff_iff,can_iff h hm,truthsNe];constructor
 ·rintro ⟨t,d,h1,h2,h3⟩;exact⟨t,d,h1,h2,good_iff.2 (fun i hi hx=>h3 i (by omega) ((ho i (by omega)).2 ⟨hi,hx⟩))⟩
 ·rintro ⟨t,d,h1,h2,h3⟩;exact⟨t,d,h1,h2,fun i hi hb=>good_iff.1 h3 i ((ho i hi).1 hb).1 ((ho i hi).1 hb).2⟩
theorem mem_everyI {n:Nat} {i:Nat} :(i:Int)∈everyI n↔i<n:=by
 unfold everyI;rw [List.mem_map];constructor
 ·rintro ⟨j,hj,e⟩;have:=List.mem_range.1 hj;omega
 ·intro h;exact⟨i,List.mem_range.2 h,rfl⟩
theorem can_zero {c:DCas} (h:caseD c=0):canB (allD c) 0= !(truthsD c (everyI c.clms.length)).isEmpty:=by
 refine can_truths (m:=0) h (by decide) (fun i _=> ?_)
 rw [mem_everyI];simp [bitB]
theorem full_bit {n i:Nat} (hn:n≤5) (hi:i<5):bitB (2 ^ n - 1) i=decide (i<n):=
 (by decide+kernel:∀n,n<6→∀i,i<5→bitB (2 ^ n - 1) i=decide (i<n)) n (by omega) i hi
theorem full_cast {n:Nat} :((2 ^ n - 1:Nat):Int)=2 ^ n - 1:=by
 have:1≤2 ^ n:=Nat.one_le_two_pow;push_cast [Int.natCast_sub this]
 rfl
theorem full_lt {n:Nat} (hn:n≤5):2 ^ n - 1<32:=by have:=pow_le32 hn;have:1≤2 ^ n:=Nat.one_le_two_pow;omega
theorem can_full {c:DCas} (h:caseD c=0):canB (allD c) (2 ^ c.clms.length - 1)= !(truthsD c []).isEmpty:=by
 have hn:=(caseD_zero h).2.1.nm;rw [←full_cast];refine can_truths h (full_lt hn) (fun i hi=> ?_)
 rw [full_bit hn hi];simp
theorem bndE_sure {c:DCas} (h:caseD c=0):bndE c=if canB (allD c) 0 then (if canB (allD c) (2 ^ c.clms.length - 1) then 0 else 11) else 9:=by
 rw [can_zero h,can_full h];unfold bndE askD;simp only [h,ne_eq,not_true_eq_false,if_false];cases (truthsD c (everyI c.clms.length)).isEmpty<;>cases (truthsD c []).isEmpty<;>simp
theorem takeC_sumsD (c:DCas) (k:Nat) (x:Fd) (st:List Int) (j:Int):∀n,sumsD (takeC c k) x st j n=sumsD c x st j n
 |0=>rfl
 |n+1=>by rw [sumsD,sumsD,takeC_sumsD c k x st j n];rfl
theorem takeC_damD (c:DCas) (k:Nat) (t:DTr):damD (takeC c k) t=damD c t:=by
 unfold damD;simp only [takeC_sumsD];rfl
theorem can_first {c:DCas} (h:caseD c=0) {k:Nat} (hk:k<c.clms.length):canB (allD c) (2*2 ^ k - 1)= !(truthsD (takeC c (k+1)) []).isEmpty:=by
 have hn:=(caseD_zero h).2.1.nm
 have e:((2*2 ^ k - 1:Nat):Int)=2*2 ^ k - 1:=by
  have:1≤2*2 ^ k:=by have:1≤2 ^ k:=Nat.one_le_two_pow;omega
  push_cast [Int.natCast_sub this]
  rfl
 rw [←e,Bool.eq_iff_iff,can_iff h ((by decide+kernel:∀k,k<5→2*2 ^ k - 1<32) k (by omega)),truthsNe]
 have hr:∀d i,i<k+1→(rightsD (takeC c (k+1)) d).getD i false=(rightsD c d).getD i false:=fun d i hi=>by
  have e1:i<(takeC c (k+1)).clms.length:=by rw [takeC_len (by omega)];exact hi
  rw [rights_get e1,rights_get (by omega)];congr 1
  simp only [takeC];rw [List.getD_eq_getElem?_getD,List.getD_eq_getElem?_getD,List.getElem?_take,if_pos hi]
 have hl:(takeC c (k+1)).clms.length=k+1:=takeC_len (by omega);constructor
 ·rintro ⟨t, d, h1, h2, h3⟩; refine ⟨t, d, h1, (takeC_damD c (k + 1) t).trans h2, good_iff.2 (fun i hi _ => ?_)⟩
  rw [hl] at hi;rw [hr d i hi];exact h3 i (by omega) (by rw [low_bit k (by omega) i (by omega)];simpa using (show i≤k by omega))
 ·rintro ⟨t, d, h1, h2, h3⟩; refine ⟨t, d, h1, (takeC_damD c (k + 1) t).symm.trans h2, fun i hi hb => ?_⟩
  rw [low_bit k (by omega) i hi] at hb;have hik:i<k+1:=by have:=of_decide_eq_true hb;omega
  rw [←hr d i hik];exact good_iff.1 h3 i (by rw [hl];exact hik) (by simp)
theorem find_congr {α:Type} {l:List α} {p q:α→Bool} (h:∀x∈l,p x=q x):l.find? p=l.find? q:=by
  induction l with
  |nil=>rfl
  | cons x r ih =>
    rw [List.find?_cons,List.find?_cons,h x (by simp),ih (fun y hy=>h y (by simp [hy]))]
theorem first_eq {c:DCas} (h:caseD c=0):firstUp (allD c) c.clms.length=match firstS c with|some k=>(k:Int)|none=> -1:=by
 unfold firstUp firstS
 have e:(List.range c.clms.length).find? (fun k=> !canB (allD c) (2*2 ^ k - 1))=(List.range c.clms.length).find? (fun n=>(truthsD (takeC c (n+1)) []).isEmpty):=by
  exact find_congr (fun k hk=>by rw [can_first h (List.mem_range.1 hk),Bool.not_not])
 rw [e];cases (List.range c.clms.length).find? (fun n=>(truthsD (takeC c (n+1)) []).isEmpty)<;>rfl
def stepW (r:Int×Int) (n:Int):Int×Int:=(min r.1 n,max r.2 n)
def wideF (ns:List Int):Int×Int:=ns.foldl stepW (1099511627776,-1099511627776)
theorem wideF_snoc (ns:List Int) (n:Int):wideF (ns++ [n])=stepW (wideF ns) n:=by
 unfold wideF;rw [List.foldl_append];rfl
structure IsBds (ns:List Int) (r:Int×Int):Prop where
 lo:r.1∈ns
 hi:r.2∈ns
 all:∀x∈ns,r.1≤x∧x≤r.2
theorem IsBds.same {ns ms:List Int} {r s:Int×Int} (h:IsBds ns r) (k:IsBds ms s) (e:∀x,x∈ns↔x∈ms):r=s:=by
 have h1:=k.all _ ((e _).1 h.lo);have h2:=k.all _ ((e _).1 h.hi);have h3:=h.all _ ((e _).2 k.lo);have h4:=h.all _ ((e _).2 k.hi);ext<;>omega
theorem stepW_bds {ns:List Int} {r:Int×Int} {n:Int} (h:IsBds ns r):IsBds (ns++ [n]) (stepW r n):=by
 have h2:=h.all _ h.hi;refine⟨?_,?_,fun x hx=> ?_⟩
 ·unfold stepW; simp only; rcases Int.le_total r.1 n with g | g
  ·rw [Int.min_eq_left g];exact List.mem_append_left _ h.lo
  ·rw [Int.min_eq_right g];simp
 ·unfold stepW; simp only; rcases Int.le_total r.2 n with g | g
  ·rw [Int.max_eq_right g];simp
  ·rw [Int.max_eq_left g];exact List.mem_append_left _ h.hi
 ·unfold stepW; simp only; rcases List.mem_append.1 hx with g | g
  ·have:=h.all x g;omega
  ·have : x = n := by simpa using g
   omega
theorem wideF_bds:∀ {ns:List Int},ns≠ []→(∀x∈ns,-1000000≤x∧x≤1000000)→IsBds ns (wideF ns):=by
 intro ns hne hb
 rcases List.eq_nil_or_concat ns with h|⟨l,x,rfl⟩
 ·exact absurd h hne
 rw [List.concat_eq_append] at*;rw [wideF_snoc];by_cases hl:l= []
 ·subst hl; have hx := hb x (by simp)
  have e:stepW (wideF []) x=(x,x):=by
   unfold stepW wideF;simp only [List.foldl_nil];ext<;>simp only<;>omega
  rw [e];exact⟨by simp,by simp,fun y hy=>by have:y=x:=(by simpa using hy);rw [this];exact⟨Int.le_refl _,Int.le_refl _⟩⟩
 ·exact stepW_bds (wideF_bds hl (fun y hy=>hb y (List.mem_append_left _ hy)))
termination_by ns=>ns.length
decreasing_by simp_all
theorem bdsL_bds:∀ {ns:List Int},ns≠ []→IsBds ns ((bdsL ns).getD (0,0)):=by
  intro ns hne
  rcases List.eq_nil_or_concat ns with h|⟨l,x,rfl⟩
  · exact absurd h hne
  rw [List.concat_eq_append] at*;rw [bdsL_snoc];by_cases hl:l= []
  · subst hl
    have e:(stepB (bdsL []) x).getD (0,0)=(x,x):=by
      unfold stepB bdsL;simp
    rw [e];exact⟨by simp,by simp,fun y hy=>by have:y=x:=(by simpa using hy);rw [this];exact⟨Int.le_refl _,Int.le_refl _⟩⟩
  · have ih := bdsL_bds hl; cases hq : bdsL l with
    |none=>have:=bdsL_ne hl;rw [hq] at this;cases this
    | some r =>
      rw [hq] at ih;have:=stepW_bds (n:=x) ih;simpa [stepB,stepW] using this
termination_by ns=>ns.length
decreasing_by simp_all
theorem wide_eq {ns ms:List Int} (hne:ns≠ []) (hb:∀x∈ns,-1000000≤x∧x≤1000000) (e:∀x,x∈ns↔x∈ms):wideF ns=(bdsL ms).getD (0,0):=by
 have hm:ms≠ []:=fun h=>by
  obtain⟨x,r,h2⟩:=List.exists_cons_of_ne_nil hne;have:=(e x).1 (by rw [h2];simp);rw [h] at this;simp at this
 exact(wideF_bds hne hb).same (bdsL_bds hm) e
def truR (c:DCas):List DTr:=(List.range (manyC c).toNat).filterMap (fun n:Nat=>if bitsD c (nthT c n)=2 ^ c.clms.length - 1 then some (nthT c n) else none)
def dmgR (c:DCas) (ts:List DTr):List Dmg:=ts.filterMap (damD c)
theorem bits_full {c:DCas} (h:caseD c=0) {t:DTr} :bitsD c t=2 ^ c.clms.length - 1↔∃d,damD c t=some d∧goodD c [] d=true:=by
  have hn:=(caseD_zero h).2.1.nm;unfold bitsD;have h1:(0:Int)≤2 ^ c.clms.length - 1:=by rw [←full_cast];omega
  cases hd:damD c t with
  | none =>
    simp only;constructor
    · intro e;omega
    · rintro ⟨d,e,-⟩;cases e
  | some d =>
    simp only;have hl:(rightsD c d).length=c.clms.length:=by simp [rightsD]
    have hlt:=maskOf_lt (rightsD c d);rw [hl] at hlt;have hmi:=mask_iff hn d (full_lt hn)
    have hand:(bits BinOp.and IntKind.i64 ((maskOf (rightsD c d):Nat):Int) ((2 ^ c.clms.length - 1:Nat):Int)==((2 ^ c.clms.length - 1:Nat):Int))=decide (maskOf (rightsD c d)=2 ^ c.clms.length - 1):=by
      exact(by decide+kernel:∀n:Nat,n<6→∀m:Nat,m<2 ^ n→(bits BinOp.and IntKind.i64 (m:Int) ((2 ^ n - 1:Nat):Int)==((2 ^ n - 1:Nat):Int))=decide (m=2 ^ n - 1)) c.clms.length (by omega) _ hlt
    rw [hand,decide_eq_true_eq] at hmi;constructor
    · intro e
      refine⟨d,rfl,good_iff.2 (fun i hi _=> ?_)⟩
      have e':maskOf (rightsD c d)=2 ^ c.clms.length - 1:=by rw [←full_cast] at e;exact Int.ofNat.inj e
      exact hmi.1 e' i (by omega) (by rw [full_bit hn (by omega)];exact decide_eq_true hi)
    · rintro ⟨d', e, hg⟩; cases e
      rw [←full_cast];congr 1
      refine hmi.2 (fun i hi hb=> ?_)
      rw [full_bit hn hi] at hb;exact good_iff.1 hg i (of_decide_eq_true hb) (by simp)
theorem truR_mem {c:DCas} (h:caseD c=0) {t:DTr} :t∈truR c↔listedD c t=true∧∃d,damD c t=some d∧goodD c [] d=true:=by
 unfold truR;rw [List.mem_filterMap];constructor
 ·rintro ⟨n, hn, e⟩; split at e
  ·rename_i hb
   cases e
   exact⟨nthT_listed h,(bits_full h).1 hb⟩
  ·cases e
 ·rintro ⟨ht,hd⟩;obtain⟨n,hn,rfl⟩:=nthT_of h ht;exact⟨n,List.mem_range.2 (by omega),by rw [if_pos ((bits_full h).2 hd)]⟩
theorem dmgR_mem {c:DCas} (h:caseD c=0) {d:Dmg} :d∈dmgR c (truR c)↔∃x∈truthsD c [],x.2=d:=by
 unfold dmgR;rw [List.mem_filterMap];constructor
 ·rintro ⟨t,ht,hd⟩;obtain⟨h1,d',h2,h3⟩:=(truR_mem h).1 ht;rw [h2] at hd;cases hd;exact⟨(t,d),mem_truthsD.2 ⟨h1,h2,h3⟩,rfl⟩
 ·rintro ⟨x,hx,rfl⟩;obtain⟨h1,h2,h3⟩:=mem_truthsD.1 hx;exact⟨x.1,(truR_mem h).2 ⟨h1,_,h2,h3⟩,h2⟩
theorem wide_bds {c:DCas} (h:caseD c=0) (f:Dmg→Int) (hf:∀d,DmgOK d→ -1000000≤f d∧f d≤1000000) (hne:(truthsD c []).isEmpty=false):wideF ((dmgR c (truR c)).map f)=bdsD c f:=by
 have hS:=(caseD_zero h).2.1;unfold bdsD;obtain⟨x,hx⟩:=List.isEmpty_eq_false_iff_exists_mem.1 hne;refine wide_eq ?_ ?_ ?_
 ·intro e
  have:=(dmgR_mem h).2 ⟨x,hx,rfl⟩;rw [List.map_eq_nil_iff.1 e] at this;simp at this
 ·intro y hy
  obtain⟨d,hd,rfl⟩:=List.mem_map.1 hy;obtain⟨x,hx,rfl⟩:=(dmgR_mem h).1 hd;obtain⟨g1,g2,-⟩:=mem_truthsD.1 hx;exact hf _ (damD_ok hS (by have:=hS.loss;have:=(listedD_ok g1).loss;omega) g2)
 ·intro y
  rw [List.mem_map,List.mem_map];constructor
  ·rintro ⟨d,hd,rfl⟩;obtain⟨x,hx,rfl⟩:=(dmgR_mem h).1 hd;exact⟨x,hx,rfl⟩
  ·rintro ⟨x,hx,rfl⟩;exact⟨x.2,(dmgR_mem h).2 ⟨x,hx,rfl⟩,rfl⟩
theorem bds_is {c:DCas} (f:Dmg→Int) (hne:(truthsD c []).isEmpty=false):IsBds ((truthsD c []).map (fun x=>f x.2)) (bdsD c f):=by
 unfold bdsD;refine bdsL_bds (fun e=> ?_)
 rw [List.map_eq_nil_iff] at e;rw [e] at hne;cases hne
theorem dmg_laws {d:Dmg} (h:DmgOK d):(0≤(paysD d).1∧(paysD d).1≤d.s0)∧(0≤(paysD d).2.1∧(paysD d).2.1≤d.s1)∧(0≤(paysD d).2.2∧(paysD d).2.2≤d.s2)∧totD d=min d.amount (d.s0+d.s1+d.s2):=by
 have ha:=h.a.1;have h0:=h.s0;have h1:=h.s1;have h2:=h.s2;obtain⟨H,HS⟩:=settleL_ok (amount:=d.amount) (l:= [d.s0,d.s1,d.s2]) ha (by intro x hx;simp at hx;omega);rw [settle3_eq] at H HS;have g0:=H 0 _ _ rfl rfl;have g1:=H 1 _ _ rfl rfl;have g2:=H 2 _ _ rfl rfl;have e3:∀a b c:Int,sumI [a,b,c]=a+b+c:=fun a b c=>by show 0+a+b+c=a+b+c;omega
 rw [e3,e3] at HS;unfold totD paysD;refine⟨⟨g0.1,g0.2.1⟩,⟨g1.1,g1.2.1⟩,⟨g2.1,g2.2.1⟩,by omega⟩
theorem payD_le {d:Dmg} (h:DmgOK d) {k:Nat} (hk:k<3):0≤payD d k∧payD d k≤sumD d k∧sumD d k≤5000:=by
 obtain⟨h0,h1,h2,-⟩:=dmg_laws h;have g0:=h.s0;have g1:=h.s1;have g2:=h.s2;obtain rfl|rfl|rfl:k=0∨k=1∨k=2:=by omega
 all_goals simp [payD,sumD];omega
theorem refundD_bd {d:Dmg} (h:DmgOK d) {k:Nat} (hk:k<3): -10000≤refundD d k∧refundD d k≤10000:=by
 have h1:=payD_le h hk;have h2:=h.a;unfold refundD;omega
theorem payL_len {d:Dmg} {n:Nat} (h:n≤3):(payL d n).length=n:=by unfold payL;rw [List.length_take];simp;omega
theorem payL_at {d:Dmg} {n i:Nat} (hi:i<n) (h:n≤3):(payL d n).getD i 0=payD d i:=by
 unfold payL payD;obtain rfl|rfl|rfl:n=1∨n=2∨n=3:=by omega
 all_goals
  rcases i with _|_|_|i
  all_goals first|rfl|omega
theorem backL_at {d:Dmg} {n i:Nat} (hi:i<n):(backL d n).getD i 0=refundD d i:=by simp [backL,hi]
theorem backL_len {d:Dmg} {n:Nat} :(backL d n).length=n:=by simp [backL]
theorem filterMap_rng {α β:Type} (f:α→Option β) (z:β):∀(ts:List α),(∀t∈ts,(f t).isSome=true)→ts.filterMap f=(List.range ts.length).map (fun k=>(ts[k]?.bind f).getD z)
  | [],_=>rfl
  | t :: ts, h => by
    obtain⟨d,hd⟩:=Option.isSome_iff_exists.1 (h t (by simp));rw [List.length_cons,List.range_succ_eq_map,List.map_cons,List.map_map,List.filterMap_cons_some hd,filterMap_rng f z ts (fun x hx=>h x (by simp [hx]))];congr 1
    simp [hd]
def dmgK (c:DCas) (k:Nat):Dmg:=((truR c)[k]?.bind (damD c)).getD ⟨0,0,0,0⟩
theorem dmgR_rng {c:DCas} (h:caseD c=0):dmgR c (truR c)=(List.range (truR c).length).map (dmgK c):=
 filterMap_rng (damD c) ⟨0,0,0,0⟩ (truR c) (fun t ht=>by
  obtain⟨-,d,hd,-⟩:=(truR_mem h).1 ht;rw [hd];rfl)
theorem dmgK_at {c:DCas} (h:caseD c=0) {k:Nat} (hk:k<(truR c).length):listedD c (truR c)[k]=true∧damD c (truR c)[k]=some (dmgK c k)∧DmgOK (dmgK c k)∧(c.soc≤1→(dmgK c k).s1=0)∧(c.soc≤2→(dmgK c k).s2=0):=by
 obtain⟨h1,d,hd,-⟩:=(truR_mem h).1 (List.getElem_mem hk);have e:dmgK c k=d:=by unfold dmgK;rw [List.getElem?_eq_getElem hk];simp [hd]
 have hS:=(caseD_zero h).2.1;have ht:=listedD_ok h1;rw [e];exact⟨h1,hd,damD_ok hS (by have:=hS.loss;have:=ht.loss;omega) hd,dmg_high h ht hd⟩
end Go.Hs
