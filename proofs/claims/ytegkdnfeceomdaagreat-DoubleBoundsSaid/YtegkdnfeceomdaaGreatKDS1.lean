/- Contract of layer 8's reference: All. -/
import Derived.Test.YtegkdnfeceomdaaGreatKDN2
import Derived.Test.YtegkdnfeceomdaaGreatKDC5
import Derived.Test.YtegkdnfeceomdaaGreatKDC9
import Derived.Test.YtegkdnfeceomdaaGreatKDW1
import Derived.Test.YtegkdnfeceomdaaGreatKDA4
set_option maxRecDepth 100000
set_option maxHeartbeats 16000000
set_option linter.unusedSimpArgs false
set_option linter.unusedVariables false
namespace Go.Hs
open Go.RowKit
theorem own_intsB {w:World} {B e n:Nat} {v:Value} {us:List Value} {xs:List Int} (h:w.ownsRow B e 1 v n us) (hu:us=xs.map (.int .i64)) (hn:n=xs.length) (ho:∀x∈xs,i64ok x) (hl:xs.length≤100000):IntsV w v xs:=by
 subst hu hn;rcases own_open h with ⟨rfl,h0⟩|⟨g,cap,rfl,-,hg,hn,hc⟩
 ·have e:xs= []:=List.eq_nil_of_length_eq_zero h0;subst e;exact⟨none,0,rfl,Nat.le_refl _,by simp,fun i h=>absurd h (Nat.not_lt_zero _)⟩
 ·refine ⟨_, cap, rfl, hn, by omega, fun i hi => ⟨g, 0, rfl, ?_, ho _ (List.getElem_mem hi)⟩⟩
  rw [Nat.zero_add,Nat.mul_one];exact hc i _ (by simp [hi])
theorem maskOf_snoc:∀(l:List Bool) (b:Bool),maskOf (l++ [b])=maskOf l+(if b then 2 ^ l.length else 0)
  | [],b=>by cases b<;>rfl
  | x :: l, b => by
    rw [List.cons_append,maskOf,maskOf,maskOf_snoc l b,List.length_cons,Nat.pow_succ];cases b<;>simp<;>omega
theorem maskOf_take {l:List Bool} {i:Nat} (h:i<l.length):maskOf (l.take (i+1))=maskOf (l.take i)+(if l.getD i false then 2 ^ i else 0):=by
 rw [List.take_succ_eq_append_getElem h,maskOf_snoc,List.length_take,Nat.min_eq_left (Nat.le_of_lt h)];congr 2
 simp [h]
theorem or_bit:∀i:Nat,i<5→∀m:Nat,m<2 ^ i→bits BinOp.or IntKind.i64 (m:Int) ((2 ^ i:Nat):Int)=((m+2 ^ i:Nat):Int):=by decide+kernel
theorem allD_len (c:DCas):(allD c).length=(manyC c).toNat:=by simp [allD]
theorem allD_next {c:DCas} {k:Nat} (h:k<(manyC c).toNat):(allD c).take (k+1)=(allD c).take k++ [bitsD c (nthT c k)]:=by
 rw [List.take_succ_eq_append_getElem (by rw [allD_len];exact h)];simp [allD]
theorem bitsD_bd {c:DCas} (hn:c.clms.length≤5) (t:DTr): -1≤bitsD c t∧bitsD c t≤32:=by
 unfold bitsD;split
 ·omega
 ·rename_i d _
  have h1:=maskOf_lt (rightsD c d);have h2:(rightsD c d).length=c.clms.length:=by simp [rightsD]
  have h3:=pow_le32 hn;rw [h2] at h1;omega
end Go.Hs
namespace Go.Proofs.YtegkdnfeceomdaaGreat
open Go.RowKit Go.Hs
attribute [local irreducible] World.setCell World.alloc
theorem All_h (A : CaseA) (c : DCas) (w : World) (hm : CaseM w A c) (hc : caseD c = 0) :
    Calls Tryz.prog 95 #[A.v c] w fun e w'=>∃v,e= .returned v∧IntsV w' v (allD c)∧Ext w w':=by
  obtain⟨i0,hi0,hz0,hz1,hz2⟩:=info_parts info_int;have hS:=(caseD_zero hc).2.1;have hmb:=manyC_eq hc;obtain⟨N,hN⟩:∃N:Nat,N=(manyC c).toNat:=⟨_,rfl⟩;have hNc:manyC c=(N:Int):=by omega
  have hN2:N≤2000:=by omega
  have HMN:Hid (∀W,Ext w W→Calls Tryz.prog 47 #[A.v c] W fun e w'=>e= .returned (.int .i64 N)∧Ext W w'):=hHd (fun W hx=>by rw [←hNc];exact Many_dh A c W (hm.ext hx) (rngS_of hS))
  have HNT:Hid (∀W (k:Nat),Ext w W→k<N→Calls Tryz.prog 48 #[A.v c,.int .i64 k] W fun e w'=>∃vd vs vst,e= .returned (.agg #[vd,vs,vst,.int .i64 (nthT c k).loss])∧(IntsV w' vd (nthT c k).days∧IntsV w' vs (nthT c k).sown∧IntsV w' vst (nthT c k).starts)∧Ext W w'):=hHd (fun W k hx hk=>(Nth_dh A c k W (hm.ext hx) hc (by omega)).mono (fun e w' h=>by
    obtain⟨v,rfl,⟨vd,vs,vst,rfl,h1,h2,h3⟩,-,hx'⟩:=h;exact⟨vd,vs,vst,rfl,⟨h1,h2,h3⟩,hx'⟩))
  have HPN:Hid (∀W (k:Nat) vd vs vst,Ext w W→damD c (nthT c k)=none→IntsV W vd (nthT c k).days∧IntsV W vs (nthT c k).sown∧IntsV W vst (nthT c k).starts→Calls Tryz.prog 32 #[A.v c,.agg #[vd,vs,vst,.int .i64 (nthT c k).loss]] W fun e w'=>∃v1 v2,e= .returned (.tuple #[v1,v2,.int .i64 0,.bool false])∧Ext W w'):=hHd (fun W k vd vs vst hx hd h=>(Pays_h A c _ vd vs vst W (hm.ext hx) hc (nthT_ok hc (by omega)) h.1 h.2.1 h.2.2).mono (fun e w' h=>by
    obtain⟨v1,v2,h1,-,hx'⟩:=h;exact⟨v1,v2,(h1 hd).1,hx'⟩))
  have HPY:Hid (∀W (k:Nat) d vd vs vst,Ext w W→damD c (nthT c k)=some d→IntsV W vd (nthT c k).days∧IntsV W vs (nthT c k).sown∧IntsV W vst (nthT c k).starts→Calls Tryz.prog 32 #[A.v c,.agg #[vd,vs,vst,.int .i64 (nthT c k).loss]] W fun e w'=>∃a q v2,e= .returned (.tuple #[.slice a (payL d c.soc.toNat).length q,v2,.int .i64 d.amount,.bool true])∧IntsV w' (.slice a (payL d c.soc.toNat).length q) (payL d c.soc.toNat)∧Ext W w'):=hHd (fun W k d vd vs vst hx hd h=>(Pays_h A c _ vd vs vst W (hm.ext hx) hc (nthT_ok hc (by omega)) h.1 h.2.1 h.2.2).mono (fun e w' h=>by
    obtain⟨v1,v2,-,h1,hx'⟩:=h;obtain⟨g1,g2,-⟩:=h1 d hd;obtain⟨a,q,rfl,-⟩:=id g2;exact⟨a,q,v2,g1,g2,hx'⟩))
  have HIN:=hHd In_h;have HS0:=hHd hS;have HNX:Hid (∀k,k<N→(allD c).take (k+1)=(allD c).take k++ [bitsD c (nthT c k)]):=hHd (fun k hk=>allD_next (by omega))
  have HAL:Hid ((allD c).length=N∧∀x∈allD c,i64ok x):=hHd ⟨by rw [allD_len,hN],fun x hx=>by
    obtain⟨n,-,rfl⟩:=List.mem_map.1 hx;have:=bitsD_bd hS.nm (nthT c n);unfold i64ok;omega⟩
  have HCM:Hid (∀W,Ext w W→Cells3 W A.a4 (c.clms.map Clm.c)):=hHd (fun W hx=>hm.clms.ext hx);have HNM:=hHd hS.nm;have HTK:Hid (∀k:Nat,TruOK c (nthT c k)):=hHd (fun k=>nthT_ok hc (by omega));clear hm hc hS hmb hNc hN;obtain⟨a1,c1,a2,c2,a3,c3,a4,c4⟩:=A;unfold CaseA.v caseV at*;simp only at*;go_enter Tryz.func95,Tryz.ntmps95
  (go_wp2_with fail);obtain⟨W,hW,X,HS,HSf,HSz⟩:=bx11 w 41 (.int .i64 c.bk.last) (.int .i64 c.bk.owners) (.slice a1 c.bk.pars.length c1) (.slice a2 c.bk.ents.length c2) (.int .i64 c.soc) (.int .i64 c.day) (.int .i64 c.parcel) (.slice a3 c.covs.length c3) (.int .i64 c.llo) (.int .i64 c.lhi) (.slice a4 c.clms.length c4);rw [hW];clear hW;go_loopw [3,4] (fun s3 s4 wr=>∃(k n:Nat) (a:Option Addr) (q:Nat),k≤N∧s4= .int .i64 k∧s3= .slice a n q∧Hid (n=k∧wr.ownsRow W.heap.size 3 1 (.slice a n q) n (((allD c).take k).map (Value.int .i64)))∧Ext W wr) (fun _ s _=>N - (intOf s).toNat)
  case atStart=>exact⟨0,0,none,0,Nat.zero_le _,rfl,rfl,hHd ⟨rfl,World.ownsRow_nil _ _ _ _⟩,Ext.refl _⟩
  case round=>
    obtain⟨k,n,a,q,hk,rfl,rfl,HO,hx⟩:=hrel;obtain⟨wo,rfl⟩:∃x,x=wr:=⟨_,rfl⟩;obtain⟨⟨q0,q1,q2,q3,q4,q5,q6,q7,q8,q9,q10⟩,-⟩:=HS.out wo hx;have hk0:(0:Int)≤(k:Int):=by omega
    by_cases hlt:k<N
    · have hlt' : (k : Int) < (N : Int) := by omega
      have HNT2:=hHd (fun W hx=>HNT.out W k hx hlt);(go_wp2_with fail);(with_reducible refine(HMN.out _ (X.trans EX)).mono ?_);rintro e w2 ⟨rfl,hx2⟩;have X2:Ext W w2:=EX;have HX2:=hHd X2;have hxo2:Hid (Ext wo w2):=hHd EX;clear q0 q1 q2 q3 q4 q5 q6 q7 q8 q9 q10;(go_wp2_with fail);cases hd:damD c (nthT c k) with
      | none =>
        have HP2:=hHd (fun W vd vs vst hx h=>HPN.out W k vd vs vst hx hd h);have HBX:Hid (bitsD c (nthT c k)= -1):=hHd (by unfold bitsD;rw [hd]);clear HPN HPY hd
        go_region_held3 (fun w'=>(w'.cell? ⟨w.heap.size,0,none⟩=some (.int .i64 c.bk.last)∧w'.cell? ⟨w.heap.size,1,none⟩=some (.int .i64 c.bk.owners)∧w'.cell? ⟨w.heap.size,2,none⟩=some (.slice a1 c.bk.pars.length c1)∧w'.cell? ⟨w.heap.size,3,none⟩=some (.slice a2 c.bk.ents.length c2)∧w'.cell? ⟨w.heap.size,4,none⟩=some (.int .i64 c.soc)∧w'.cell? ⟨w.heap.size,5,none⟩=some (.int .i64 c.day)∧w'.cell? ⟨w.heap.size,6,none⟩=some (.int .i64 c.parcel)∧w'.cell? ⟨w.heap.size,7,none⟩=some (.slice a3 c.covs.length c3)∧w'.cell? ⟨w.heap.size,8,none⟩=some (.int .i64 c.llo)∧w'.cell? ⟨w.heap.size,9,none⟩=some (.int .i64 c.lhi)∧w'.cell? ⟨w.heap.size,10,none⟩=some (.slice a4 c.clms.length c4))∧Ext W w')
          ((refine HS.out _ ?_;exact EX))
          (first
            |(go_at_call 48;(with_reducible refine(HNT2.out _ (X.trans EX)).mono ?_);rintro e w3 ⟨vd,vs,vst,rfl,hi,hx3⟩)
            |(go_at_call 32;(with_reducible refine(HP2.out _ _ _ _ (X.trans EX) ⟨hi.1.ext EX,hi.2.1.ext EX,hi.2.2.ext EX⟩).mono ?_);rintro e w4 ⟨v1,v2,rfl,hx4⟩))
        have HX4:Hid (Ext wo w4):=hHd (hxo2.out.trans EX);clear HNT2 HP2 hi hx3 hx4;(go_wp2_with fail);go_loopw [9,10] (fun s9 s10 wr=>s9= .int .i64 0∧s10= .int .i64 0∧Ext w4 wr) (fun _ _ _=>0)
        case atStart=>exact⟨rfl,rfl,Ext.refl _⟩
        case round=>
          obtain⟨rfl,rfl,hx5⟩:=hrel;obtain⟨w5,rfl⟩:∃x,x=wr:=⟨_,rfl⟩;have XOW:Hid (Ext wo w5):=hHd (HX4.out.trans hx5);obtain⟨⟨-,-,-,-,-,-,-,-,-,-,q10⟩,-⟩:=HS.out w5 (hx.trans XOW.out);clear hx5;by_cases hl0:0<c.clms.length
          all_goals
            have OWN:=hHd (own_extR HO.out.2 (show Ext wo w5 from XOW.out));have HNK:=hHd HO.out.1;have hnk:n≤2000:=by have:=HO.out.1;omega
            have HWS:=hHd (Ext.size (Ext.trans hx XOW.out));clear HO;go_wp2_with (at_builtin;refine wpList_append_own_at _ rfl _ _ 22 rfl W.heap.size 3 i0 (.int .i64 0) 1 8 Tryz.underlying22 hi0 hz0 hz1 hz2 rfl (by decide) (.slice a n q) n (((allD c).take k).map (Value.int .i64)) rfl ?own ⟨w5.heap.size,0,none⟩ 1 1 [.int .i64 (-1)] rfl rfl (one_inN (Ext.refl _) rfl) ?one ?fit1 ?fit2 ?fit3 ?next)
            case own=>exact own_keep OWN.out (fun g hg=>((Ext.refl w5).alloc _).heap (own_lt OWN.out hg).2)
            case one=>
              intro u hu
              simp only [List.mem_cons,List.not_mem_nil,or_false] at hu;rw [hu];rfl
            case fit1=>simp only [maxLen];omega
            case fit2=>omega
            case fit3=>have h1:=HWS.out;simp;omega
            case next=>
              intro v' w9 hown hgrow hnil hat
              have hx9:Ext W w9:=grown_ext ((Ext.trans hx XOW.out).alloc _) hgrow (fun g hg=>(own_lt OWN.out hg).1)
              have HO9:Hid (n+1=k+1∧w9.ownsRow W.heap.size 3 1 v' (n+1) (((allD c).take (k+1)).map (Value.int .i64))):=hHd (by
                rw [HNX.out k hlt,HBX.out];exact⟨by rw [HNK.out],by simpa using hown⟩)
              rcases own_open hown with ⟨-,h0⟩|⟨g,cap,rfl,-,-,-,-⟩
              · omega
              · clear hown hgrow hnil hat; (go_wp2_with fail); go_roundw
                case rel=>exact⟨k+1,n+1,_,_,by omega,by go_num,rfl,HO9,hx9⟩
                case measure=>simp [intOf];omega
      | some d =>
        have HP2:=hHd (fun W vd vs vst hx h=>HPY.out W k d vd vs vst hx hd h);have HBX0:Hid (bitsD c (nthT c k)=(maskOf (rightsD c d):Nat)):=hHd (by unfold bitsD;rw [hd]);have HDK:Hid (DmgOK d):=hHd (damD_ok HS0.out (by have:=HS0.out.loss;have:=(HTK.out k).loss;omega) hd);clear HPN HPY hd
        have HPL:Hid (∀i (h:i<c.clms.length),0≤c.clms[i].soc∧c.clms[i].soc<(payL d c.soc.toNat).length∧(payL d c.soc.toNat).getD (c.clms[i].soc.toNat) 0=payD d c.clms[i].soc∧inR (payD d c.clms[i].soc) c.clms[i].plo c.clms[i].phi=(rightsD c d).getD i false):=hHd (fun i h=>by
          have g1:=HS0.out.clm _ (List.getElem_mem h);have g2:=HS0.out.soc;simp only [clmB,socB,Bool.and_eq_true,inR_iff] at g1;have g3:(payL d c.soc.toNat).length=c.soc.toNat:=by unfold payL;rw [List.length_take];simp;omega
          refine⟨g1.1.1,by rw [g3];omega,?_,?_⟩
          · rw [payL_get (by omega) (by omega)];congr 1;omega
          · rw [rights_get h]; have e2 : c.clms.getD i default = c.clms[i] := by simp [h]
            rw [e2];rfl)
        have HML:Hid ((payL d c.soc.toNat).length≤3):=hHd (by unfold payL;rw [List.length_take];exact Nat.min_le_right _ _)
        go_region_held3 (fun w'=>(w'.cell? ⟨w.heap.size,0,none⟩=some (.int .i64 c.bk.last)∧w'.cell? ⟨w.heap.size,1,none⟩=some (.int .i64 c.bk.owners)∧w'.cell? ⟨w.heap.size,2,none⟩=some (.slice a1 c.bk.pars.length c1)∧w'.cell? ⟨w.heap.size,3,none⟩=some (.slice a2 c.bk.ents.length c2)∧w'.cell? ⟨w.heap.size,4,none⟩=some (.int .i64 c.soc)∧w'.cell? ⟨w.heap.size,5,none⟩=some (.int .i64 c.day)∧w'.cell? ⟨w.heap.size,6,none⟩=some (.int .i64 c.parcel)∧w'.cell? ⟨w.heap.size,7,none⟩=some (.slice a3 c.covs.length c3)∧w'.cell? ⟨w.heap.size,8,none⟩=some (.int .i64 c.llo)∧w'.cell? ⟨w.heap.size,9,none⟩=some (.int .i64 c.lhi)∧w'.cell? ⟨w.heap.size,10,none⟩=some (.slice a4 c.clms.length c4))∧Ext W w')
          ((refine HS.out _ ?_;exact EX))
          (first
            |(go_at_call 48;(with_reducible refine(HNT2.out _ (X.trans EX)).mono ?_);rintro e w3 ⟨vd,vs,vst,rfl,hi,hx3⟩)
            |(go_at_call 32;(with_reducible refine(HP2.out _ _ _ _ (X.trans EX) ⟨hi.1.ext EX,hi.2.1.ext EX,hi.2.2.ext EX⟩).mono ?_);rintro e w4 ⟨ap,qp,v2,rfl,hip,hx4⟩))
        have HX4:Hid (Ext wo w4):=hHd (hxo2.out.trans EX);have HIP:=hHd (show IntsV w4 (.slice ap (payL d c.soc.toNat).length qp) (payL d c.soc.toNat) from hip.ext EX);clear HNT2 HP2 hi hx3 hx4 hip;(go_wp2_with fail);go_loopw [9,10] (fun s9 s10 wr=>∃i:Nat,i≤c.clms.length∧s10= .int .i64 i∧s9= .int .i64 (maskOf ((rightsD c d).take i):Nat)∧Ext w4 wr) (fun _ s _=>c.clms.length - (intOf s).toNat)
        case atStart=>exact⟨0,Nat.zero_le _,rfl,rfl,Ext.refl _⟩
        case round=>
          obtain⟨i,hil,rfl,rfl,hx5⟩:=hrel;obtain⟨w5,rfl⟩:∃x,x=wr:=⟨_,rfl⟩;have XOW:Hid (Ext wo w5):=hHd (HX4.out.trans hx5);obtain⟨⟨-,-,-,-,-,-,-,-,-,-,q10⟩,-⟩:=HS.out w5 (hx.trans XOW.out);have hnm:=HNM.out;by_cases hli:i<c.clms.length
          · have hli' : (i : Int) < (c.clms.length : Int) := by omega
            have hi0':(0:Int)≤(i:Int):=by omega
            obtain⟨b',off,rfl,hce⟩:=HCM.out w5 (X.trans (hx.trans XOW.out)) i (by simpa using hli);have e1:(c.clms.map Clm.c)[i]'(by simpa using hli)=(c.clms[i]).c:=by simp
            rw [e1] at hce;obtain⟨m0,m1,m2⟩:=hce;obtain⟨p0,p1,p2,p3⟩:=HPL.out i hli;have HMT:Hid (maskOf ((rightsD c d).take (i+1))=maskOf ((rightsD c d).take i)+(if (rightsD c d).getD i false then 2 ^ i else 0)):=hHd (maskOf_take (by simpa [rightsD] using hli))
            have hml:maskOf ((rightsD c d).take i)<2 ^ i:=by
              have h1:=maskOf_lt ((rightsD c d).take i);have h2:((rightsD c d).take i).length=i:=by rw [List.length_take];simp [rightsD];omega
              rwa [h2] at h1
            have HMB:Hid (bits BinOp.or IntKind.i64 ((maskOf ((rightsD c d).take i):Nat):Int) ((2 ^ i:Nat):Int)=((maskOf ((rightsD c d).take i)+2 ^ i:Nat):Int)):=hHd (or_bit i (by omega) _ hml);rw [←p3] at HMT;simp only [Clm.c] at m0 m1 m2;clear e1 p3 hml;generalize maskOf ((rightsD c d).take i)=mk at*;generalize c.clms[i]=f at*;obtain⟨xs,xl,xh⟩:=f;simp only at m0 m1 m2 p0 p1 p2 HMT;obtain⟨sn,hsn⟩:∃sn:Nat,xs=(sn:Int):=⟨xs.toNat,by omega⟩;subst hsn
            have HPC:Hid (∀V,Ext w4 V→∃b0 o0,ap=some ⟨b0,o0,none⟩∧V.cell? ⟨b0,o0+sn,none⟩=some (.int .i64 (payD d sn))):=hHd (fun V hx=>by
              obtain⟨pp,cc,he,-,hr⟩:=IntsV.cellsI (HIP.out.ext hx);simp only [Value.slice.injEq] at he;obtain⟨rfl,-,rfl⟩:=he;obtain⟨b0,o0,e2,hk⟩:=hr sn (by omega);simp only [Int.toNat_natCast] at p2;rw [p2] at hk;exact⟨b0,o0,e2,hk⟩)
            obtain⟨b0,o0,rfl,-⟩:=HPC.out w4 (Ext.refl _)
            have HPC2:Hid (∀V,Ext w4 V→V.cell? ⟨b0,o0+sn,none⟩=some (.int .i64 (payD d sn))):=hHd (fun V hx=>by
              obtain⟨b1,o1,e,h⟩:=HPC.out V hx;cases e
              exact h)
            have g1:(sn:Int)<((payL d c.soc.toNat).length:Int):=p1;clear p2 HPC;generalize (payL d c.soc.toNat).length=ln at*;generalize payD d sn=pv at*;obtain⟨rb,hrb⟩:∃rb,rb=inR pv xl xh:=⟨_,rfl⟩;have HI:=hHd (HIN.out pv xl xh);rw [←hrb] at HI HMT;clear hrb;go_upto_region 11 with fail
            obtain⟨W6,hW6⟩:∃W,W=(w5.alloc (.cells #[.int .i64 sn,.int .i64 xl,.int .i64 xh] 103)):=⟨_,rfl⟩;have X6:Ext w5 W6:=by subst hW6;exact(Ext.refl w5).alloc _
            have HK6:Hid (∀V,Ext W6 V→(V.cell? ⟨w5.heap.size,0,none⟩=some (.int .i64 sn)∧V.cell? ⟨w5.heap.size,1,none⟩=some (.int .i64 xl)∧V.cell? ⟨w5.heap.size,2,none⟩=some (.int .i64 xh))∧V.cell? ⟨b0,o0+sn,none⟩=some (.int .i64 pv)):=hHd (fun V h=>by
              have h2:=HPC2.out V ((hx5.trans X6).trans h);subst hW6;exact⟨⟨h.keep (by simp [go_sem]),h.keep (by simp [go_sem]),h.keep (by simp [go_sem])⟩,h2⟩)
            rw [←hW6];clear hW6 m0 m1 m2 q10;refine wp_region_quiet (C:=Ext W6) (by kernel_rfl) (by kernel_rfl) (Ext.drew EX) ?_
            rw [tl]
            repeat (first
              |go_big_quiet_skip
              | (go_big_quiet_want
                 first
                  |(go_big_quiet_op;go_big_quiet_on)
                  | (apply Exists.intro
                     refine⟨fun w' hxw=> ?_,?_⟩
                     focus (obtain⟨⟨k0,k1,k2⟩,mm⟩:=HK6.out w' hxw;go_simp;first|exact rfl|(go_at_call 21;with_reducible refine(HI.out w').mono ?_;exact fun e w'' h=>⟨h.1,hxw.trans h.2⟩))
                     simp only [Act.put,List.setIfInBounds_toArray,List.set_cons_zero,List.set_cons_succ];go_big_quiet_on)))
            refine wpQuiet_nil ?_
            intro w2 hx2
            have X7:Ext w4 w2:=(hx5.trans X6).trans hx2;clear HI HPC2 HK6;cases rb with
            | true =>
              simp only [if_true] at HMT
              have HM2:Hid (Value.int .i64 (bits BinOp.or IntKind.i64 (mk:Int) (wrap64 (2 ^ i)))= .int .i64 ((maskOf ((rightsD c d).take (i+1)):Nat):Int)):=hHd (by
                have e:wrap64 (2 ^ i)=((2 ^ i:Nat):Int):=(by decide+kernel:∀i:Nat,i<5→wrap64 (2 ^ i)=((2 ^ i:Nat):Int)) i (by omega);rw [e,HMB.out,HMT.out])
              clear HMT HMB HIP HNX HO HPL;(go_wp2_with fail);go_roundw
              case rel=>exact⟨i+1,by omega,by go_num,HM2.out,X7⟩
              case measure=>simp [intOf];omega
            | false =>
              have HM2:Hid (maskOf ((rightsD c d).take (i+1))=mk):=hHd (by rw [HMT.out];simp);clear HMT HMB;(go_wp2_with fail);go_roundw
              case rel=>exact⟨i+1,by omega,by go_num,by rw [HM2.out],X7⟩
              case measure=>simp [intOf];omega
          · obtain rfl : i = c.clms.length := by omega
            have HBX:Hid (bitsD c (nthT c k)=(maskOf ((rightsD c d).take c.clms.length):Nat)):=hHd (by
              rw [HBX0.out,List.take_of_length_le (by simp [rightsD])])
            generalize (maskOf ((rightsD c d).take c.clms.length):Int)=mk at*;clear hx5;have OWN:=hHd (own_extR HO.out.2 (show Ext wo w5 from XOW.out));have HNK:=hHd HO.out.1;have hnk:n≤2000:=by have:=HO.out.1;omega
            have HWS:=hHd (Ext.size (Ext.trans hx XOW.out));clear HO;go_wp2_with (at_builtin;refine wpList_append_own_at _ rfl _ _ 22 rfl W.heap.size 3 i0 (.int .i64 0) 1 8 Tryz.underlying22 hi0 hz0 hz1 hz2 rfl (by decide) (.slice a n q) n (((allD c).take k).map (Value.int .i64)) rfl ?own ⟨w5.heap.size,0,none⟩ 1 1 [.int .i64 mk] rfl rfl (one_inN (Ext.refl _) rfl) ?one ?fit1 ?fit2 ?fit3 ?next)
            case own=>exact own_keep OWN.out (fun g hg=>((Ext.refl w5).alloc _).heap (own_lt OWN.out hg).2)
            case one=>
              intro u hu
              simp only [List.mem_cons,List.not_mem_nil,or_false] at hu;rw [hu];rfl
            case fit1=>simp only [maxLen];omega
            case fit2=>omega
            case fit3=>have h1:=HWS.out;simp;omega
            case next=>
              intro v' w9 hown hgrow hnil hat
              have hx9:Ext W w9:=grown_ext ((Ext.trans hx XOW.out).alloc _) hgrow (fun g hg=>(own_lt OWN.out hg).1)
              have HO9:Hid (n+1=k+1∧w9.ownsRow W.heap.size 3 1 v' (n+1) (((allD c).take (k+1)).map (Value.int .i64))):=hHd (by
                rw [HNX.out k hlt,HBX.out];exact⟨by rw [HNK.out],by simpa using hown⟩)
              rcases own_open hown with ⟨-,h0⟩|⟨g,cap,rfl,-,-,-,-⟩
              · omega
              · clear hown hgrow hnil hat; (go_wp2_with fail); go_roundw
                case rel=>exact⟨k+1,n+1,_,_,by omega,by go_num,rfl,HO9,hx9⟩
                case measure=>simp [intOf];omega
    · obtain rfl : k = N := by omega
      have HV:Hid (IntsV wo (.slice a n q) (allD c)):=hHd (by
        have e:(allD c).take k=allD c:=List.take_of_length_le (by rw [HAL.out.1];exact Nat.le_refl _);have h:=HO.out.2;rw [e] at h;exact own_intsB h rfl (by rw [HO.out.1,HAL.out.1]) HAL.out.2 (by rw [HAL.out.1];omega))
      clear HO;(go_wp2_with fail);(with_reducible refine(HMN.out _ (X.trans EX)).mono ?_);rintro e w2 ⟨rfl,hx2⟩;(go_wp2_with fail);go_ret;exact⟨_,rfl,HV.out.ext EX,EX⟩
end Go.Proofs.YtegkdnfeceomdaaGreat
