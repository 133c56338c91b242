/- Bundled: what the texts OT HYT HYB HYC say one after another. -/
import Derived.Test.YtegkdnfeceomdaaGreatKDA17
import Derived.Test.YtegkdnfeceomdaaGreatKDC2
import Derived.Test.YtegkdnfeceomdaaGreatKDS1
import Derived.Test.YtegkdnfeceomdaaGreatKDC5
import Derived.Test.YtegkdnfeceomdaaGreatKDW1
import Derived.Test.YtegkdnfeceomdaaGreatKDA4
import Derived.Test.YtegkdnfeceomdaaGreatKDA6
import Derived.Test.YtegkdnfeceomdaaGreatKDA26
import Derived.Test.YtegkdnfeceomdaaGreatKDA23
set_option maxRecDepth 100000
set_option maxHeartbeats 16000000
set_option linter.unusedSimpArgs false
set_option linter.unusedVariables false
namespace Go.Hs
open Go.RowKit Go.Proofs.YtegkdnfeceomdaaGreat
theorem ints_kpX {U:Nat} {p:Nat→Prop} {a b:World} {x:Option Addr} {l q:Nat} {xs:List Int} (h:IntsV a (.slice x l q) xs) (k:KP p a b) (hp:∀j,p j→j<U) (hx:∀c o,x=some ⟨c,o,none⟩→U≤c):IntsV b (.slice x l q) xs:=by
 obtain⟨x',q',e,h1,h2,h3⟩:=h;refine⟨x',q',e,h1,h2,fun i hi=> ?_⟩
 obtain⟨c,o,rfl,hc,hc2⟩:=h3 i hi;simp only [Value.slice.injEq] at e;have hge:=hx c o e.1;exact⟨c,o,rfl,k.keep (fun g=>by have:=hp _ g;omega) hc,hc2⟩
theorem tru_kpX {U:Nat} {p:Nat→Prop} {a b:World} {v:Value} {t:DTr} (h:TruV a v t) (hB:TruB U v) (k:KP p a b) (hp:∀j,p j→j<U):TruV b v t:=by
 obtain⟨ad,nd,cd,as',ns,cs,at',nt,ct,lo,e,h1,h2,h3⟩:=hB;obtain⟨vd,vs,vst,e2,g1,g2,g3⟩:=h;rw [e] at e2;simp only [Value.agg.injEq,Array.mk.injEq,List.cons.injEq,and_true] at e2;obtain⟨rfl,rfl,rfl,e3⟩:=e2;exact⟨_,_,_,by rw [e,e3],ints_kpX g1 k hp h1,ints_kpX g2 k hp h2,ints_kpX g3 k hp h3⟩
def TruS (row:Option Nat) (w:World) (v:Value) (t:DTr):Prop:=∀w',KP (fun j=>row=some j) w w'→TruV w' v t
theorem TruS.here {row:Option Nat} {w:World} {v:Value} {t:DTr} (h:TruS row w v t):TruV w v t:=h w (KP.refl _)
theorem TruS.move {row row':Option Nat} {w w':World} {v:Value} {t:DTr} (h:TruS row w v t) (k:KP (fun j=>row=some j) w w') (hr:∀j,row'=some j→row=some j∨w.heap.size≤j):TruS row' w' v t:=
 fun _ k2=>h _ (KP.joinH k k2 hr)
theorem TruS.new {row:Option Nat} {U:Nat} {w:World} {v:Value} {t:DTr} (h:TruV w v t) (hB:TruB U v) (hr:∀j,row=some j→j<U):TruS row w v t:=fun _ k=>tru_kpX h hB k hr
structure OwnT (B e:Nat) (a:Option Addr) (n q:Nat) (us:List V4) (ts:List DTr) (w:World):Prop where
 own:w.ownsRow B e 4 (.slice a n q) n (us.flatMap V4.l)
 len:n=us.length
 len2:us.length=ts.length
 el:∀i (h1:i<us.length) (h2:i<ts.length),TruS (Value.slice a n q).ownBlock w us[i].val ts[i]
theorem OwnT.ext {B e:Nat} {a:Option Addr} {n q:Nat} {us:List V4} {ts:List DTr} {w w':World} (h:OwnT B e a n q us ts w) (x:Ext w w'):OwnT B e a n q us ts w':=
 ⟨own_extR h.own x,h.len,h.len2,fun i h1 h2=>(h.el i h1 h2).move (Ext.kp x) (fun _ hj=> .inl hj)⟩
theorem OwnT.nil (B e:Nat) (w:World):OwnT B e none 0 0 [] [] w:=⟨World.ownsRow_nil _ _ _ _,rfl,rfl,fun i h=>absurd h (Nat.not_lt_zero _)⟩
theorem OwnT.next {B e:Nat} {a a':Option Addr} {n q q' m:Nat} {us:List V4} {ts:List DTr} {w w1 w2:World} {u:V4} {t:DTr} {xs:List Value} (h:OwnT B e a n q us ts w) (hx:Ext w w1) (ht:TruV w1 u.val t) (hB:TruB w.heap.size u.val)
  (hg:KP (fun j=>(Value.slice a n q).ownBlock=some j) w1 w2) (ho:w2.ownsRow B e 4 (.slice a' m q') m xs) (hxs:xs=us.flatMap V4.l++u.l) (hm:m=n+1) (hat:(Value.slice a' m q').ownBlock=(Value.slice a n q).ownBlock∨∃g,(Value.slice a' m q').ownBlock=some g∧w1.heap.size≤g):OwnT B e a' m q' (us++ [u]) (ts++ [t]) w2:=by
 subst hxs hm
 have hr:∀j,(Value.slice a' (n+1) q').ownBlock=some j→(Value.slice a n q).ownBlock=some j∨w1.heap.size≤j:=fun j hj=>by
  rcases hat with h'|⟨g,h1,h2⟩
  ·left;rw [←h'];exact hj
  ·right;rw [h1] at hj;cases hj;exact h2
 have hn:TruS (Value.slice a n q).ownBlock w1 u.val t:=TruS.new ht hB (fun j hj=>(own_lt h.own hj).2);refine⟨by simpa using ho,by rw [h.len];simp,by simp [h.len2],fun i h1 h2=> ?_⟩
 rw [List.getElem_append,List.getElem_append];by_cases hi:i<us.length
 ·rw [dif_pos hi,dif_pos (by rw [←h.len2];exact hi)];exact((h.el i hi (by rw [←h.len2];exact hi)).move (Ext.kp hx) (fun _ hj=> .inl hj)).move hg hr
 ·rw [dif_neg hi,dif_neg (by rw [←h.len2];exact hi)];simp only [List.getElem_singleton];exact hn.move hg hr
def TrusV (w:World) (v:Value) (ts:List DTr):Prop:=∃(us:List V4) (a:Option Addr) (q:Nat),us.length=ts.length∧v= .slice a us.length q∧us.length≤q∧Cells4 w a us∧∀i (h1:i<us.length) (h2:i<ts.length),TruV w us[i].val ts[i]
theorem TrusV.ext {w w':World} {v:Value} {ts:List DTr} (h:TrusV w v ts) (x:Ext w w'):TrusV w' v ts:=by
 obtain⟨us,a,q,h1,h2,h3,h4,h5⟩:=h;exact⟨us,a,q,h1,h2,h3,h4.ext x,fun i g1 g2=>(h5 i g1 g2).ext x⟩
theorem OwnT.out {B e:Nat} {a:Option Addr} {n q:Nat} {us:List V4} {ts:List DTr} {w:World} (h:OwnT B e a n q us ts w):TrusV w (.slice a n q) ts:=by
 have hl:=h.len;have ho:=h.own;subst hl;refine⟨us,a,q,h.len2,rfl,?_,?_,fun i h1 h2=>(h.el i h1 h2).here⟩
 ·rcases own_open ho with ⟨e, h0⟩ | ⟨g, cap, e, -, -, hn, -⟩
  ·simp only [Value.slice.injEq] at e;omega
  ·simp only [Value.slice.injEq] at e;omega
 ·intro i hi
  obtain⟨g,rfl,-,-,hc⟩:=Hs.Own.at (C:=V4.l) (fun _=>rfl) (B:=B) (e:=e) (w:=w) (a:=a) (n:=us.length) (q:=q) (xs:=us) ho hi;exact⟨g,0,rfl,by have:=hc 0 _ rfl;simpa using this,by have:=hc 1 _ rfl;simpa using this,by have:=hc 2 _ rfl;simpa using this,by have:=hc 3 _ rfl;simpa using this⟩
theorem in4T {w wa:World} {b:Nat} {x0 x1 x2 x3:Value} {t:TypeId} (h:Ext (w.alloc (.cells #[x0,x1,x2,x3] t)) wa) (hb:b=w.heap.size):∀j u,([x0,x1,x2,x3]:List Value)[j]?=some u→wa.cell? ((⟨b,0,none⟩:Addr).add j)=some u:=by
 subst hb;intro j u hj
 have e:∀j,(⟨w.heap.size,0,none⟩:Addr).add j=⟨w.heap.size,j,none⟩:=fun j=>by unfold Addr.add;split<;>simp_all
 rw [e];rcases j with _|_|_|_|j
 all_goals first
  |(simp at hj;subst hj;exact h.keep (by simp [go_sem]))
  |(simp at hj)
def truTo (c:DCas) (k:Nat):List DTr:=(List.range k).filterMap (fun n:Nat=>if bitsD c (nthT c n)=2 ^ c.clms.length - 1 then some (nthT c n) else none)
theorem truTo_next (c:DCas) (k:Nat):truTo c (k+1)=if bitsD c (nthT c k)=2 ^ c.clms.length - 1 then truTo c k++ [nthT c k] else truTo c k:=by
 unfold truTo;rw [List.range_succ,List.filterMap_append];split
 ·rename_i h;simp [h]
 ·rename_i h;simp [h]
theorem truTo_len (c:DCas) (k:Nat):(truTo c k).length≤k:=by
 have:=List.length_filterMap_le (fun n:Nat=>if bitsD c (nthT c n)=2 ^ c.clms.length - 1 then some (nthT c n) else none) (List.range k);simpa [truTo] using this
end Go.Hs
namespace Go.Proofs.YtegkdnfeceomdaaGreat
open Go.RowKit Go.Hs
attribute [local irreducible] World.setCell World.alloc
theorem info_dtru:(Tryz.prog.info? 45).map (fun i=>(i.zero,i.size,i.bytes))=some (some (.agg #[.slice none 0 0,.slice none 0 0,.slice none 0 0,.int .i64 0]),4,80):=by kernel_rfl
theorem Truths_h (A : CaseA) (c : DCas) (w : World) (hm : CaseM w A c) (hc : caseD c = 0) :
    Calls Tryz.prog 37 #[A.v c] w fun e w'=>∃v,e= .returned v∧TrusV w' v (truR c)∧Ext w w':=by
  obtain⟨i0,hi0,hz0,hz1,hz2⟩:=info_parts info_dtru;have hS:=(caseD_zero hc).2.1;have hmb:=manyC_eq hc;obtain⟨N,hN⟩:∃N:Nat,N=(manyC c).toNat:=⟨_,rfl⟩;have hNc:manyC c=(N:Int):=by omega
  have hN2:N≤2000:=by omega
  have HAL:Hid (∀W,Ext w W→Calls Tryz.prog 95 #[A.v c] W fun e w'=>∃p q,e= .returned (.slice p N q)∧(∀V,Ext w' V→∀k,k<N→∃b o,p=some ⟨b,o,none⟩∧V.cell? ⟨b,o+k,none⟩=some (.int .i64 (bitsD c (nthT c k))))∧Ext W w'):=hHd (fun W hx=>(All_h A c W (hm.ext hx) hc).mono (fun e w' h=>by
    obtain⟨v,rfl,h1,h2⟩:=h;obtain⟨p,q,rfl,-,-⟩:=h1.cellsI;have hl:(allD c).length=N:=by rw [allD_len,hN]
    refine⟨p,q,by rw [hl],fun V hV k hk=> ?_,h2⟩
    obtain⟨p',q',he,-,h4⟩:=(h1.ext hV).cellsI;simp only [Value.slice.injEq] at he;obtain⟨rfl,-,rfl⟩:=he;obtain⟨b,o,e1,e2⟩:=h4 k (by omega);refine⟨b,o,e1,?_⟩
    rw [e2];congr 2
    have hk2:k<(allD c).length:=by omega
    rw [List.getD_eq_getElem?_getD,List.getElem?_eq_getElem hk2];simp [allD]))
  have HFU:Hid (∀W,Calls Tryz.prog 51 #[A.v c] W fun e w'=>e= .returned (.int .i64 (2 ^ c.clms.length - 1))∧Ext W w'):=hHd (fun W=>Full_h A c W hS.nm)
  have HNT:Hid (∀W (k:Nat),Ext w W→k<N→Calls Tryz.prog 48 #[A.v c,.int .i64 k] W fun e w'=>∃ad nd cd as' ns cs at' nt ct,e= .returned (.agg #[.slice ad nd cd,.slice as' ns cs,.slice at' nt ct,.int .i64 (nthT c k).loss])∧TruV w' (.agg #[.slice ad nd cd,.slice as' ns cs,.slice at' nt ct,.int .i64 (nthT c k).loss]) (nthT c k)∧TruB W.heap.size (.agg #[.slice ad nd cd,.slice as' ns cs,.slice at' nt ct,.int .i64 (nthT c k).loss])∧Ext W w'):=hHd (fun W k hx hk=>(Nth_dh A c k W (hm.ext hx) hc (by omega)).mono (fun e w' h=>by
    obtain⟨v,rfl,h1,h2,hx'⟩:=h;obtain⟨vd,vs,vst,rfl,g1,g2,g3⟩:=id h1;obtain⟨a1,c1,rfl,-⟩:=id g1;obtain⟨a2,c2,rfl,-⟩:=id g2;obtain⟨a3,c3,rfl,-⟩:=id g3;exact⟨_,_,_,_,_,_,_,_,_,rfl,h1,h2,hx'⟩))
  have HTN:=hHd (truTo_next c);have HTL:=hHd (truTo_len c);have HTR:Hid (truR c=truTo c N):=hHd (by unfold truR truTo;rw [hN]);rw [HTR.out];clear hm hc hS hmb hNc hN;obtain⟨a1,c1,a2,c2,a3,c3,a4,c4⟩:=A;unfold CaseA.v caseV at*;simp only at*;generalize (2:Int) ^ c.clms.length - 1=F at*;go_enter Tryz.func37,Tryz.ntmps37
  (go_wp2_with fail);obtain⟨W,hW,X,HS,HSf,HSz⟩:=bx11 w 41 (.int .i64 c.bk.last) (.int .i64 c.bk.owners) (.slice a1 c.bk.pars.length c1) (.slice a2 c.bk.ents.length c2) (.int .i64 c.soc) (.int .i64 c.day) (.int .i64 c.parcel) (.slice a3 c.covs.length c3) (.int .i64 c.llo) (.int .i64 c.lhi) (.slice a4 c.clms.length c4);rw [hW];clear hW;(with_reducible refine(HAL.out _ (X.trans EX)).mono ?_);rintro e w3 ⟨p,q0,rfl,hcl,hx3⟩;have HCL:=hHd hcl;have X3:Ext W w3:=EX;have HX3:=hHd X3;clear hcl hx3 X3;(go_wp2_with fail);go_loopw [4,5] (fun s4 s5 wr=>∃(k n:Nat) (a:Option Addr) (q:Nat) (us:List V4),k≤N∧s5= .int .i64 k∧s4= .slice a n q∧Hid (OwnT w3.heap.size 45 a n q us (truTo c k) wr)∧Ext w3 wr) (fun _ s _=>N - (intOf s).toNat)
  case atStart=>exact⟨0,0,none,0,[],Nat.zero_le _,rfl,rfl,hHd (OwnT.nil _ _ _),Ext.refl _⟩
  case round=>
    obtain⟨k,n,a,q,us,hk,rfl,rfl,HO,hx⟩:=hrel;obtain⟨wo,rfl⟩:∃x,x=wr:=⟨_,rfl⟩;have hk0:(0:Int)≤(k:Int):=by omega
    by_cases hlt:k<N
    · have hlt' : (k : Int) < (N : Int) := by omega
      obtain⟨b,o,rfl,-⟩:=HCL.out wo hx k hlt
      have HKV:Hid (∀V,Ext wo V→V.cell? ⟨b,o+k,none⟩=some (.int .i64 (bitsD c (nthT c k)))):=hHd (fun V h=>by
        obtain⟨b',o',e,h'⟩:=HCL.out V (hx.trans h) k hlt;cases e;exact h')
      have HNT2:=hHd (fun W hx=>HNT.out W k hx hlt);have HTK:=hHd (HTN.out k);have hnl:n≤2000:=by have h1:=HO.out.len;have h2:=HO.out.len2;have h3:=HTL.out k;omega
      have HCS:Hid (∀V,Ext wo V→((V.cell? ⟨w.heap.size,0,none⟩=some (.int .i64 c.bk.last)∧V.cell? ⟨w.heap.size,1,none⟩=some (.int .i64 c.bk.owners)∧V.cell? ⟨w.heap.size,2,none⟩=some (.slice a1 c.bk.pars.length c1)∧V.cell? ⟨w.heap.size,3,none⟩=some (.slice a2 c.bk.ents.length c2)∧V.cell? ⟨w.heap.size,4,none⟩=some (.int .i64 c.soc)∧V.cell? ⟨w.heap.size,5,none⟩=some (.int .i64 c.day)∧V.cell? ⟨w.heap.size,6,none⟩=some (.int .i64 c.parcel)∧V.cell? ⟨w.heap.size,7,none⟩=some (.slice a3 c.covs.length c3)∧V.cell? ⟨w.heap.size,8,none⟩=some (.int .i64 c.llo)∧V.cell? ⟨w.heap.size,9,none⟩=some (.int .i64 c.lhi)∧V.cell? ⟨w.heap.size,10,none⟩=some (.slice a4 c.clms.length c4)))):=hHd (fun V h=>(HS.out V ((HX3.out.trans hx).trans h)).1);obtain⟨B,hB⟩:∃B:Bool,B=(bitsD c (nthT c k)==F):=⟨_,rfl⟩;have HB:=hHd hB;clear hB;go_upto_region 6 with fail
      generalize bitsD c (nthT c k)=bv at*;refine wp_region_quiet (C:=Ext wo) (by kernel_rfl) (by kernel_rfl) (Ext.drew EX) ?_
      rw [tl]
      repeat (first
        |go_big_quiet_skip
        | (go_big_quiet_want
           first
            |(go_big_quiet_op;go_big_quiet_on)
            | (apply Exists.intro
               refine⟨fun w' hxw=> ?_,?_⟩
               focus (obtain⟨q0,q1,q2,q3,q4,q5,q6,q7,q8,q9,q10⟩:=HCS.out w' hxw;have mm:=HKV.out w' hxw;go_simp;first|exact rfl|(go_at_call 51;with_reducible refine(HFU.out w').mono ?_;exact fun e w'' h=>⟨h.1,hxw.trans h.2⟩))
               simp only [Act.put,List.setIfInBounds_toArray,List.set_cons_zero,List.set_cons_succ];go_big_quiet_on)))
      refine wpQuiet_nil ?_
      intro w2 hx2
      have HX2:Hid (Ext w3 w2):=hHd (hx.trans hx2);have hwo2:=hx2.size;clear HKV HCL;cases B with
      | true =>
        have hbt:(bv==F)=true:=HB.out.symm;have HT2:Hid (truTo c (k+1)=truTo c k++ [nthT c k]):=hHd (by rw [HTK.out,if_pos (eq_of_beq hbt)]);have HO2:Hid (OwnT w3.heap.size 45 a n q us (truTo c k) w2):=hHd (HO.out.ext hx2);obtain⟨q0,q1,q2,q3,q4,q5,q6,q7,q8,q9,q10⟩:=HCS.out w2 hx2;clear HTK HO HB HCS hx2;(go_wp2_with fail);(with_reducible refine(HNT2.out _ (X.trans (HX3.out.trans HX2.out))).mono ?_);rintro e w4 ⟨ad,nd,cd,as',ns,cs,at',nt,ct,rfl,ht,hb,hx4⟩;have HTT:=hHd ht;have HBB:=hHd hb;have HX4:=hHd hx4;have HW4:=hHd (Nat.le_trans HX2.out.size hx4.size);clear ht hb q0 q1 q2 q3 q4 q5 q6 q7 q8 q9 q10 hx4 HNT2 HNT;generalize (nthT c k).loss=ls at*;go_wp2_with (at_builtin;refine wpList_append_own_at _ rfl _ _ 77 rfl w3.heap.size 45 i0 (.agg #[.slice none 0 0,.slice none 0 0,.slice none 0 0,.int .i64 0]) 4 80 Tryz.underlying77 hi0 hz0 hz1 hz2 rfl (by decide) (.slice a n q) n (us.flatMap V4.l) rfl ?own ⟨w4.heap.size,0,none⟩ 1 1 [.slice ad nd cd,.slice as' ns cs,.slice at' nt ct,.int .i64 ls] rfl rfl (in4T (Ext.refl _) rfl) ?one ?fit1 ?fit2 ?fit3 ?next)
        case own=>exact own_extR HO2.out.own (HX4.out.alloc _)
        case one=>
          intro u hu
          simp only [List.mem_cons,List.not_mem_nil,or_false] at hu;rcases hu with rfl|rfl|rfl|rfl<;>rfl
        case fit1=>simp only [maxLen];omega
        case fit2=>omega
        case fit3=>have h1:=HW4.out;simp;omega
        case next=>
          intro v' w9 hown hgrow hnil hat
          have hx9:Ext w3 w9:=grown_ext ((HX2.out.trans HX4.out).alloc _) hgrow (fun g hg=>(own_lt HO2.out.own hg).1);rcases own_open hown with ⟨-,h0⟩|⟨g,cap,rfl,-,-,-,-⟩
          · omega
          · have HO9 : Hid (OwnT w3.heap.size 45 (some ⟨g, 0, none⟩) (n + 1) cap (us ++ [⟨.slice ad nd cd, .slice as' ns cs, .slice at' nt ct, .int .i64 ls⟩]) (truTo c (k + 1)) w9) := hHd (by
              rw [HT2.out];refine OwnT.next HO2.out (HX4.out.alloc _) (HTT.out.ext ((Ext.refl _).alloc _)) HBB.out (KP.grown hgrow (fun _ h=>h)) hown rfl rfl ?_
              rcases hat with h|h
              · exact .inl h
              · exact .inr ⟨_,h,by simp⟩)
            clear hown hgrow hnil hat;(go_wp2_with fail);go_roundw
            case rel=>exact⟨k+1,n+1,_,_,_,by omega,by go_num,rfl,HO9,hx9⟩
            case measure=>simp [intOf];omega
      | false =>
        have hbt:(bv==F)=false:=HB.out.symm
        have HO9:Hid (OwnT w3.heap.size 45 a n q us (truTo c (k+1)) w2):=hHd (by
          rw [HTK.out,if_neg (fun e=>by rw [e] at hbt;simp at hbt)];exact HO.out.ext hx2)
        clear HTK HO HB HCS HNT2;(go_wp2_with fail);go_roundw
        case rel=>exact⟨k+1,n,_,_,us,by omega,by go_num,rfl,HO9,HX2.out⟩
        case measure=>simp [intOf];omega
    · obtain rfl : k = N := by omega
      have HV:=hHd HO.out.out;clear HO;(go_wp2_with fail);go_ret;exact⟨_,rfl,HV.out,X.trans (HX3.out.trans hx)⟩
end Go.Proofs.YtegkdnfeceomdaaGreat
namespace Go.Hs
open Go.RowKit Go.Proofs.YtegkdnfeceomdaaGreat
structure Bd4 where
 pl:Int
 ph:Int
 rl:Int
 rh:Int
def Bd4.c (x:Bd4):V4:=⟨.int .i64 x.pl,.int .i64 x.ph,.int .i64 x.rl,.int .i64 x.rh⟩
structure OutB (g n:Nat) (u:Nat→Bd4) (w:World):Prop where
 c:∀i,i<n→Cell4 w g (i*4) (u i).c
 fr:∀o,w.frozen? ⟨g,o,none⟩=false
 lt:g<w.heap.size
theorem OutB.ext {g n:Nat} {u:Nat→Bd4} {w W:World} (h:OutB g n u w) (hx:Ext w W):OutB g n u W:=⟨fun i hi=>(h.c i hi).ext hx,fun o=>(hx.frozen h.lt).trans (h.fr o),Nat.lt_of_lt_of_le h.lt hx.size⟩
theorem own_fr {w:World} {B e k n g cap:Nat} {us:List Value} (h:w.ownsRow B e k (.slice (some ⟨g,0,none⟩) n cap) n us):∀o,w.frozen? ⟨g,o,none⟩=false:=fun o=>by
 rcases h.2 with ⟨h0,-⟩|⟨g',cap',cur,he,-,hg,-⟩
 ·cases h0
 ·cases he
  simp only [World.frozen?,hg];simp
theorem OutB.of {w:World} {B e n q:Nat} {a:Option Addr} {x:Bd4} (h:w.ownsRow B e 4 (.slice a n q) n ((List.replicate n x.c).flatMap V4.l)) (hn:0<n):∃g,a=some ⟨g,0,none⟩∧B≤g∧OutB g n (fun _=>x) w:=by
 rcases own_open h with ⟨-,h0⟩|⟨g,cap,he,hB,hg,-,-⟩
 ·omega
 ·simp only [Value.slice.injEq] at he; obtain ⟨rfl, -, rfl⟩ := he; refine ⟨g, rfl, hB, fun i hi => ?_, own_fr h, hg⟩
  obtain⟨g',e',-,-,hc⟩:=Hs.Own.at (C:=V4.l) (fun _=>rfl) (B:=B) (e:=e) (w:=w) (a:=some ⟨g,0,none⟩) (n:=(List.replicate n x.c).length) (q:=q) (xs:=List.replicate n x.c) (by show w.ownsRow B e 4 _ (List.replicate n x.c).length _;rw [List.length_replicate];exact h) (by simpa using hi:i<(List.replicate n x.c).length);cases e'
  have hx:(List.replicate n x.c)[i]'(by simpa using hi)=x.c:=by simp
  rw [hx] at hc;exact⟨by have:=hc 0 _ rfl;simpa using this,by have:=hc 1 _ rfl;simpa using this,by have:=hc 2 _ rfl;simpa using this,by have:=hc 3 _ rfl;simpa using this⟩
theorem OutB.put {g n k:Nat} {u v:Nat→Bd4} {w:World} {y:Bd4} (h:OutB g n u w) (hk:k<n) (hv:∀i,v i=if i=k then y else u i):
  OutB g n v ((((w.setCell ⟨g,k*4,none⟩ (.int .i64 y.pl)).setCell ⟨g,k*4+1,none⟩ (.int .i64 y.ph)).setCell ⟨g,k*4+2,none⟩ (.int .i64 y.rl)).setCell ⟨g,k*4+3,none⟩ (.int .i64 y.rh)):=by
 refine⟨fun i hi=> ?_,fun o=>by simp only [World.frozen?_setCell];exact h.fr o,by rw [size_set',size_set',size_set',size_set'];exact h.lt⟩
 rw [hv i]
 have hA:=setL_at (R:=g) y.c.l (k*4) w (fun j hj=>by
  obtain⟨k0,k1,k2,k3⟩:=h.c k hk;have hj:j<4:=hj;rcases j with _|_|_|_|j
  ·exact⟨_,k0⟩
  ·exact⟨_,k1⟩
  ·exact⟨_,k2⟩
  ·exact⟨_,k3⟩
  ·omega)
 by_cases e:i=k
 ·subst e;rw [if_pos rfl];exact⟨hA 0 _ rfl,hA 1 _ rfl,hA 2 _ rfl,hA 3 _ rfl⟩
 ·rw [if_neg e]; obtain ⟨k0, k1, k2, k3⟩ := h.c i hi; have N : ∀ {a b : Nat} {x v : Value} {W : World}, a < 4 → b < 4 → W.cell? ⟨g, i * 4 + a, none⟩ = some x → (W.setCell ⟨g, k * 4 + b, none⟩ v).cell? ⟨g, i * 4 + a, none⟩ = some x := fun ha hb hc => cell_ne (.inr (by omega)) hc
  have M:∀ {a:Nat} {x v0 v1 v2 v3:Value},a<4→w.cell? ⟨g,i*4+a,none⟩=some x→((((w.setCell ⟨g,k*4,none⟩ v0).setCell ⟨g,k*4+1,none⟩ v1).setCell ⟨g,k*4+2,none⟩ v2).setCell ⟨g,k*4+3,none⟩ v3).cell? ⟨g,i*4+a,none⟩=some x:=
   fun ha hc=>N ha (by omega) (N ha (by omega) (N ha (by omega) (N (b:=0) ha (by omega) hc)))
  exact⟨M (a:=0) (by omega) k0,M (by omega) k1,M (by omega) k2,M (by omega) k3⟩
structure TotB (T:Nat) (p:Int×Int) (w:World):Prop where
 c0:w.cell? ⟨T,0,none⟩=some (.int .i64 p.1)
 c1:w.cell? ⟨T,1,none⟩=some (.int .i64 p.2)
 fr:∀o,w.frozen? ⟨T,o,none⟩=false
 lt:T<w.heap.size
theorem TotB.kp {T:Nat} {p:Int×Int} {q:Nat→Prop} {w W:World} (h:TotB T p w) (k:KP q w W) (hq:¬q T):TotB T p W:=⟨k.keep hq h.c0,k.keep hq h.c1,fun o=>(k.frozen h.lt hq).trans (h.fr o),Nat.lt_of_lt_of_le h.lt k.size⟩
theorem OutB.kp {g n:Nat} {u:Nat→Bd4} {q:Nat→Prop} {w W:World} (h:OutB g n u w) (k:KP q w W) (hq:¬q g):OutB g n u W:=⟨fun i hi=>let ⟨k0,k1,k2,k3⟩:=h.c i hi;⟨k.keep hq k0,k.keep hq k1,k.keep hq k2,k.keep hq k3⟩,fun o=>(k.frozen h.lt hq).trans (h.fr o),Nat.lt_of_lt_of_le h.lt k.size⟩
theorem TotB.put {T:Nat} {p:Int×Int} {w:World} (h:TotB T p w) (lo hi:Int):TotB T (lo,hi) ((w.setCell ⟨T,0,none⟩ (.int .i64 lo)).setCell ⟨T,1,none⟩ (.int .i64 hi)):=
 ⟨cell_ne (.inr (by omega)) (World.cell?_setCell_same _ _ _ h.c0),World.cell?_setCell_same _ _ _ (cell_ne (.inr (by omega)) h.c1),fun o=>by simp only [World.frozen?_setCell];exact h.fr o,by rw [size_set',size_set'];exact h.lt⟩
def sumN (f:Nat→Int):Nat→Int
 |0=>0
 |n+1=>sumN f n+f n
theorem sumN_bd {f:Nat→Int} {n:Nat} (h:∀i,i<n→ -10000≤f i∧f i≤10000):∀k,k≤n→ -10000*(k:Int)≤sumN f k∧sumN f k≤10000*(k:Int)
  |0,_=>by simp [sumN]
  | k + 1, hk => by
    have:=sumN_bd h k (by omega);have:=h k (by omega);simp only [sumN];omega
def bdsK (F G:Nat→Nat→Int) (k i:Nat):Bd4:=⟨(wideF ((List.range k).map (fun j:Nat=>F j i))).1,(wideF ((List.range k).map (fun j:Nat=>F j i))).2,(wideF ((List.range k).map (fun j:Nat=>G j i))).1,(wideF ((List.range k).map (fun j:Nat=>G j i))).2⟩
def totK (F:Nat→Nat→Int) (n k:Nat):Int×Int:=wideF ((List.range k).map (fun j:Nat=>sumN (F j) n))
theorem wideR_next (f:Nat→Int) (k:Nat):wideF ((List.range (k+1)).map f)=(min (wideF ((List.range k).map f)).1 (f k),max (wideF ((List.range k).map f)).2 (f k)):=by
 rw [List.range_succ,List.map_append];exact wideF_snoc _ _
theorem bdsK_next (F G:Nat→Nat→Int) (k i:Nat):bdsK F G (k+1) i=⟨min (bdsK F G k i).pl (F k i),max (bdsK F G k i).ph (F k i),min (bdsK F G k i).rl (G k i),max (bdsK F G k i).rh (G k i)⟩:=by
 unfold bdsK;rw [wideR_next (fun j=>F j i),wideR_next (fun j=>G j i)]
theorem totK_next (F:Nat→Nat→Int) (n k:Nat):totK F n (k+1)=(min (totK F n k).1 (sumN (F k) n),max (totK F n k).2 (sumN (F k) n)):=wideR_next _ _
def bdsJ (F G:Nat→Nat→Int) (k j i:Nat):Bd4:=if i<j then bdsK F G (k+1) i else bdsK F G k i
theorem bdsJ_zero (F G:Nat→Nat→Int) (k:Nat):bdsJ F G k 0=bdsK F G k:=by funext i;simp [bdsJ]
theorem bdsJ_next (F G:Nat→Nat→Int) (k j i:Nat):bdsJ F G k (j+1) i=if i=j then bdsK F G (k+1) j else bdsJ F G k j i:=by
 unfold bdsJ;by_cases e:i=j
 ·subst e;simp
 ·rw [if_neg e]; by_cases h : i < j
  ·rw [if_pos h,if_pos (by omega)]
  ·rw [if_neg h,if_neg (by omega)]
theorem bdsJ_at (F G:Nat→Nat→Int) (k j:Nat):bdsJ F G k j j=bdsK F G k j:=by simp [bdsJ]
theorem OutB.done {F G:Nat→Nat→Int} {g n k:Nat} {w:World} (h:OutB g n (bdsJ F G k n) w):OutB g n (bdsK F G (k+1)) w:=⟨fun i hi=>by have:=h.c i hi;unfold bdsJ at this;rwa [if_pos hi] at this,h.fr,h.lt⟩
end Go.Hs
namespace Go.Proofs.YtegkdnfeceomdaaGreat
open Go.RowKit Go.Hs
attribute [local irreducible] World.setCell World.alloc
theorem info_dbd:(Tryz.prog.info? 83).map (fun i=>(i.zero,i.size,i.bytes))=some (some (.agg #[.int .i64 0,.int .i64 0,.int .i64 0,.int .i64 0]),4,32):=by kernel_rfl
theorem Bounds_g (A : CaseA) (c : DCas) (F G : Nat → Nat → Int) (us : List V4) (a : Option Addr) (q : Nat) (w : World) (hc : Cells4 w a us) (hN : us.length ≤ 2000) (hs : 1 ≤ c.soc ∧ c.soc ≤ 3) (hF : ∀ k i, k < us.length → i < c.soc.toNat → -10000 ≤ F k i ∧ F k i ≤ 10000)
  (HP:Hid (∀W k (h:k<us.length),Ext w W→Calls Tryz.prog 32 #[A.v c,us[k].val] W fun e w'=>∃b1 o1 q1 b2 o2 q2 am bb,e= .returned (.tuple #[.slice (some ⟨b1,o1,none⟩) c.soc.toNat q1,.slice (some ⟨b2,o2,none⟩) c.soc.toNat q2,.int .i64 am,.bool bb])∧W.heap.size≤b1∧W.heap.size≤b2∧(∀i,i<c.soc.toNat→w'.cell? ⟨b1,o1+i,none⟩=some (.int .i64 (F k i))∧w'.cell? ⟨b2,o2+i,none⟩=some (.int .i64 (G k i)))∧Ext W w')):
  Calls Tryz.prog 36 #[A.v c,.slice a us.length q] w fun e w'=>∃g q',e= .returned (.tuple #[.slice (some ⟨g,0,none⟩) c.soc.toNat q',.agg #[.int .i64 (totK F c.soc.toNat us.length).1,.int .i64 (totK F c.soc.toNat us.length).2]])∧w.heap.size≤g∧OutB g c.soc.toNat (bdsK F G us.length) w'∧Ext w w':=by
 obtain⟨i0,hi0,hz0,hz1,hz2⟩:=info_parts info_dbd
 have HCU:Hid (∀W,Ext w W→∀k (h:k<us.length),∃b o,a=some ⟨b,o,none⟩∧Cell4 W b (o+k*4) us[k]):=hHd (fun W hx k h=>by
  obtain⟨b,o,e,h1⟩:=hc k h;exact⟨b,o,e,h1.ext hx⟩)
 have HSM:Hid (∀k,k<us.length→∀j,j≤c.soc.toNat→ -30000≤sumN (F k) j∧sumN (F k) j≤30000):=hHd (fun k hk j hj=>by
  have:=sumN_bd (hF k · hk) j hj;omega)
 have HF:=hHd hF;have HBN:=hHd (bdsK_next F G);have HTN:=hHd (totK_next F c.soc.toNat);obtain⟨a1,c1,a2,c2,a3,c3,a4,c4⟩:=A;unfold CaseA.v caseV at*;simp only at*;have hsn:c.soc=(c.soc.toNat:Int):=by omega
 generalize c.soc.toNat=n at*;generalize c.soc=s at*;subst hsn;have hn3:1≤n∧n≤3:=by omega
 clear hs hc hF;go_enter Tryz.func36,Tryz.ntmps36
 (go_wp2_with fail);obtain⟨W,hW⟩:∃W,W=((w.alloc (.cells #[.int .i64 c.bk.last,.int .i64 c.bk.owners,.slice a1 c.bk.pars.length c1,.slice a2 c.bk.ents.length c2,.int .i64 n,.int .i64 c.day,.int .i64 c.parcel,.slice a3 c.covs.length c3,.int .i64 c.llo,.int .i64 c.lhi,.slice a4 c.clms.length c4] 41)).alloc (.cells #[.int .i64 0,.int .i64 0] 38)):=⟨_,rfl⟩;have X:Ext w W:=by subst hW;exact EX
 have HS:Hid (∀w',Ext W w'→(w'.cell? ⟨w.heap.size,0,none⟩=some (.int .i64 c.bk.last)∧w'.cell? ⟨w.heap.size,1,none⟩=some (.int .i64 c.bk.owners)∧w'.cell? ⟨w.heap.size,2,none⟩=some (.slice a1 c.bk.pars.length c1)∧w'.cell? ⟨w.heap.size,3,none⟩=some (.slice a2 c.bk.ents.length c2)∧w'.cell? ⟨w.heap.size,4,none⟩=some (.int .i64 n)∧w'.cell? ⟨w.heap.size,5,none⟩=some (.int .i64 c.day)∧w'.cell? ⟨w.heap.size,6,none⟩=some (.int .i64 c.parcel)∧w'.cell? ⟨w.heap.size,7,none⟩=some (.slice a3 c.covs.length c3)∧w'.cell? ⟨w.heap.size,8,none⟩=some (.int .i64 c.llo)∧w'.cell? ⟨w.heap.size,9,none⟩=some (.int .i64 c.lhi)∧w'.cell? ⟨w.heap.size,10,none⟩=some (.slice a4 c.clms.length c4))∧Ext W w'):=hHd (fun w' hx=>⟨by subst hW;and_intros<;>exact hx.keep (by simp [go_sem]),hx⟩);have HSf:Hid (∀w',Ext W w'→∀o,w'.frozen? ⟨w.heap.size+1,o,none⟩=false):=hHd (fun w' hx o=>(hx.frozen (by subst hW;simp)).trans (by subst hW;simp [go_sem]));have HSz:w.heap.size+1+1≤W.heap.size:=by subst hW;simp
 have HB1:Hid (∀w',Ext W w'→((∃v,w'.cell? ⟨w.heap.size+1,0,none⟩=some v)∧(∃v,w'.cell? ⟨w.heap.size+1,1,none⟩=some v))∧∀o,w'.frozen? ⟨w.heap.size+1,o,none⟩=false):=hHd (fun w' hx=>⟨⟨⟨_,hx.keep (v:= .int .i64 0) (by subst hW;simp [go_sem])⟩,⟨_,hx.keep (v:= .int .i64 0) (by subst hW;simp [go_sem])⟩⟩,fun o=>(hx.frozen (by subst hW;simp;try omega)).trans (by subst hW;simp [go_sem])⟩);rw [←hW];clear hW;(with_reducible refine(Empty_h _).mono ?_);rintro e w1 ⟨rfl,hx1⟩;have hs1:=hx1.size;(go_wp2_with fail);obtain⟨W2,hW2⟩:∃x,x=(w1.alloc (.cells #[.int .i64 1099511627776,.int .i64 (-1099511627776)] 38)):=⟨_,rfl⟩
 have HTB:Hid (TotB w1.heap.size (totK F n 0) W2):=hHd (by
  subst hW2;exact⟨by simp [go_sem];rfl,by simp [go_sem];rfl,fun o=>by simp [go_sem],by simp [go_sem]⟩)
 have X2:Ext W W2:=by subst hW2;exact EX
 have hs2:w1.heap.size<W2.heap.size:=by subst hW2;simp
 rw [←hW2];clear hW2 hx1;(go_wp2_with fail);go_loopw [6,8] (fun s6 s8 wr=>∃(k m:Nat) (a:Option Addr) (q:Nat),k≤n∧m=k∧s8= .int .i64 k∧s6= .slice a m q∧Hid (wr.ownsRow W2.heap.size 83 4 (.slice a m q) m ((List.replicate k (Bd4.c ⟨1099511627776,-1099511627776,1099511627776,-1099511627776⟩)).flatMap V4.l))∧Ext W2 wr) (fun _ s _=>n - (intOf s).toNat)
 case atStart=>exact⟨0,0,none,0,Nat.zero_le _,rfl,rfl,rfl,hHd (World.ownsRow_nil _ _ _ _),Ext.refl _⟩
 case round =>
  obtain⟨k,m,a,q,hk,hmk,rfl,rfl,HO,hx⟩:=hrel;obtain⟨wo,rfl⟩:∃x,x=wr:=⟨_,rfl⟩;have hk0:(0:Int)≤(k:Int):=by omega
  have HM:=hHd hmk;by_cases hlt:k<n
  ·have hlt' : (k : Int) < (n : Int) := by omega
   have hm3:m≤3:=by omega
   obtain⟨⟨q0,q1,q2,q3,q4,q5,q6,q7,q8,q9,q10⟩,-⟩:=HS.out wo (X2.trans hx);have hxs:=hx.size;have HX:=hHd hx;have XW:=X2.trans hx;clear hmk hx HTB;(go_wp2_with fail);(with_reducible refine(Empty_h _).mono ?_);rintro e w4 ⟨rfl,hx4⟩;(go_wp2_with fail);(with_reducible refine(Empty_h _).mono ?_);rintro e w5 ⟨rfl,hx5⟩;have HX5:Hid (Ext wo w5):=hHd EX;have HW5:=hHd (Nat.le_trans hxs HX5.out.size);clear q0 q1 q2 q3 q4 q5 q6 q7 q8 q9 q10 hx4 hx5;go_wp2_with (at_builtin;refine wpList_append_own_at _ rfl _ _ 74 rfl W2.heap.size 83 i0 (.agg #[.int .i64 0,.int .i64 0,.int .i64 0,.int .i64 0]) 4 32 Tryz.underlying74 hi0 hz0 hz1 hz2 rfl (by decide) (.slice a m q) m ((List.replicate k (Bd4.c ⟨1099511627776,-1099511627776,1099511627776,-1099511627776⟩)).flatMap V4.l) rfl ?own ⟨w5.heap.size,0,none⟩ 1 1 [.int .i64 1099511627776,.int .i64 (-1099511627776),.int .i64 1099511627776,.int .i64 (-1099511627776)] rfl rfl (in4T (Ext.refl _) rfl) ?one ?fit1 ?fit2 ?fit3 ?next)
   case own=>exact own_extR HO.out (HX5.out.alloc _)
   case one=>
    intro u hu
    simp only [List.mem_cons,List.not_mem_nil,or_false] at hu;rcases hu with rfl|rfl|rfl|rfl<;>rfl
   case fit1=>simp only [maxLen];omega
   case fit2=>omega
   case fit3=>have h1:=HW5.out;simp;omega
   case next=>
    intro v' w9 hown hgrow hnil hat
    have hx9:Ext W2 w9:=grown_ext ((HX.out.trans HX5.out).alloc _) hgrow (fun g hg=>(own_lt HO.out hg).1);rcases own_open hown with ⟨-,h0⟩|⟨g,cap,rfl,-,-,-,-⟩
    ·omega
    ·have HO9 : Hid (w9.ownsRow W2.heap.size 83 4 (.slice (some ⟨g, 0, none⟩) (m + 1) cap) (m + 1) ((List.replicate (k + 1) (Bd4.c ⟨1099511627776, -1099511627776, 1099511627776, -1099511627776⟩)).flatMap V4.l)) := hHd (by
      rw [List.replicate_succ',List.flatMap_append];exact hown)
     clear hown hgrow hnil hat;(go_wp2_with fail);go_roundw
     case rel=>exact⟨k+1,m+1,_,_,by omega,by rw [HM.out],by go_num,rfl,HO9,hx9⟩
     case measure=>simp [intOf];omega
  ·obtain rfl : k = n := by omega
   obtain rfl:m=k:=HM.out;obtain⟨g,rfl,hgB,hOB⟩:=OutB.of HO.out (by omega);have hgW:W.heap.size≤g:=by have:=X2.size;omega
   have hgT:g≠w1.heap.size:=by omega
   have HOUT:Hid (OutB g m (bdsK F G 0) wo):=hHd hOB;have HTOT:Hid (TotB w1.heap.size (totK F m 0) wo):=hHd (HTB.out.kp (q:=fun _=>False) (Ext.kp hx) (fun h=>h));have XO:=X2.trans hx;obtain⟨⟨q0,q1,q2,q3,q4,q5,q6,q7,q8,q9,q10⟩,-⟩:=HS.out wo XO;clear HO HTB HM hmk hOB hx hlt;(go_wp2_with fail);go_loopw [9] (fun s9 wr=>∃k:Nat,k≤us.length∧s9= .int .i64 k∧Hid (OutB g m (bdsK F G k) wr)∧Hid (TotB w1.heap.size (totK F m k) wr)∧Ext W wr) (fun s _=>us.length - (intOf s).toNat)
   case atStart=>exact⟨0,Nat.zero_le _,rfl,HOUT,HTOT,EX⟩
   case round =>
    obtain⟨k,hk,rfl,HO,HT,hx⟩:=hrel;clear HOUT HTOT XO q0 q1 q2 q3 q4 q5 q6 q7 q8 q9 q10 X2 hs2;obtain⟨wo,rfl⟩:∃x,x=wr:=⟨_,rfl⟩;have hk0:(0:Int)≤(k:Int):=by omega
    by_cases hlt:k<us.length
    ·have hlt' : (k : Int) < (us.length : Int) := by omega
     obtain⟨b,o,rfl,hcu⟩:=HCU.out wo (X.trans hx) k hlt;have HPK:=hHd (fun V (h:Ext w V)=>HP.out V k hlt h);have HFK:=hHd (fun j (h:j<m)=>HF.out k j hlt h);have HSK:=hHd (HSM.out k hlt);have HCS:Hid (∀V,Ext wo V→((V.cell? ⟨w.heap.size,0,none⟩=some (.int .i64 c.bk.last)∧V.cell? ⟨w.heap.size,1,none⟩=some (.int .i64 c.bk.owners)∧V.cell? ⟨w.heap.size,2,none⟩=some (.slice a1 c.bk.pars.length c1)∧V.cell? ⟨w.heap.size,3,none⟩=some (.slice a2 c.bk.ents.length c2)∧V.cell? ⟨w.heap.size,4,none⟩=some (.int .i64 m)∧V.cell? ⟨w.heap.size,5,none⟩=some (.int .i64 c.day)∧V.cell? ⟨w.heap.size,6,none⟩=some (.int .i64 c.parcel)∧V.cell? ⟨w.heap.size,7,none⟩=some (.slice a3 c.covs.length c3)∧V.cell? ⟨w.heap.size,8,none⟩=some (.int .i64 c.llo)∧V.cell? ⟨w.heap.size,9,none⟩=some (.int .i64 c.lhi)∧V.cell? ⟨w.heap.size,10,none⟩=some (.slice a4 c.clms.length c4))∧V.cell? ⟨b,o+k*4,none⟩=some us[k].c0∧V.cell? ⟨b,o+k*4+1,none⟩=some us[k].c1∧V.cell? ⟨b,o+k*4+2,none⟩=some us[k].c2∧V.cell? ⟨b,o+k*4+3,none⟩=some us[k].c3)∧Ext wo V):=hHd (fun V h=>⟨⟨(HS.out V (hx.trans h)).1,h.keep hcu.1,h.keep hcu.2.1,h.keep hcu.2.2.1,h.keep hcu.2.2.2⟩,h⟩);have XW:=X.trans hx;have HX:=hHd hx;clear hcu hx HP HSM HF;go_upto_region 10 with fail
     go_region_held3 (fun w'=>((w'.cell? ⟨w.heap.size,0,none⟩=some (.int .i64 c.bk.last)∧w'.cell? ⟨w.heap.size,1,none⟩=some (.int .i64 c.bk.owners)∧w'.cell? ⟨w.heap.size,2,none⟩=some (.slice a1 c.bk.pars.length c1)∧w'.cell? ⟨w.heap.size,3,none⟩=some (.slice a2 c.bk.ents.length c2)∧w'.cell? ⟨w.heap.size,4,none⟩=some (.int .i64 m)∧w'.cell? ⟨w.heap.size,5,none⟩=some (.int .i64 c.day)∧w'.cell? ⟨w.heap.size,6,none⟩=some (.int .i64 c.parcel)∧w'.cell? ⟨w.heap.size,7,none⟩=some (.slice a3 c.covs.length c3)∧w'.cell? ⟨w.heap.size,8,none⟩=some (.int .i64 c.llo)∧w'.cell? ⟨w.heap.size,9,none⟩=some (.int .i64 c.lhi)∧w'.cell? ⟨w.heap.size,10,none⟩=some (.slice a4 c.clms.length c4))∧w'.cell? ⟨b,o+k*4,none⟩=some us[k].c0∧w'.cell? ⟨b,o+k*4+1,none⟩=some us[k].c1∧w'.cell? ⟨b,o+k*4+2,none⟩=some us[k].c2∧w'.cell? ⟨b,o+k*4+3,none⟩=some us[k].c3)∧Ext wo w')
      ((refine HCS.out _ ?_;exact EX))
      ((go_at_call 32;(with_reducible refine(HPK.out _ (XW.trans EX)).mono ?_);rintro e w4 ⟨b1,o1,q1',b2,o2,q2',am,bb,rfl,hb1,hb2,hcl,hx4⟩;have X4:Ext wo w4:=EX))
     all_goals
      have HCL:=hHd hcl;have hgo:=HO.out.lt;have hTo:=HT.out.lt;have hn1:b1≠g:=by have:=X4.size;simp at hb1;omega
      have hn2:b2≠g:=by have:=X4.size;simp at hb2;omega
      have HO4:Hid (OutB g m (bdsJ F G k 0) w4):=hHd (by rw [bdsJ_zero];exact HO.out.ext X4);have HT4:Hid (TotB w1.heap.size (totK F m k) w4):=hHd (HT.out.kp (q:=fun _=>False) (Ext.kp X4) (fun h=>h));have HXW4:=hHd (HX.out.trans X4);clear hcl hb1 hb2 hx4 HCS HPK HO HT;(go_wp2_with fail);go_loopw [14,15] (fun s14 s15 wr=>∃j:Nat,j≤m∧s15= .int .i64 j∧s14= .int .i64 (sumN (F k) j)∧Hid (OutB g m (bdsJ F G k j) wr)∧KP (fun b=>b=g) w4 wr) (fun _ s _=>m - (intOf s).toNat)
      case atStart=>exact⟨0,Nat.zero_le _,rfl,rfl,HO4,by(repeat (first|exact KP.refl _|with_reducible (first|assumption|refine KP.drew ?_|refine KP.alloc ?_ _|refine KP.setCell ?_ (rfl) _|refine KP.ext ?_ (by assumption)|refine KP.trans ?_ (by assumption)|refine Ext.kp (by assumption))))⟩
      case round=>
       obtain⟨j,hj,rfl,rfl,HJ,hkp⟩:=hrel;obtain⟨wi,rfl⟩:∃x,x=wr:=⟨_,rfl⟩;have hj0:(0:Int)≤(j:Int):=by omega
       have HKP:=hHd hkp;by_cases hjm:j<m
       ·have hjm' : (j : Int) < (m : Int) := by omega
        have hm3:m≤3:=by omega
        have hsb:=HSK.out j (by omega);have hfb:=HFK.out j hjm;have hpy:=fun V (h:KP (fun b=>b=g) w4 V)=>(show V.cell? ⟨b1,o1+j,none⟩=some (.int .i64 (F k j))∧V.cell? ⟨b2,o2+j,none⟩=some (.int .i64 (G k j)) from ⟨h.keep hn1 (HCL.out j hjm).1,h.keep hn2 (HCL.out j hjm).2⟩)
        have HS1:Hid (sumN (F k) (j+1)=sumN (F k) j+F k j):=hHd rfl;have hwS:IntKind.i64.wrap (sumN (F k) j+F k j)=sumN (F k) j+F k j:=IntWalk.i64_in _ (by omega);have HJN:Hid (∀i,bdsJ F G k (j+1) i=if i=j then ⟨min (bdsK F G k j).pl (F k j),max (bdsK F G k j).ph (F k j),min (bdsK F G k j).rl (G k j),max (bdsK F G k j).rh (G k j)⟩ else bdsJ F G k j i):=hHd (fun i=>by rw [bdsJ_next,HBN.out]);have hcj:=HJ.out.c j hjm;rw [bdsJ_at] at hcj;generalize bdsK F G k j=Y at*;obtain⟨pl,ph,rl,rh⟩:=Y;have HWA:=hHd (Wider_h pl ph (F k j));have HWB:=hHd (Wider_h rl rh (G k j));simp only at HJN;generalize F k j=x at*;generalize G k j=y at*;generalize min pl x=z0 at*;generalize max ph x=z1 at*;generalize min rl y=z2 at*;generalize max rh y=z3 at*;have HCJ:=hHd hcj;have HSS:Hid (∀w',KP (fun b=>b=g) wi w'→(w'.cell? ⟨b1,o1+j,none⟩=some (.int .i64 x)∧w'.cell? ⟨b2,o2+j,none⟩=some (.int .i64 y))∧KP (fun b=>b=g) wi w'):=hHd (fun w' h=>⟨hpy w' (HKP.out.trans h),h⟩);have HOLD:Hid (∀w',KP (fun b=>b=g) wi w'→Ext wi w'→(w'.cell? ⟨g,j*4,none⟩=some (.int .i64 pl)∧w'.cell? ⟨g,j*4+1,none⟩=some (.int .i64 ph)∧w'.cell? ⟨g,j*4+2,none⟩=some (.int .i64 rl)∧w'.cell? ⟨g,j*4+3,none⟩=some (.int .i64 rh))∧∀o,w'.frozen? ⟨g,o,none⟩=false):=hHd (fun w' _ h=>⟨HCJ.out.ext h,(HJ.out.ext h).fr⟩);have HPUT:Hid (∀w',KP (fun b=>b=g) wi w'→Ext wi w'→∃V,V=((((w'.setCell ⟨g,j*4,none⟩ (.int .i64 z0)).setCell ⟨g,j*4+1,none⟩ (.int .i64 z1)).setCell ⟨g,j*4+2,none⟩ (.int .i64 z2)).setCell ⟨g,j*4+3,none⟩ (.int .i64 z3))∧OutB g m (bdsJ F G k (j+1)) V∧KP (fun b=>b=g) wi V):=hHd (fun w' h hx=>⟨_,rfl,OutB.put (HJ.out.ext hx) hjm HJN.out,(((h.setCell (p:=fun b=>b=g) rfl _).setCell (p:=fun b=>b=g) rfl _).setCell (p:=fun b=>b=g) rfl _).setCell (p:=fun b=>b=g) rfl _⟩)
        clear hkp hpy hcj hsb hfb HT4 HSK HFK HXW4;go_upto_region 15 with fail
        refine wp_region_held_drew (S:=(fun w'=>(w'.cell? ⟨b1,o1+j,none⟩=some (.int .i64 x)∧w'.cell? ⟨b2,o2+j,none⟩=some (.int .i64 y))∧KP (fun b=>b=g) wi w')) (by kernel_rfl) ?_ (fun hHeld=> ?_)
        focus ((try dsimp only);(refine HSS.out _ ?_;(repeat (first|exact KP.refl _|with_reducible (first|assumption|refine KP.drew ?_|refine KP.alloc ?_ _|refine KP.setCell ?_ (rfl) _|refine KP.ext ?_ (by assumption)|refine KP.trans ?_ (by assumption)|refine Ext.kp (by assumption))))))
        repeat' (first
         |((first|refine tk 0 (v:= ?_) (hi:=rfl) (hy:=Or.inl ⟨by rfl,?_⟩) (h:= ?_)|refine tk 1 (v:= ?_) (hi:=rfl) (hy:=Or.inl ⟨by rfl,?_⟩) (h:= ?_)|refine tk 2 (v:= ?_) (hi:=rfl) (hy:=Or.inl ⟨by rfl,?_⟩) (h:= ?_)|refine tk 3 (v:= ?_) (hi:=rfl) (hy:=Or.inl ⟨by rfl,?_⟩) (h:= ?_)|refine tk 4 (v:= ?_) (hi:=rfl) (hy:=Or.inl ⟨by rfl,?_⟩) (h:= ?_)|refine tk 5 (v:= ?_) (hi:=rfl) (hy:=Or.inl ⟨by rfl,?_⟩) (h:= ?_)|refine tk 7 (v:= ?_) (hi:=rfl) (hy:=Or.inl ⟨by rfl,?_⟩) (h:= ?_)|refine tk 8 (v:= ?_) (hi:=rfl) (hy:=Or.inl ⟨by rfl,?_⟩) (h:= ?_)|refine tk 9 (v:= ?_) (hi:=rfl) (hy:=Or.inl ⟨by rfl,?_⟩) (h:= ?_)|refine tk 10 (v:= ?_) (hi:=rfl) (hy:=Or.inl ⟨by rfl,?_⟩) (h:= ?_)|refine tk 12 (v:= ?_) (hi:=rfl) (hy:=Or.inl ⟨by rfl,?_⟩) (h:= ?_)|refine tk 13 (v:= ?_) (hi:=rfl) (hy:=Or.inl ⟨by rfl,?_⟩) (h:= ?_)|refine tk 14 (v:= ?_) (hi:=rfl) (hy:=Or.inl ⟨by rfl,?_⟩) (h:= ?_)|refine tk 15 (v:= ?_) (hi:=rfl) (hy:=Or.inl ⟨by rfl,?_⟩) (h:= ?_)|refine tk 17 (v:= ?_) (hi:=rfl) (hy:=Or.inl ⟨by rfl,?_⟩) (h:= ?_)|refine tk 18 (v:= ?_) (hi:=rfl) (hy:=Or.inl ⟨by rfl,?_⟩) (h:= ?_)|refine tk 19 (v:= ?_) (hi:=rfl) (hy:=Or.inl ⟨by rfl,?_⟩) (h:= ?_)|refine tk 20 (v:= ?_) (hi:=rfl) (hy:=Or.inl ⟨by rfl,?_⟩) (h:= ?_)|refine tk 22 (v:= ?_) (hi:=rfl) (hy:=Or.inl ⟨by rfl,?_⟩) (h:= ?_)|refine tk 23 (v:= ?_) (hi:=rfl) (hy:=Or.inl ⟨by rfl,?_⟩) (h:= ?_));rotate_left;(focus (intro w hSw;(try dsimp only at hSw);go_simp;try (first|(with_reducible rfl)|(with_reducible exact rfl))));(try simp only [Act.put,List.getElem_toArray,List.getElem_cons_succ,List.getElem_cons_zero,List.setIfInBounds_toArray,List.set_cons_zero,List.set_cons_succ]))
         |((first|refine rdy [6,16] ?_|refine rdy [11,16] ?_|refine rdy [6] ?_|refine rdy [11] ?_|refine rdy [16] ?_|refine rdy [21] ?_|refine rdy [24] ?_);(repeat (refine AllReadyH.cons rfl (fun K hK=> ?_) ?_;(focus ((first|(obtain⟨⟨x0,x1,x2,x3⟩,xf⟩:=HOLD.out _ hHeld.2 EX;obtain⟨V,hV,hVO,hVK⟩:=HPUT.out _ hHeld.2 EX;go_simp;(rw [←hV]);clear hV x0 x1 x2 x3 xf)|(go_simp;((with_reducible refine(HWA.out _).mono ?_);rintro e w6 ⟨rfl,hx6⟩);go_wp2_with fail)|(go_simp;((with_reducible refine(HWB.out _).mono ?_);rintro e w7 ⟨rfl,hx7⟩);go_wp2_with fail)|(obtain⟨⟨x0,x1,x2,x3⟩,-⟩:=HOLD.out _ hHeld.2 EX;go_simp)|(obtain⟨⟨x0,x1,x2,x3⟩,-⟩:=HOLD.out _ hHeld.2 EX;go_simp)|go_simp);refine hK.out _ _ ?_ (fun hNew=> ?_);(focus ((try dsimp only);(refine HSS.out _ ?_;(repeat (first|exact KP.refl _|with_reducible (first|assumption|refine KP.drew ?_|refine KP.alloc ?_ _|refine KP.setCell ?_ (rfl) _|refine KP.ext ?_ (by assumption)|refine KP.trans ?_ (by assumption)|refine Ext.kp (by assumption)))))));clear hK K hHeld;have hHeld:=hNew;clear hNew;(try simp only [Act.put,List.getElem_toArray,List.getElem_cons_succ,List.getElem_cons_zero,List.setIfInBounds_toArray,List.set_cons_zero,List.set_cons_succ])));rotate_left));exact AllReadyH.nil)
         |(refine wpAnyH_done (by decide+kernel) ?_ _)
         |fail)
        all_goals
         obtain⟨⟨p1,p2⟩,-⟩:=HSS.out _ hVK;have HVO:=hHd hVO;have HVK:=hHd (HKP.out.trans hVK);clear hVO hVK HSS HOLD HPUT HWA HWB HCJ HJ HJN HKP;(go_wp2_with fail);go_roundw
         case rel=>exact⟨j+1,by omega,by go_num,by rw [HS1.out],HVO,HVK.out⟩
         case measure=>simp [intOf];omega
       ·obtain rfl : j = m := by omega
        have HJD:Hid (OutB g j (bdsK F G (k+1)) wi):=hHd HJ.out.done;have HTI:Hid (TotB w1.heap.size (totK F j k) wi):=hHd (HT4.out.kp hkp (fun e=>hgT e.symm));have HXI:Hid (Ext W wi):=hHd (hkp.toExt HXW4.out (fun b hb=>by subst hb;exact hgW));have HTK:=hHd (HTN.out k);have HWD:=hHd (Wider_h (totK F j k).1 (totK F j k).2 (sumN (F k) j));have t0:=HTI.out.c0;have t1:=HTI.out.c1;have tf:=HTI.out.fr;clear HT4 HJ HKP hkp HXW4 HSK HFK HCL hn1 hn2 HO4;(go_wp2_with fail);(with_reducible refine(HWD.out _).mono ?_);rintro e w6 ⟨rfl,hx6⟩;have X6:Ext wi w6:=EX;have HT6:Hid (TotB w1.heap.size (totK F j k) w6):=hHd (HTI.out.kp (q:=fun _=>False) (Ext.kp X6) (fun h=>h));have u0:=HT6.out.c0;have u1:=HT6.out.c1;have uf:=HT6.out.fr;have HX6:=hHd X6;have HXI6:=hHd (HXI.out.trans X6);clear t0 t1 tf hx6 X6 HTI;(go_wp2_with fail);go_roundw
        case rel=>
         refine⟨k+1,by omega,by go_num,hHd ((HJD.out.ext HX6.out).kp (q:=fun b=>b=w1.heap.size) (KP.setCell (p:=fun b=>b=w1.heap.size) (KP.setCell (p:=fun b=>b=w1.heap.size) (KP.refl _) rfl _) rfl _) hgT),hHd ?_,?_⟩
         ·rw [HTK.out];exact TotB.put HT6.out _ _
         ·exact((HXI6.out.setCell (by omega) _).setCell (by omega) _)
        case measure=>simp [intOf];omega
    ·obtain rfl : k = us.length := by omega
     obtain⟨⟨⟨v0,r0⟩,⟨v1,r1⟩⟩,rf⟩:=HB1.out wo hx;have t0:=HT.out.c0;have t1:=HT.out.c1;have HX:=hHd (X.trans hx);have HOX:Hid (∀q:Nat→Prop,∀V,¬q g→KP q wo V→OutB g m (bdsK F G us.length) V):=hHd (fun q V h1 h2=>HO.out.kp h2 h1);have hgr:¬(g=w.heap.size+1):=by omega
     have e0:=World.cell?_setCell_same wo ⟨w.heap.size+1,0,none⟩ (.int .i64 (totK F m us.length).1) r0;have e1:=World.cell?_setCell_same (wo.setCell ⟨w.heap.size+1,0,none⟩ (.int .i64 (totK F m us.length).1)) ⟨w.heap.size+1,1,none⟩ (.int .i64 (totK F m us.length).2) (cell_ne (.inr (by omega)) r1);have n0:(⟨w.heap.size+1,0,none⟩:Addr)≠⟨w.heap.size+1,1,none⟩:=by intro h;cases h
     clear HP HSM HF HBN HTN HO HT hx hlt;go_upto_region 18 with fail
     go_region
     all_goals
      (go_wp2_with fail);refine bodyPost_ret (v:= .tuple #[.slice (some ⟨g,0,none⟩) m q,.agg #[.int .i64 (totK F m us.length).1,.int .i64 (totK F m us.length).2]]) (by simp [results,Tryz.results36,go_sem,e0,e1]) rfl ?_
      refine⟨g,q,rfl,by have:=X.size;omega,HOX.out (fun b=>b=w.heap.size+1) _ hgr ?_,?_⟩
      ·have hK := KP.setCell (p := fun b => b = w.heap.size + 1) (KP.setCell (p := fun b => b = w.heap.size + 1) (KP.refl wo) rfl (.int .i64 (totK F m us.length).1) (i := 0)) rfl (.int .i64 (totK F m us.length).2) (i := 1)
       first
        |exact hK
        |exact hK.drew
      have hX:=HX.out;exact EX
end Go.Proofs.YtegkdnfeceomdaaGreat
namespace Go.Hs
open Go.RowKit Go.Proofs.YtegkdnfeceomdaaGreat
theorem sumN_tot {d:Dmg} (h:DmgOK d) {n:Nat} (h1:1≤n) (h3:n≤3) (hs1:n≤1→d.s1=0) (hs2:n≤2→d.s2=0):sumN (fun i:Nat=>payD d i) n=totD d:=by
 obtain⟨g0,g1,g2,-⟩:=dmg_laws h;obtain rfl|rfl|rfl:n=1∨n=2∨n=3:=by omega
 ·have:=hs1 (by omega);have:=hs2 (by omega);simp [sumN,payD,totD];omega
 ·have:=hs2 (by omega);simp [sumN,payD,totD];omega
 ·simp [sumN,payD,totD]
def bd4 (c:DCas) (i:Nat):Bd4:=⟨(bdsD c (fun d=>payD d i)).1,(bdsD c (fun d=>payD d i)).2,(bdsD c (fun d=>refundD d i)).1,(bdsD c (fun d=>refundD d i)).2⟩
theorem totK_eq {c:DCas} (h:caseD c=0) (hne:(truthsD c []).isEmpty=false):totK (fun k i=>payD (dmgK c k) i) c.soc.toNat (truR c).length=bdsD c totD:=by
 have hS:=(caseD_zero h).2.1.soc;rw [←wide_bds h totD (fun d hd=>by have:=pays_bd hd;unfold totD;omega) hne,dmgR_rng h,List.map_map];unfold totK;congr 1
 refine List.map_congr_left (fun k hk=> ?_)
 obtain⟨-,-,g1,g2,g3⟩:=dmgK_at h (List.mem_range.1 hk);exact sumN_tot g1 (by omega) (by omega) (fun _=>g2 (by omega)) (fun _=>g3 (by omega))
theorem bdsK_eq {c:DCas} (h:caseD c=0) (hne:(truthsD c []).isEmpty=false) {i:Nat} (hi:i<3):bdsK (fun k i=>payD (dmgK c k) i) (fun k i=>refundD (dmgK c k) i) (truR c).length i=bd4 c i:=by
 have e1:=wide_bds h (fun d=>payD d i) (fun d hd=>by have:=payD_le hd hi;omega) hne;have e2:=wide_bds h (fun d=>refundD d i) (fun d hd=>by have:=refundD_bd hd hi;omega) hne;rw [dmgR_rng h,List.map_map] at e1 e2;unfold bdsK bd4;rw [←e1,←e2];rfl
end Go.Hs
namespace Go.Proofs.YtegkdnfeceomdaaGreat
open Go.RowKit Go.Hs
theorem Bounds_h (A:CaseA) (c:DCas) (v:Value) (w:World) (hm:CaseM w A c) (hc:caseD c=0) (hne:(truthsD c []).isEmpty=false) (hv:TrusV w v (truR c)):
  Calls Tryz.prog 36 #[A.v c,v] w fun e w'=>∃g q',e= .returned (.tuple #[.slice (some ⟨g,0,none⟩) c.soc.toNat q',.agg #[.int .i64 (bdsD c totD).1,.int .i64 (bdsD c totD).2]])∧w.heap.size≤g∧OutB g c.soc.toNat (bd4 c) w'∧Ext w w':=by
 obtain⟨us,a,q,hl,rfl,-,hcu,htr⟩:=hv;have hS:=(caseD_zero hc).2.1.soc
 have hN:(truR c).length≤2000:=by
  have:=truTo_len c (manyC c).toNat;have h2:=manyC_eq hc;have e:truTo c (manyC c).toNat=truR c:=rfl;rw [e] at this;omega
 refine(Bounds_g A c (fun k i=>payD (dmgK c k) i) (fun k i=>refundD (dmgK c k) i) us a q w hcu (by omega) hS (fun k i hk hi=> ?_) (hHd (fun W k hk hx=> ?_))).mono (fun e w' h=> ?_)
 ·have:=payD_le (dmgK_at hc (by omega:k<(truR c).length)).2.2.1 (by omega:i<3);omega
 ·have hk2 : k < (truR c).length := by omega
  obtain⟨vd,vs,vst,e,i1,i2,i3⟩:=htr k hk hk2;obtain⟨g1,g2,g3,-⟩:=dmgK_at hc hk2;rw [e];refine(Pays_h A c _ vd vs vst W (hm.ext hx) hc (listedD_ok g1) (i1.ext hx) (i2.ext hx) (i3.ext hx)).mono (fun e w' h=> ?_)
  obtain⟨v1,v2,-,hy,hxx⟩:=h;obtain⟨rfl,j1,j2,n1,n2⟩:=hy _ g2;obtain⟨p1,q1,rfl,-,c1⟩:=j1.cellsI;obtain⟨p2,q2,rfl,-,c2⟩:=j2.cellsI;have l1:(payL (dmgK c k) c.soc.toNat).length=c.soc.toNat:=payL_len (by omega);have l2:(backL (dmgK c k) c.soc.toNat).length=c.soc.toNat:=backL_len;obtain⟨b1,o1,rfl,-⟩:=c1 0 (by omega);obtain⟨b2,o2,rfl,-⟩:=c2 0 (by omega);refine⟨b1,o1,q1,b2,o2,q2,_,_,by rw [l1,l2],n1 b1 rfl,n2 b2 rfl,fun i hi=>⟨?_,?_⟩,hxx⟩
  ·obtain ⟨b', o', e', k'⟩ := c1 i (by omega); cases e'
   rw [payL_at hi (by omega)] at k';exact k'
  ·obtain ⟨b', o', e', k'⟩ := c2 i (by omega); cases e'
   rw [backL_at hi] at k';exact k'
 ·obtain ⟨g, q', h1, hge, h2, h3⟩ := h; refine ⟨g, q', ?_, hge, ?_, h3⟩
  ·rw [h1,hl,totK_eq hc hne]
  ·refine ⟨fun i hi => ?_, h2.fr, h2.lt⟩
   rw [←bdsK_eq hc hne (by omega:i<3),←hl];exact h2.c i hi
end Go.Proofs.YtegkdnfeceomdaaGreat
