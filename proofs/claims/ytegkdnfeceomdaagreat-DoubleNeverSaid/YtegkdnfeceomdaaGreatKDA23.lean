/- Bundled: what the texts SW SX SZ say one after another. -/
import Derived.Test.YtegkdnfeceomdaaGreatKDA22
import Derived.Test.YtegkdnfeceomdaaGreatKDA4
set_option maxRecDepth 100000
set_option maxHeartbeats 16000000
set_option linter.unusedSimpArgs false
set_option linter.unusedVariables false
namespace Go.Hs
open Go.RowKit
def bndE (c:DCas):Int:=if askD c true≠0 then askD c true else if (truthsD c []).isEmpty then 11 else 0
def bdsD (c:DCas) (f:Dmg→Int):Int×Int:=(bdsL ((truthsD c []).map (fun x:DTr×Dmg=>f x.2))).getD (0,0)
def bnd1 (c:DCas) (k:Nat):(Int×Int)×(Int×Int):=(bdsD c (fun d=>payD d k),bdsD c (fun d=>refundD d k))
def bndsD (c:DCas) (n:Nat):List ((Int×Int)×(Int×Int)):=(List.range n).map (bnd1 c)
theorem bndsD_len (c:DCas) (n:Nat):(bndsD c n).length=n:=by simp [bndsD]
theorem bndsD_next (c:DCas) (n:Nat):bndsD c (n+1)=bndsD c n++ [bnd1 c n]:=by simp [bndsD,List.range_succ]
def bndC (b:(Int×Int)×(Int×Int)):List Value:= [.int .i64 b.1.1,.int .i64 b.1.2,.int .i64 b.2.1,.int .i64 b.2.2]
theorem own_mm {m B e k n:Nat} {v:Value} {us:List Value} {w w':World} (h:w.ownsRow B e k v n us) (hm:MM m w w') (hs:Stl m w):w'.ownsRow B e k v n us:=own_keep h (fun g hg=>hm.kp.block g (own_lt h hg).2 (fun e=>by
 subst e;obtain⟨es,clock,hr,-⟩:=hs;rcases h.2 with ⟨e0,-⟩|⟨g',cap,cur,e0,-,hg',-⟩
 ·rw [e0] at hg;cases hg
 ·rw [e0] at hg; simp [Value.ownBlock] at hg
  subst hg;rw [hr] at hg';cases hg'))
theorem WkD.kp {W0 w w':World} {p m:Nat} {A:CaseA} {c:DCas} {q:Nat→Prop} (h:WkD W0 p m A c w) (k:KP q w w') (hp:¬q p) (hm:¬q m) (h0:∀j,q j→W0.heap.size≤j):WkD W0 p m A c w':=
 ⟨k.toExt h.ext h0,fun i x hi=>k.keep hp (h.box i x hi),k.keep hp h.map,h.stl.of (k.block m h.stl.lt hm),fun o=>(k.frozen h.lt hp).trans (h.fr o),h.hp,h.hm⟩
theorem askD_cas {c:DCas} {fb:Bool} (h:askD c fb=0):CasS c:=(caseD_zero (askD_zero h).1).2.1
theorem bdsL_truths {c:DCas} {f:Dmg→Int} :(bdsL ((truthsD c []).map (fun x:DTr×Dmg=>f x.2))).isSome= !(truthsD c []).isEmpty:=by
 cases h:truthsD c [] with
 |nil=>rfl
 |cons x r=>exact bdsL_ne (by simp)
end Go.Hs
namespace Go.Proofs.YtegkdnfeceomdaaGreat
open Go.RowKit Go.Hs
attribute [local irreducible] World.setCell World.alloc
theorem fn_anything:FnOK 90:=fun args w=>by simp [go_sem]
theorem anything_d (w:World):Calls Tryz.prog 90 #[] w fun e w'=>e= .returned (.bool true)∧Ext w w':=by
 go_enter Tryz.func90,Tryz.ntmps90
 (go_wp2_with fail);go_ret;exact⟨rfl,Ext.refl _⟩
theorem ask_any (A:CaseA) (c:DCas) (w:World) (hm:CaseM w A c):Calls Tryz.prog 89 #[A.v c,.func (.func 90) #[] #[]] w (AskQ A c true w):=
 asked_d A c w hm 90 #[] true fn_anything (fun _ W _=>anything_d W)
theorem fn_pay:FnOK 91:=fun args w=>by simp [go_sem]
theorem fn_refund:FnOK 93:=fun args w=>by simp [go_sem]
theorem fn_together:FnOK 94:=fun args w=>by simp [go_sem]
theorem soc_ok {k:Nat} (h:k<3):(k:Int)=0∨(k:Int)=1∨(k:Int)=2:=by omega
theorem bds_f (p m:Nat) (A:CaseA) (c:DCas) (F:FuncId) (hF:FnOK F) (f:Dmg→Int) (k:Int) (w:World) (hS:CasS c) (hb:KB p m A c w)
  (hf:∀W d,MM m w W→DmgOK d→Calls Tryz.prog F #[.pointer (some ⟨p,0,none⟩),d.v,.int .i64 k] W fun e w'=>e= .returned (.int .i64 (f d))∧MM m W w'):
  Calls Tryz.prog 92 #[.agg #[.func (.func F) #[] #[]],.pointer (some ⟨p,0,none⟩),.int .i64 k] w fun e w'=>e= .returned (.tuple #[.agg #[.int .i64 (bdsD c f).1,.int .i64 (bdsD c f).2],.bool (!(truthsD c []).isEmpty)])∧MM m w w':=by
 have h:=bounds_dd p m A c F hF f k w hS hb hf;rw [bdsL_truths] at h;exact h
theorem bds_pay (p m:Nat) (A:CaseA) (c:DCas) (k:Nat) (hk:k<3) (w:World) (hS:CasS c) (hb:KB p m A c w):
  Calls Tryz.prog 92 #[.agg #[.func (.func 91) #[] #[]],.pointer (some ⟨p,0,none⟩),.int .i64 k] w fun e w'=>e= .returned (.tuple #[.agg #[.int .i64 (bdsD c (fun d=>payD d k)).1,.int .i64 (bdsD c (fun d=>payD d k)).2],.bool (!(truthsD c []).isEmpty)])∧MM m w w':=by
 exact bds_f p m A c 91 fn_pay (fun d=>payD d k) k w hS hb (fun W d hx hd=>by
  have kb:=hb.mm hx;exact pay_dd p m d k W kb.box.c11 kb.stl hd (soc_ok hk))
theorem bds_refund (p m:Nat) (A:CaseA) (c:DCas) (k:Nat) (hk:k<3) (w:World) (hS:CasS c) (hb:KB p m A c w):
  Calls Tryz.prog 92 #[.agg #[.func (.func 93) #[] #[]],.pointer (some ⟨p,0,none⟩),.int .i64 k] w fun e w'=>e= .returned (.tuple #[.agg #[.int .i64 (bdsD c (fun d=>refundD d k)).1,.int .i64 (bdsD c (fun d=>refundD d k)).2],.bool (!(truthsD c []).isEmpty)])∧MM m w w':=by
 exact bds_f p m A c 93 fn_refund (fun d=>refundD d k) k w hS hb (fun W d hx hd=>by
  have kb:=hb.mm hx;exact refund_dd p m d k W kb.box.c11 kb.stl hd (soc_ok hk))
theorem bds_together (p m:Nat) (A:CaseA) (c:DCas) (k:Int) (w:World) (hS:CasS c) (hb:KB p m A c w):
  Calls Tryz.prog 92 #[.agg #[.func (.func 94) #[] #[]],.pointer (some ⟨p,0,none⟩),.int .i64 k] w fun e w'=>e= .returned (.tuple #[.agg #[.int .i64 (bdsD c totD).1,.int .i64 (bdsD c totD).2],.bool (!(truthsD c []).isEmpty)])∧MM m w w':=by
 exact bds_f p m A c 94 fn_together totD k w hS hb (fun W d hx hd=>by
  have kb:=hb.mm hx;exact together_dd p m d k W kb.box.c11 kb.stl hd)
theorem info_bound:(Tryz.prog.info? 81).map (fun i=>(i.zero,i.size,i.bytes))=some (some (.agg #[.int .i64 0,.int .i64 0,.int .i64 0,.int .i64 0]),4,32):=by kernel_rfl
def BndQ (c:DCas) (w:World) (e:Ending) (w':World):Prop:=
 (bndE c≠0→e= .returned (.tuple #[.slice none 0 0,.int .i64 (bndE c)]))∧(bndE c=0→∃a q,e= .returned (.tuple #[.slice a c.soc.toNat q,.int .i64 0])∧Hs.Own 4 bndC w.heap.size 81 w' (.slice a c.soc.toNat q) (bndsD c c.soc.toNat))∧Ext w w'
theorem Bounds_d (A : CaseA) (c : DCas) (w : World) (hm : CaseM w A c) : Calls Tryz.prog 33 #[A.v c] w (BndQ c w) := by
  obtain⟨i1,hi1,hz10,hz11,hz12⟩:=info_parts info_bound;have HAK:=hHd (fun W (hx:Ext w W)=>ask_any A c W (hm.ext hx));have HB1:Hid (∀r,askD c true=r→r≠0→bndE c=r):=hHd (fun r h h0=>by unfold bndE;rw [h,if_pos h0]);have HB2:Hid (askD c true=0→(!(truthsD c []).isEmpty)=false→bndE c=11):=hHd (fun h h0=>by unfold bndE;rw [h];cases ht:(truthsD c []).isEmpty<;>simp_all);have HB3:Hid (askD c true=0→(!(truthsD c []).isEmpty)=true→bndE c=0):=hHd (fun h h0=>by unfold bndE;rw [h];cases ht:(truthsD c []).isEmpty<;>simp_all);have HBP:=hHd (fun(h:askD c true=0) p m k hk W W0 (hx:Ext w W0) (hb:WkD W0 p m A c W)=>bds_pay p m A c k hk W (askD_cas h) (hb.kb (hm.ext hx)));have HBR:=hHd (fun(h:askD c true=0) p m k hk W W0 (hx:Ext w W0) (hb:WkD W0 p m A c W)=>bds_refund p m A c k hk W (askD_cas h) (hb.kb (hm.ext hx)));have HSC:Hid (askD c true=0→1≤c.soc∧c.soc≤3):=hHd (fun h=>(askD_cas h).soc);clear hm;by_cases hE:askD c true=0
  · have hsc := HSC.out hE; obtain ⟨n, hn, hn1, hn3⟩ : ∃ n : Nat, c.soc = (n : Int) ∧ 1 ≤ n ∧ n ≤ 3 := ⟨c.soc.toNat, by omega, by omega, by omega⟩; have HAK2 : Hid (∀ W, Ext w W → Calls Tryz.prog 89 #[A.v c, .func (.func 90) #[] #[]] W fun e w' => ∃ p m, e = .returned (.tuple #[.pointer (some ⟨p, 0, none⟩), .int .i64 0]) ∧ WkD W p m A c w') := hHd (fun W hx => (HAK.out W hx).mono (fun e w' h => h.2.1 hE)); have HBP2 := hHd (HBP.out hE); have HBR2 := hHd (HBR.out hE); have HB22 := hHd (HB2.out hE); have HB32 := hHd (HB3.out hE); have HQ1 : Hid (∀ W, Ext w W → bndE c = 11 → BndQ c w (.returned (.tuple #[.slice none 0 0, .int .i64 11])) W) := hHd (fun W hx h11 => ⟨fun _ => by rw [h11], fun h => absurd (h11.symm.trans h) (by decide), hx⟩)
    have HQ0:Hid (∀W a q,Ext w W→bndE c=0→Hs.Own 4 bndC w.heap.size 81 W (.slice a n q) (bndsD c n)→BndQ c w (.returned (.tuple #[.slice a n q,.int .i64 0])) W):=hHd (fun W a q hx h0 ho=>⟨fun h=>absurd h0 h,fun _=>by
      have e:c.soc.toNat=n:=by omega
      rw [e];exact⟨a,q,rfl,ho⟩,hx⟩)
    clear HAK HB1 HB2 HB3 HBP HBR HSC hE hsc;obtain⟨tb,htb⟩:∃tb,tb= !(truthsD c []).isEmpty:=⟨_,rfl⟩;rw [←htb] at HB22 HB32 HBP2 HBR2;clear htb;obtain⟨a1,c1,a2,c2,a3,c3,a4,c4⟩:=A;unfold CaseA.v caseV at*;simp only at*;generalize c.bk.pars.length=n1 at*;generalize c.bk.ents.length=n2 at*;generalize c.covs.length=n3 at*;generalize c.clms.length=n4 at*;generalize c.bk.last=last at*;generalize c.bk.owners=owners at*;generalize c.day=day at*;generalize c.parcel=parcel at*;generalize c.llo=llo at*;generalize c.lhi=lhi at*;rw [hn] at HAK2⊢;have HNN:=hHd hn;clear hn;go_enter Tryz.func33,Tryz.ntmps33
    (go_wp2_with fail);obtain⟨W0,hW,X,HS,HSf,HSz⟩:=bx11 w 57 (.int .i64 last) (.int .i64 owners) (.slice a1 n1 c1) (.slice a2 n2 c2) (.int .i64 n) (.int .i64 day) (.int .i64 parcel) (.slice a3 n3 c3) (.int .i64 llo) (.int .i64 lhi) (.slice a4 n4 c4);rw [hW];clear hW;(with_reducible refine(HAK2.out _ X).mono ?_);rintro e w1 ⟨p,m,rfl,hwk⟩;obtain⟨⟨q0,q1,q2,q3,q4,q5,q6,q7,q8,q9,q10⟩,-⟩:=HS.out w1 hwk.ext;have HW1:=hHd hwk;clear HS HSf HAK2 hwk;(go_wp2_with fail);go_loopw [6,22] (fun s6 s22 wr=>∃(k m':Nat) (a5:Option Addr) (cq:Nat),k≤n∧m'=k∧s22= .int .i64 k∧s6= .slice a5 m' cq∧Hid (Hs.Own 4 bndC w1.heap.size 81 wr (.slice a5 m' cq) (bndsD c k))∧Hid (WkD W0 p m ⟨a1,c1,a2,c2,a3,c3,a4,c4⟩ c wr)∧w1.heap.size≤wr.heap.size∧Hid (k=0∨tb=true)) (fun _ s _=>n - (intOf s).toNat)
    case atStart=>exact⟨0,0,none,0,Nat.zero_le _,rfl,rfl,rfl,hHd (Hs.Own.nil _),HW1,Nat.le_refl _,hHd (.inl rfl)⟩
    case round=>
      obtain⟨k,m',a5,cq,hk,hmk,rfl,rfl,HO,HW,hz1,HT⟩:=hrel;obtain⟨wo,rfl⟩:∃x,x=wr:=⟨_,rfl⟩;by_cases hlt:k<n
      · have hk0 : (0 : Int) ≤ (k : Int) := by omega
        have hk1:(k:Int)<(n:Int):=by omega
        have hk3:k<3:=by omega
        have HM:=hHd hmk;have HNX:=hHd (bndsD_next c k);have HL:=hHd (bndsD_len c k);have hml:m'≤3:=by omega
        have HB1:Hid (bnd1 c k=(((bdsD c (fun d=>payD d k)).1,(bdsD c (fun d=>payD d k)).2),((bdsD c (fun d=>refundD d k)).1,(bdsD c (fun d=>refundD d k)).2))):=rfl;have HP:=hHd (fun W hb=>HBP2.out p m k hk3 W W0 X hb);have HR:=hHd (fun W hb=>HBR2.out p m k hk3 W W0 X hb);generalize (bdsD c (fun d=>payD d k)).1=pl at*;generalize (bdsD c (fun d=>payD d k)).2=ph at*;generalize (bdsD c (fun d=>refundD d k)).1=rl at*;generalize (bdsD c (fun d=>refundD d k)).2=rh at*;clear hmk;(go_wp2_with fail);(with_reducible refine(HP.out _ HW.out).mono ?_);rintro e w2 ⟨rfl,hm2⟩;have HW2:=hHd (HW.out.mm hm2);have hz2:wo.heap.size≤w2.heap.size:=hm2.size;have HO2:Hid (Hs.Own 4 bndC w1.heap.size 81 w2 (.slice a5 m' cq) (bndsD c k)):=hHd (own_mm HO.out hm2 HW.out.stl);clear hm2;(go_wp2_with fail);(with_reducible refine(HR.out _ (HW2.out.grow EX)).mono ?_);rintro e w3 ⟨rfl,hm3⟩;have hs2:m<w2.heap.size:=HW2.out.stl.lt;have XA:Ext w2 (w2.alloc (.cells #[.int .i64 pl,.int .i64 ph] 54)):=EX;have b0:=hm3.keep' (k:=w2.heap.size) (o:=0) (v:= .int .i64 pl) (by omega) (by simp [go_sem]);have b1:=hm3.keep' (k:=w2.heap.size) (o:=1) (v:= .int .i64 ph) (by omega) (by simp [go_sem]);have hz3:w2.heap.size<w3.heap.size:=lt_of_cell b0;have HW3:=hHd ((HW2.out.grow XA).mm hm3);have HO3:Hid (Hs.Own 4 bndC w1.heap.size 81 w3 (.slice a5 m' cq) (bndsD c k)):=hHd (own_mm (own_extR HO2.out XA) hm3 (HW2.out.grow XA).stl);clear hm3 XA;cases tb with
        | false =>
          have H11:=hHd (HB22.out rfl);have XE:Ext w w3:=X.trans HW3.out.ext;clear b0 b1;(go_wp2_with fail);go_ret2;exact HQ1.out _ EX H11.out
        | true =>
          have hsz:w1.heap.size≤w3.heap.size:=by omega
          have b0a:=fun o=>((Ext.refl w3).alloc o).keep b0
          have b1a:=fun o=>((Ext.refl w3).alloc o).keep b1
          have HLM:Hid (m'=(bndsD c k).length):=hHd (by rw [HL.out];exact HM.out);go_wp2_with (at_builtin;refine wpList_append_own_at _ rfl _ _ 68 rfl w1.heap.size 81 i1 (.agg #[.int .i64 0,.int .i64 0,.int .i64 0,.int .i64 0]) 4 32 Tryz.underlying68 hi1 hz10 hz11 hz12 rfl (by decide) (.slice a5 m' cq) m' ((bndsD c k).flatMap bndC) rfl ?own ⟨w3.heap.size+1,0,none⟩ 1 1 [.int .i64 pl,.int .i64 ph,.int .i64 rl,.int .i64 rh] rfl rfl (cells_four (Ext.refl _) (by simp)) ?one ?f1 ?f2 ?f3 ?next)
          case own=>
            have h:=own_extR HO3.out (W':=((w3.alloc (.cells #[.int .i64 rl,.int .i64 rh] 54)).alloc (.cells #[.int .i64 pl,.int .i64 ph,.int .i64 rl,.int .i64 rh] 81))) EX;rw [←HLM.out] at h;exact h
          case one=>intro u hu;simp only [List.mem_cons,List.not_mem_nil,or_false] at hu;rcases hu with rfl|rfl|rfl|rfl<;>rfl
          case f1=>simp only [maxLen];omega
          case f2=>omega
          case f3=>simp;omega
          case next=>
            intro v' w7 hown hgrow hnil hat
            have hbl:∀g,(Value.slice a5 m' cq).ownBlock=some g→w1.heap.size≤g:=fun g hg=>(own_lt HO3.out hg).1
            have hk7:KP (fun j=>(Value.slice a5 m' cq).ownBlock=some j) w3 w7:=KP.trans (Ext.kp EX) (KP.grown hgrow (fun g hg=>hg));have HW7:Hid (WkD W0 p m ⟨a1,c1,a2,c2,a3,c3,a4,c4⟩ c w7):=hHd (HW3.out.kp hk7 (fun h=>by have:=hbl _ h;have:=HW1.out.lt;omega) (fun h=>by have:=hbl _ h;have:=HW1.out.stl.lt;omega) (fun j hj=>by have:=hbl _ hj;have:=HW1.out.ext.size;omega));have hz7:w1.heap.size≤w7.heap.size:=by have:=hk7.size;omega
            have HUR:Hid (Hs.Own 4 bndC w1.heap.size 81 w7 v' (bndsD c (k+1))):=hHd (by rw [HNX.out];exact Hs.Own.next hown (by rw [HLM.out]) (by rw [HB1.out];rfl));clear hnil hat hgrow hk7 hbl;rcases own_open hown with ⟨-,h0⟩|⟨g',cap,rfl,-,-,-,-⟩
            · omega
            · clear hown; (go_wp2_with fail); go_roundw
              case rel=>exact⟨k+1,m'+1,_,_,by omega,by rw [HM.out],by go_num,rfl,HUR,HW7,hz7,hHd (by simp)⟩
              case measure=>simp [intOf];omega
      · obtain rfl : k = n := by omega
        have H0:=hHd (HB32.out (by rcases HT.out with h|h<;>first|exact h|omega));have XE:Ext w wo:=X.trans HW.out.ext;have HOE:Hid (Hs.Own 4 bndC w1.heap.size 81 wo (.slice a5 k cq) (bndsD c k)):=hHd (by rw [←hmk];rw [hmk];rw [hmk] at HO;exact HO.out);subst hmk;(go_wp2_with fail);go_ret2;exact HQ0.out _ _ _ XE H0.out (HOE.out.base (by have:=(X.trans HW1.out.ext).size;omega))
  · have HN := hHd hE; have HR := hHd (HB1.out _ rfl hE); have hb : (askD c true != 0) = true := by rw [bne_iff_ne]; exact hE
    have HAK2:Hid (∀W,Ext w W→Calls Tryz.prog 89 #[A.v c,.func (.func 90) #[] #[]] W fun e w'=>e= .returned (.tuple #[.pointer none,.int .i64 (askD c true)])∧Ext W w'):=hHd (fun W hx=>(HAK.out W hx).mono (fun e w' h=>⟨h.1 HN.out,h.2.2⟩));have HQ:Hid (∀W,Ext w W→BndQ c w (.returned (.tuple #[.slice none 0 0,.int .i64 (askD c true)])) W):=hHd (fun W hx=>⟨fun _=>by rw [HR.out],fun h=>absurd (HR.out.symm.trans h) HN.out,hx⟩);clear HAK HB1 HB2 HB3 HBP HBR HSC hE;generalize askD c true=r at*;obtain⟨a1,c1,a2,c2,a3,c3,a4,c4⟩:=A;unfold CaseA.v caseV at*;simp only at*;go_enter Tryz.func33,Tryz.ntmps33
    (go_wp2_with fail);(with_reducible refine(HAK2.out _ EX).mono ?_);rintro e w1 ⟨rfl,hx1⟩;have X1:Ext w w1:=EX;clear hx1;(go_wp2_with fail);go_ret2;exact HQ.out _ X1
theorem ask_no (A:CaseA) (c:DCas) (w:World) (hm:CaseM w A c) (h:askD c true≠0):Calls Tryz.prog 89 #[A.v c,.func (.func 90) #[] #[]] w fun e w'=>e= .returned (.tuple #[.pointer none,.int .i64 (askD c true)])∧Ext w w':=
 (ask_any A c w hm).mono (fun e w' q=>⟨q.1 h,q.2.2⟩)
theorem ask_yes (A:CaseA) (c:DCas) (w:World) (hm:CaseM w A c) (h:askD c true=0):Calls Tryz.prog 89 #[A.v c,.func (.func 90) #[] #[]] w fun e w'=>∃p m,e= .returned (.tuple #[.pointer (some ⟨p,0,none⟩),.int .i64 0])∧WkD w p m A c w':=
 (ask_any A c w hm).mono (fun e w' q=>q.2.1 h)
def totR (c:DCas):Int×Int:=if bndE c=0 then bdsD c totD else (0,0)
theorem Total_d (A:CaseA) (c:DCas) (w:World) (hm:CaseM w A c):Calls Tryz.prog 34 #[A.v c] w fun e w'=>e= .returned (.tuple #[.agg #[.int .i64 (totR c).1,.int .i64 (totR c).2],.int .i64 (bndE c)])∧Ext w w':=by
  have HNO:=hHd (fun h W (hx:Ext w W)=>ask_no A c W (hm.ext hx) h);have HYE:=hHd (fun h W (hx:Ext w W)=>ask_yes A c W (hm.ext hx) h);have HBT:=hHd (fun(h:askD c true=0) p m W W0 (hx:Ext w W0) (hb:WkD W0 p m A c W)=>bds_together p m A c 0 W (askD_cas h) (hb.kb (hm.ext hx)))
  have HB1:Hid (∀r,askD c true=r→r≠0→bndE c=r∧totR c=(0,0)):=hHd (fun r h h0=>by
    have e:bndE c=r:=by unfold bndE;rw [h,if_pos h0]
    exact⟨e,by unfold totR;rw [e,if_neg h0]⟩)
  have HB2:Hid (askD c true=0→(!(truthsD c []).isEmpty)=false→bndE c=11∧totR c=(0,0)):=hHd (fun h h0=>by
    have e:bndE c=11:=by unfold bndE;rw [h];cases ht:(truthsD c []).isEmpty<;>simp_all
    exact⟨e,by unfold totR;rw [e];rfl⟩)
  have HB3:Hid (askD c true=0→(!(truthsD c []).isEmpty)=true→bndE c=0∧totR c=bdsD c totD):=hHd (fun h h0=>by
    have e:bndE c=0:=by unfold bndE;rw [h];cases ht:(truthsD c []).isEmpty<;>simp_all
    exact⟨e,by unfold totR;rw [e];rfl⟩)
  clear hm;by_cases hE:askD c true=0
  · have HYE2 := hHd (HYE.out hE); have HBT2 := hHd (HBT.out hE); have HB22 := hHd (HB2.out hE); have HB32 := hHd (HB3.out hE); clear HNO HYE HBT HB1 HB2 HB3 hE; obtain ⟨tb, htb⟩ : ∃ tb, tb = !(truthsD c []).isEmpty := ⟨_, rfl⟩; rw [← htb] at HB22 HB32 HBT2; clear htb; generalize totR c = tr at *; generalize bndE c = be at *; obtain ⟨a1, c1, a2, c2, a3, c3, a4, c4⟩ := A; unfold CaseA.v caseV at *; simp only at *; go_enter Tryz.func34, Tryz.ntmps34
    (go_wp2_with fail);(with_reducible refine(HYE2.out _ EX).mono ?_);rintro e w1 ⟨p,m,rfl,hwk⟩;have X0:=hHd hwk.ext;have r0:=hwk.ext.keep (k:=w.heap.size+1) (o:=0) (v:= .int .i64 0) (by simp [go_sem]);have r1:=hwk.ext.keep (k:=w.heap.size+1) (o:=1) (v:= .int .i64 0) (by simp [go_sem]);have rf:∀o,w1.frozen? ⟨w.heap.size+1,o,none⟩=false:=fun o=>(hwk.ext.frozen (by simp)).trans (by simp [go_sem])
    have HT:=hHd (HBT2.out p m w1 _ EX hwk);have hst:=hwk.stl;have XW:Ext w w1:=Ext.trans EX hwk.ext;have hmw:w.heap.size+2≤m:=by have:=hwk.hm;simpa using this
    clear hwk HYE2 HBT2;(go_wp2_with fail);(with_reducible refine HT.out.mono ?_);rintro e w2 ⟨rfl,hm2⟩;have hnm:¬w.heap.size+1=m:=by omega
    replace rf:=fun o=>(hm2.kp.frozen (o:=o) (lt_of_cell r0) hnm).trans (rf o)
    replace r0:=hm2.keep' (by omega) r0;replace r1:=hm2.keep' (by omega) r1;have XE:Ext w w2:=hm2.toExt XW (by omega);have hz2:w.heap.size+1<w2.heap.size:=lt_of_cell r0;clear hst hm2;have ne0:¬w.heap.size+1=w2.heap.size:=by omega
    have r0a:=fun o=>((Ext.refl w2).alloc o).keep r0
    have r1a:=fun o=>((Ext.refl w2).alloc o).keep r1
    have rfa:=fun o b=>(((Ext.refl w2).alloc o).frozen (o:=b) hz2).trans (rf b)
    have HEC:Hid (∀(x y:Int) (o:Obj),(((w2.setCell ⟨w.heap.size+1,0,none⟩ (.int .i64 x)).setCell ⟨w.heap.size+1,1,none⟩ (.int .i64 y)).alloc o).cell? ⟨w.heap.size+1,0,none⟩=some (.int .i64 x)∧(((w2.setCell ⟨w.heap.size+1,0,none⟩ (.int .i64 x)).setCell ⟨w.heap.size+1,1,none⟩ (.int .i64 y)).alloc o).cell? ⟨w.heap.size+1,1,none⟩=some (.int .i64 y)):=hHd (fun x y o=>
      ⟨((Ext.refl _).alloc o).keep (cell_ne (.inr (by decide)) (World.cell?_setCell_same _ _ _ r0)),((Ext.refl _).alloc o).keep (World.cell?_setCell_same _ _ _ (cell_ne (.inr (by decide)) r1))⟩)
    cases tb with
    | false =>
      obtain⟨rfl,rfl⟩:=HB22.out rfl;clear HB22 HB32;(go_wp2_with fail);refine bodyPost_ret (v:= .tuple #[.agg #[.int .i64 0,.int .i64 0],.int .i64 11]) (by have h:=HEC.out 0 0 (.cells #[.int .i64 (bdsD c totD).1,.int .i64 (bdsD c totD).2] 54);simp [results,Tryz.results34,go_sem,h.1,h.2]) rfl ⟨rfl,?_⟩
      exact((XE.setCell (by omega) _).setCell (by omega) _).alloc _
    | true =>
      obtain⟨rfl,rfl⟩:=HB32.out rfl;clear HB22 HB32;(go_wp2_with fail);refine bodyPost_ret (v:= .tuple #[.agg #[.int .i64 (bdsD c totD).1,.int .i64 (bdsD c totD).2],.int .i64 0]) (by have h:=HEC.out (bdsD c totD).1 (bdsD c totD).2 (.cells #[.int .i64 (bdsD c totD).1,.int .i64 (bdsD c totD).2] 54);simp [results,Tryz.results34,go_sem,h.1,h.2]) rfl ⟨rfl,?_⟩
      exact((XE.setCell (by omega) _).setCell (by omega) _).alloc _
  · have HN := hHd hE; have hb : (askD c true != 0) = true := by rw [bne_iff_ne]; exact hE
    have HNO2:=hHd (HNO.out hE);have HR:=hHd (HB1.out _ rfl hE);clear HNO HYE HBT HB1 HB2 HB3 hE;rw [HR.out.1,HR.out.2];generalize askD c true=r at*;obtain⟨a1,c1,a2,c2,a3,c3,a4,c4⟩:=A;unfold CaseA.v caseV at*;simp only at*;go_enter Tryz.func34,Tryz.ntmps34
    (go_wp2_with fail);(with_reducible refine(HNO2.out _ EX).mono ?_);rintro e w1 ⟨rfl,hx1⟩;have r0:=hx1.keep (k:=w.heap.size+1) (o:=0) (v:= .int .i64 0) (by simp [go_sem]);have r1:=hx1.keep (k:=w.heap.size+1) (o:=1) (v:= .int .i64 0) (by simp [go_sem]);have rf:∀o,w1.frozen? ⟨w.heap.size+1,o,none⟩=false:=fun o=>(hx1.frozen (by simp)).trans (by simp [go_sem])
    have X1:Ext w w1:=EX;clear hx1;(go_wp2_with fail);refine bodyPost_ret (v:= .tuple #[.agg #[.int .i64 0,.int .i64 0],.int .i64 r]) (by simp [results,Tryz.results34,go_sem,r0,r1]) rfl ⟨rfl,?_⟩
    exact(X1.setCell (by omega) _).setCell (by omega) _
end Go.Proofs.YtegkdnfeceomdaaGreat
namespace Go.Hs
open Go.RowKit
theorem getD_appl {l r:List Int} {i:Nat} (h:i<l.length):(l++r).getD i 0=l.getD i 0:=by
 simp [List.getD_eq_getElem?_getD,List.getElem?_append_left h]
theorem getD_appr {l r:List Int} {i:Nat} (h:l.length≤i):(l++r).getD i 0=r.getD (i - l.length) 0:=by
 simp [List.getD_eq_getElem?_getD,List.getElem?_append_right h]
theorem listedD_ok {c:DCas} {t:DTr} (h:listedD c t=true):TruOK c t:=by
 have h0:=h;unfold listedD at h;simp only [Bool.and_eq_true,decide_eq_true_eq] at h;obtain⟨l1,l2,l3,-⟩:=h;rw [listedD_yes l1 l2 l3,List.all_eq_true] at h0
 have hr:∀i (hi:i<(rngsD c).length),(rngsD c)[i].1≤(numsT t).getD i 0∧(numsT t).getD i 0≤(rngsD c)[i].2:=fun i hi=>by
  have:=h0 i (List.mem_range.2 hi);rw [inR_iff] at this;have e:(rngsD c).getD i default=(rngsD c)[i]:=by simp [hi]
  rw [e] at this;exact this
 have hn:=rngsD_len c;refine⟨l1,l2,l3,?_,?_⟩
 ·unfold listedK; rw [decide_eq_true l1, decide_eq_true l2, Bool.true_and, Bool.true_and, Bool.and_eq_true]; refine ⟨List.all_eq_true.2 (fun i hi => ?_), List.all_eq_true.2 (fun i hi => ?_)⟩
  ·have hi := List.mem_range.1 hi; have := hr i (by omega)
   have eq:(rngsD c)[i]'(by omega)=((c.bk.ents[i]).dlo,(c.bk.ents[i]).dhi):=by
    unfold rngsD;rw [List.getElem_append_left (by simpa using hi)];simp
   rw [eq] at this
   have e4:(numsT t).getD i 0=t.days.getD i 0:=by
    unfold numsT;rw [getD_appl (by omega)]
   have e5:c.bk.ents.getD i default=c.bk.ents[i]:=by simp [hi]
   rw [e4] at this;rw [e5,inR_iff];exact this
  ·have hi := List.mem_range.1 hi; have := hr (c.bk.ents.length + i) (by omega)
   have eq:(rngsD c)[c.bk.ents.length+i]'(by omega)=((c.bk.pars[i]).slo,(c.bk.pars[i]).shi):=by
    unfold rngsD;rw [List.getElem_append_right (by simp)];simp only [List.length_map,Nat.add_sub_cancel_left];rw [List.getElem_append_left (by simpa using hi)];simp
   rw [eq] at this
   have e4:(numsT t).getD (c.bk.ents.length+i) 0=t.sown.getD i 0:=by
    unfold numsT;rw [getD_appr (by omega),l1,Nat.add_sub_cancel_left,getD_appl (by omega)]
   have e5:c.bk.pars.getD i default=c.bk.pars[i]:=by simp [hi]
   rw [e4] at this;rw [e5,inR_iff];exact this
 ·have := hr (c.bk.ents.length + c.bk.pars.length + c.covs.length) (by omega)
  have eq:(rngsD c)[c.bk.ents.length+c.bk.pars.length+c.covs.length]'(by omega)=(c.llo,c.lhi):=by
   unfold rngsD;rw [List.getElem_append_right (by simp;omega)];rw [List.getElem_append_right (by simp;omega)];rw [List.getElem_append_right (by simp;omega)];simp
  rw [eq] at this
  have e4:(numsT t).getD (c.bk.ents.length+c.bk.pars.length+c.covs.length) 0=t.loss:=by
   unfold numsT;rw [getD_appr (by omega),getD_appr (by omega),getD_appr (by omega)];have:c.bk.ents.length+c.bk.pars.length+c.covs.length - t.days.length - t.sown.length - t.starts.length=0:=by omega
   rw [this];rfl
  rw [e4] at this;exact this
def playDE (c:DCas) (t:DTr):Int:=if caseD c≠0 then caseD c else if listedD c t then (match damD c t with|none=>11|some d=>if goodD c [] d then 0 else 11) else 2
def payL (d:Dmg) (n:Nat):List Int:= [(paysD d).1,(paysD d).2.1,(paysD d).2.2].take n
theorem goodD_nil {c:DCas} {d:Dmg} :goodD c [] d=c.clms.all (fun x=>rightD x d):=by
 rw [←all_list];unfold goodD allB;simp
theorem cells3_mm {m:Nat} {a:Option Addr} {us:List V3} {w w':World} (h:Cells3 w a us) (k:MM m w w') (hs:Stl m w):Cells3 w' a us:=fun i hi=>by
 obtain⟨b,o,e,h0,h1,h2⟩:=h i hi;exact⟨b,o,e,k.keep hs h0,k.keep hs h1,k.keep hs h2⟩
end Go.Hs
namespace Go.Proofs.YtegkdnfeceomdaaGreat
open Go.RowKit Go.Hs
attribute [local irreducible] World.setCell World.alloc
theorem allm_clm (m:Nat) (F:FuncId) (hF:FnOK F) (first caps:Array Value) (a:Option Addr) (c:Nat) (us:List V3) (q:Nat→Bool) (w:World)
  (hlen:us.length≤140737488351232) (hrow:Cells3 w a us) (hs:Stl m w)
  (hcall:∀i (h:i<us.length) w1,MM m w w1→Calls Tryz.prog F (first.push us[i].val++caps) w1 fun e w2=>e= .returned (.bool (q i))∧MM m w1 w2):
  Calls Tryz.prog 72 #[.slice a us.length c,.func (.func F) first caps] w fun e w'=>e= .returned (.bool (allB us.length q))∧MM m w w':=
 (all_clm F hF first caps a c us q (fun _ w' => MM m w w') w hlen (fun _ _ h => cells3_mm hrow h hs) (fun _ _ o h => h.alloc o)
  (fun i h w1 _ hI=>(hcall i h w1 hI).mono fun _ _ h2=>⟨h2.1,hI.trans h2.2,mm_kept h2.2 hs.lt⟩) (MM.refl w)).mono fun _ _ ⟨_,_,hI,he⟩=>⟨he,hI⟩
theorem fn_play1:FnOK 73:=fun args w=>by simp [go_sem]
theorem play1_d (p m b8 b9:Nat) (x:Clm) (d:Dmg) (w:World) (h8:w.cell? ⟨b8,0,none⟩=some (.pointer (some ⟨p,0,none⟩))) (h9:∀j v,([.int .i64 d.amount,.int .i64 d.s0,.int .i64 d.s1,.int .i64 d.s2]:List Value)[j]?=some v→w.cell? ⟨b9,j,none⟩=some v)
  (hp:w.cell? ⟨p,11,none⟩=some (.map (some m))) (hs:Stl m w) (hd:DmgOK d) (hx:x.soc=0∨x.soc=1∨x.soc=2):
  Calls Tryz.prog 73 #[x.c.val,.pointer (some ⟨b8,0,none⟩),.pointer (some ⟨b9,0,none⟩)] w fun e w'=>e= .returned (.bool (rightD x d))∧MM m w w':=by
 have HR:=hHd (fun W (h:MM m w W)=>right_d p m x d W (h.keep hs hp) (h.stl hs) hd hx);have c0:=h9 0 _ rfl;have c1:=h9 1 _ rfl;have c2:=h9 2 _ rfl;have c3:=h9 3 _ rfl;have n8:b8<w.heap.size:=lt_of_cell h8;have n9:b9<w.heap.size:=lt_of_cell c0;have n8':¬b8=w.heap.size:=by omega
 have n9':¬b9=w.heap.size:=by omega
 clear hp hs hd hx h9;generalize rightD x d=r at*;obtain⟨am,s0,s1,s2⟩:=d;obtain⟨so,lo,hi⟩:=x;simp only [Dmg.v,Clm.c,V3.val] at*;go_enter Tryz.func73,Tryz.ntmps73
 (go_wp2_with fail);(with_reducible refine(HR.out _ (by(repeat (first|exact MM.refl _|with_reducible (first|assumption|refine MM.drew ?_|refine MM.alloc ?_ _|refine MM.ext ?_ (by assumption)|refine MM.trans ?_ (by assumption)|refine Ext.mm (by assumption)))))).mono ?_);rintro e w1 ⟨rfl,hm1⟩;have M1:MM m w w1:=by(repeat (first|exact MM.refl _|with_reducible (first|assumption|refine MM.drew ?_|refine MM.alloc ?_ _|refine MM.ext ?_ (by assumption)|refine MM.trans ?_ (by assumption)|refine Ext.mm (by assumption))))
 (go_wp2_with fail);go_ret;exact⟨rfl,M1⟩
theorem allright (p m b8 b9:Nat) (A:CaseA) (c:DCas) (d:Dmg) (w:World) (hS:CasS c) (hb:KB p m A c w) (h8:w.cell? ⟨b8,0,none⟩=some (.pointer (some ⟨p,0,none⟩))) (h9:∀j v,([.int .i64 d.amount,.int .i64 d.s0,.int .i64 d.s1,.int .i64 d.s2]:List Value)[j]?=some v→w.cell? ⟨b9,j,none⟩=some v) (hd:DmgOK d):
  Calls Tryz.prog 72 #[.slice A.a4 c.clms.length A.c4,.func (.func 73) #[] #[.pointer (some ⟨b8,0,none⟩),.pointer (some ⟨b9,0,none⟩)]] w fun e w'=>e= .returned (.bool (goodD c [] d))∧MM m w w':=by
 have hl:=hb.cas.l4.2
 have h:=allm_clm m 73 fn_play1 #[] #[.pointer (some ⟨b8,0,none⟩),.pointer (some ⟨b9,0,none⟩)] A.a4 A.c4 (c.clms.map Clm.c) (fun i=>rightD (c.clms.getD i default) d) w (by simp;omega) hb.cas.clms hb.stl
  (fun i hi w1 hx => by
   have hi':i<c.clms.length:=by simpa using hi
   have e1:(c.clms.map Clm.c)[i]=(c.clms[i]).c:=by simp
   rw [e1];have h1:=hS.clm _ (List.getElem_mem hi');have h2:=hS.soc;simp only [clmB,socB,Bool.and_eq_true,inR_iff] at h1;refine(play1_d p m b8 b9 c.clms[i] d w1 (hx.keep hb.stl h8) (fun j v hj=>hx.keep hb.stl (h9 j v hj)) (hx.keep hb.stl hb.box.c11) (hx.stl hb.stl) hd (by omega)).mono ?_
   rintro e w2 ⟨rfl,h2⟩;exact⟨ret_bool (by simp [hi']),h2⟩)
 rw [List.length_map,all_list c.clms (fun x=>rightD x d)] at h;rw [goodD_nil];exact h
def PlyQ (c:DCas) (t:DTr) (w:World) (e:Ending) (w':World):Prop:=
 (playDE c t≠0→e= .returned (.tuple #[.slice none 0 0,.int .i64 0,.int .i64 (playDE c t)]))∧
 (playDE c t=0→∃d v',damD c t=some d∧e= .returned (.tuple #[v',.int .i64 d.amount,.int .i64 0])∧w'.ownsRow w.heap.size 3 1 v' c.soc.toNat ((payL d c.soc.toNat).map (.int .i64)))∧Ext w w'
theorem plyQ_no {c:DCas} {t:DTr} {w w':World} {r:Int} (h:playDE c t=r) (h0:r≠0) (hx:Ext w w'):PlyQ c t w (.returned (.tuple #[.slice none 0 0,.int .i64 0,.int .i64 r])) w':=
 ⟨fun _=>by rw [h],fun e=>absurd (h.symm.trans e) h0,hx⟩
theorem Play_dd (A : CaseA) (c : DCas) (t : DTr) (v : Value) (w : World) (hm : CaseM w A c) (hv : TruV w v t) (l1 : t.days.length ≤ 200) (l2 : t.sown.length ≤ 200) (l3 : t.starts.length ≤ 200) :
    Calls Tryz.prog 25 #[A.v c,v] w (PlyQ c t w):=by
  have HCK:=hHd (fun W (hx:Ext w W)=>checkC_d A c W (hm.ext hx))
  have HLS:Hid (∀W,Ext w W→Calls Tryz.prog 69 #[A.v c,v] W fun e w'=>e= .returned (.bool (listedD c t))∧Ext W w'):=hHd (fun W hx=>by
    obtain⟨vd,vs,vst,rfl,i1,i2,i3⟩:=hv;exact listed_d A c t vd vs vst W (hm.ext hx) (i1.ext hx) (i2.ext hx) (i3.ext hx) l1 l2 l3)
  have HWK:=hHd (fun W0 W (hx:Ext W0 W)=>work_d W0 A c W hx);have HDM:=hHd (fun(h:caseD c=0) (hl:listedD c t=true) p m W W0 (hx:Ext w W0) (hb:WkD W0 p m A c W)=>damage_d p m A c t v W hb.cells (hm.ext (hx.trans hb.ext)) (caseD_zero h).2.1 (hv.ext (hx.trans hb.ext)) (listedD_ok hl));have HAL:=hHd (fun(h:caseD c=0) d hd b8 b9 p m W W0 (hx:Ext w W0) (hb:WkD W0 p m A c W) h8 h9=>allright p m b8 b9 A c d W (caseD_zero h).2.1 (hb.kb (hm.ext hx)) h8 h9 hd);have HDK:Hid (caseD c=0→listedD c t=true→∀d,damD c t=some d→DmgOK d):=hHd (fun h hl d hd=>damD_ok (caseD_zero h).2.1 (by have:=(caseD_zero h).2.1.loss;have:=(listedD_ok hl).loss;omega) hd);have HSC:Hid (caseD c=0→1≤c.soc∧c.soc≤3):=hHd (fun h=>(caseD_zero h).2.1.soc);have HE1:Hid (∀r,caseD c=r→r≠0→playDE c t=r):=hHd (fun r h h0=>by unfold playDE;rw [h,if_pos h0]);have HE2:Hid (caseD c=0→listedD c t=false→playDE c t=2):=hHd (fun h h0=>by unfold playDE;rw [h,h0];rfl);have HE3:Hid (caseD c=0→listedD c t=true→damD c t=none→playDE c t=11):=hHd (fun h h0 h1=>by unfold playDE;rw [h,h0,h1];rfl);have HE4:Hid (caseD c=0→listedD c t=true→∀d,damD c t=some d→playDE c t=if goodD c [] d then 0 else 11):=hHd (fun h h0 d h1=>by unfold playDE;rw [h,h0,h1];rfl);obtain⟨vd,vs,vst,rfl,i1,i2,i3⟩:=hv;obtain⟨a5,n5,rfl,-⟩:=i1;obtain⟨a6,n6,rfl,-⟩:=i2;obtain⟨a7,n7,rfl,-⟩:=i3;clear hm l1 l2 l3;generalize hce:caseD c=ce at*;by_cases h0:ce=0
  · subst h0; have hsc := HSC.out rfl; obtain ⟨n, hn, hn1, hn3⟩ : ∃ n : Nat, c.soc = (n : Int) ∧ 1 ≤ n ∧ n ≤ 3 := ⟨c.soc.toNat, by omega, by omega, by omega⟩; have HCE := hHd hce; have HWK2 := HWK
    have HQ0:Hid (∀d v' W,damD c t=some d→playDE c t=0→W.ownsRow w.heap.size 3 1 v' n ((payL d n).map (.int .i64))→Ext w W→PlyQ c t w (.returned (.tuple #[v',.int .i64 d.amount,.int .i64 0])) W):=hHd (fun d v' W hd h0 ho hx=>⟨fun h=>absurd h0 h,fun _=>by
      have e:c.soc.toNat=n:=by omega
      rw [e];exact⟨d,v',hd,rfl,ho⟩,hx⟩)
    have HDM2:=hHd (HDM.out rfl);have HAL2:=hHd (HAL.out rfl);have HDK2:=hHd (HDK.out rfl);have HE22:=hHd (HE2.out rfl);have HE32:=hHd (HE3.out rfl);have HE42:=hHd (HE4.out rfl);have HNN:=hHd hn;clear HDM HAL HDK HE1 HE2 HE3 HE4 HSC hce hsc HWK;generalize hlb:listedD c t=lb at*;have HLB:=hHd hlb;clear hlb;obtain⟨a1,c1,a2,c2,a3,c3,a4,c4⟩:=A;unfold CaseA.v caseV at*;simp only at*;rw [hn] at HCK HLS HWK2⊢;clear hn;go_enter Tryz.func25,Tryz.ntmps25
    (go_wp2_with fail);obtain⟨W0,hW,X,HS,HSf,HSz⟩:=bx11_4 w 57 (.int .i64 c.bk.last) (.int .i64 c.bk.owners) (.slice a1 c.bk.pars.length c1) (.slice a2 c.bk.ents.length c2) (.int .i64 n) (.int .i64 c.day) (.int .i64 c.parcel) (.slice a3 c.covs.length c3) (.int .i64 c.llo) (.int .i64 c.lhi) (.slice a4 c.clms.length c4) 61 (.slice a5 t.days.length n5) (.slice a6 t.sown.length n6) (.slice a7 t.starts.length n7) (.int .i64 t.loss);rw [hW];clear hW;(with_reducible refine(HCK.out _ X).mono ?_);rintro e w1 ⟨rfl,hx1⟩;obtain⟨⟨q0,q1,q2,q3,q4,q5,q6,q7,q8,q9,q10,t0,t1,t2,t3⟩,-⟩:=HS.out w1 hx1;have X1:=X.trans hx1;(go_wp2_with fail);(with_reducible refine(HLS.out _ X1).mono ?_);rintro e w2 ⟨rfl,hx2⟩;replace hx1:=hx1.trans hx2;have X2:=X1.trans hx2;clear q0 q1 q2 q3 q4 q5 q6 q7 q8 q9 q10 t0 t1 t2 t3 hx2 HCK HLS;obtain⟨⟨q0,q1,q2,q3,q4,q5,q6,q7,q8,q9,q10,t0,t1,t2,t3⟩,-⟩:=HS.out w2 hx1;cases lb with
    | false =>
      have HR:=hHd (HE22.out rfl);clear HE22 HE32 HE42 q0 q1 q2 q3 q4 q5 q6 q7 q8 q9 q10 t0 t1 t2 t3 HS;(go_wp2_with fail);refine bodyPost_ret (v:= .tuple #[.slice none 0 0,.int .i64 0,.int .i64 2]) (by simp [results,Tryz.results25,go_sem]) rfl (plyQ_no HR.out (by decide) X2)
    | true =>
      have HDM3:=hHd (HDM2.out rfl);have HDK3:=hHd (HDK2.out rfl);have HE33:=hHd (HE32.out rfl);have HE43:=hHd (HE42.out rfl);clear HE22 HE32 HE42 HDM2 HDK2;(go_wp2_with fail);(with_reducible refine(HWK2.out W0 _ hx1).mono ?_);rintro e w3 ⟨p,m,rfl,hwk,hx3⟩;have HW3:=hHd hwk;have X3:=X2.trans hx3;replace hx1:=hx1.trans hx3;clear q0 q1 q2 q3 q4 q5 q6 q7 q8 q9 q10 t0 t1 t2 t3 hx3 hwk;obtain⟨⟨-,-,-,-,-,-,-,-,-,-,-,t0,t1,t2,t3⟩,-⟩:=HS.out w3 hx1;have t0a:=fun o=>((Ext.refl w3).alloc o).keep t0
      have t1a:=fun o=>((Ext.refl w3).alloc o).keep t1
      have t2a:=fun o=>((Ext.refl w3).alloc o).keep t2
      have t3a:=fun o=>((Ext.refl w3).alloc o).keep t3
      (go_wp2_with fail);(with_reducible refine(HDM3.out p m _ W0 X (HW3.out.grow EX)).mono ?_);rintro e w4 ⟨rfl,hx4⟩;have b8:=hx4.keep (k:=w3.heap.size) (o:=0) (v:= .pointer (some ⟨p,0,none⟩)) (by simp [go_sem]);have HW4:Hid (WkD W0 p m ⟨a1,c1,a2,c2,a3,c3,a4,c4⟩ c w4):=hHd (HW3.out.grow (Ext.trans EX hx4));have X4:=X.trans HW4.out.ext;have hz4:w3.heap.size<w4.heap.size:=lt_of_cell b8;clear hx4 t0 t1 t2 t3 t0a t1a t2a t3a hx1;cases hdm:damD c t with
      | none =>
        have HR:=hHd (HE33.out hdm);simp only [dmgO,Dmg.v,Option.isSome_none];clear HE33 HE43 HAL2 HS hdm b8;(go_wp2_with fail);refine bodyPost_ret (v:= .tuple #[.slice none 0 0,.int .i64 0,.int .i64 11]) (by simp [results,Tryz.results25,go_sem]) rfl (plyQ_no HR.out (by decide) (X4.alloc _))
      | some d =>
        have hd:=HDK3.out d hdm;have HR:=hHd (HE43.out d hdm);have HDE:=hHd hdm;simp only [dmgO,Dmg.v,Option.isSome_some];have W5x:Ext w4 (w4.alloc (.cells #[.int .i64 d.amount,.int .i64 d.s0,.int .i64 d.s1,.int .i64 d.s2] 139)):=EX;have hz5:w4.heap.size<(w4.alloc (.cells #[.int .i64 d.amount,.int .i64 d.s0,.int .i64 d.s1,.int .i64 d.s2] 139)).heap.size:=by simp
        have d0:(w4.alloc (.cells #[.int .i64 d.amount,.int .i64 d.s0,.int .i64 d.s1,.int .i64 d.s2] 139)).cell? ⟨w4.heap.size,0,none⟩=some (.int .i64 d.amount):=by simp [go_sem]
        have d1:(w4.alloc (.cells #[.int .i64 d.amount,.int .i64 d.s0,.int .i64 d.s1,.int .i64 d.s2] 139)).cell? ⟨w4.heap.size,1,none⟩=some (.int .i64 d.s0):=by simp [go_sem]
        have d2:(w4.alloc (.cells #[.int .i64 d.amount,.int .i64 d.s0,.int .i64 d.s1,.int .i64 d.s2] 139)).cell? ⟨w4.heap.size,2,none⟩=some (.int .i64 d.s1):=by simp [go_sem]
        have d3:(w4.alloc (.cells #[.int .i64 d.amount,.int .i64 d.s0,.int .i64 d.s1,.int .i64 d.s2] 139)).cell? ⟨w4.heap.size,3,none⟩=some (.int .i64 d.s2):=by simp [go_sem]
        obtain⟨⟨-,-,-,-,q4,-,-,-,-,-,q10,-,-,-,-⟩,-⟩:=HS.out _ (HW4.out.ext.trans W5x);have HW5:=hHd (HW4.out.grow W5x);replace b8:=W5x.keep b8;clear hdm HE33 HE43 HW4;go_upto_region 8 with fail
        generalize (w4.alloc (.cells #[.int .i64 d.amount,.int .i64 d.s0,.int .i64 d.s1,.int .i64 d.s2] 139))=w5 at*
        have HCL:=hHd (HAL2.out d hd w3.heap.size w4.heap.size p m w5 W0 X HW5.out b8 (fun j v hj=>by
          rcases j with _|_|_|_|j
          · cases hj;exact d0
          · cases hj;exact d1
          · cases hj;exact d2
          · cases hj;exact d3
          · simp at hj))
        (go_wp2_with fail);(with_reducible refine HCL.out.mono ?_);rintro e w6 ⟨rfl,hm6⟩;have hml:m<w5.heap.size:=HW5.out.stl.lt;have hm0:W0.heap.size≤m:=HW5.out.hm;have hzW:W0.heap.size≤w3.heap.size:=HW3.out.ext.size;have HW6:=hHd (HW5.out.mm hm6);have hs5:=HW5.out.stl;replace b8:=hm6.keep hs5 b8;replace d0:=hm6.keep hs5 d0;replace d1:=hm6.keep hs5 d1;replace d2:=hm6.keep hs5 d2;replace d3:=hm6.keep hs5 d3;replace q4:=hm6.keep hs5 q4;clear hm6 hs5 HCL q10;cases hgd:goodD c [] d with
        | false =>
          have HR2:Hid (playDE c t=11):=hHd (by rw [HR.out,hgd];rfl);have XE:Ext w w6:=X.trans HW6.out.ext;clear hgd HS b8 d0 d1 d2 d3 q4;(go_wp2_with fail);refine bodyPost_ret (v:= .tuple #[.slice none 0 0,.int .i64 0,.int .i64 11]) (by simp [results,Tryz.results25,go_sem]) rfl (plyQ_no HR2.out (by decide) XE)
        | true =>
          have HR2:Hid (playDE c t=0):=hHd (by rw [HR.out,hgd];rfl);have HPY:=hHd (pays_d p m d w6 HW6.out.map HW6.out.stl hd);simp only [Dmg.v] at HPY;have hpb:=pays_bd hd;clear hgd hd HR;(go_wp2_with fail);(with_reducible refine HPY.out.mono ?_);rintro e w7 ⟨rfl,hm7⟩;have hs6:=HW6.out.stl;have HW7:=hHd (HW6.out.mm hm7);have X7:Ext w w7:=X.trans HW7.out.ext;replace d0:=hm7.keep hs6 d0;replace q4:=hm7.keep hs6 q4;clear hm7 hs6 b8 d1 d2 d3 HPY;have HPL:Hid (payL d n= [(paysD d).1,(paysD d).2.1,(paysD d).2.2].take n):=rfl;have HPLn:Hid ((payL d n).length=n):=hHd (by unfold payL;simp;omega);have hpv:paysV d= .agg #[.int .i64 (paysD d).1,.int .i64 (paysD d).2.1,.int .i64 (paysD d).2.2]:=rfl;rw [hpv];clear hpv;generalize (paysD d).1=y0 at*;generalize (paysD d).2.1=y1 at*;generalize (paysD d).2.2=y2 at*;go_upto_region 11 with fail
          have XB:Ext w7 (w7.alloc (.cells #[.int .i64 y0,.int .i64 y1,.int .i64 y2] 133)):=EX
          have HCLN:Hid (∀W,Ext (w7.alloc (.cells #[.int .i64 y0,.int .i64 y1,.int .i64 y2] 133)) W→Calls Tryz.prog 66 #[.slice (some ⟨w7.heap.size,0,none⟩) n 3] W fun e w'=>∃v',e= .returned v'∧w'.ownsRow W.heap.size 3 1 v' n ((payL d n).map (.int .i64))∧Ext W w'):=hHd (fun W hx=>by
            have g0:=hx.keep (k:=w7.heap.size) (o:=0) (v:= .int .i64 y0) (by simp [go_sem]);have g1:=hx.keep (k:=w7.heap.size) (o:=1) (v:= .int .i64 y1) (by simp [go_sem]);have g2:=hx.keep (k:=w7.heap.size) (o:=2) (v:= .int .i64 y2) (by simp [go_sem])
            have hc:=clone_x (.slice (some ⟨w7.heap.size,0,none⟩) n 3) (payL d n) W ⟨some ⟨w7.heap.size,0,none⟩,3,by rw [HPLn.out],by rw [HPLn.out];omega,by rw [HPLn.out];omega,fun i hi=>⟨_,_,rfl,by
              have hi':i<n:=by rw [HPLn.out] at hi;exact hi
              have e1:(payL d n)[i]?=([y0,y1,y2].take n)[i]?:=by rw [HPL.out]
              rw [List.getElem?_eq_getElem hi,List.getElem?_take_of_lt (by omega)] at e1;rw [Nat.mul_one,Nat.zero_add];have:i=0∨i=1∨i=2:=by omega
              rcases this with rfl|rfl|rfl
              · simp at e1;rw [e1];exact⟨g0,by omega,by omega⟩
              · simp at e1;rw [e1];exact⟨g1,by omega,by omega⟩
              · simp at e1;rw [e1];exact⟨g2,by omega,by omega⟩⟩⟩ (by rw [HPLn.out];omega)
            rw [HPLn.out] at hc;exact hc)
          have q4a:=XB.keep q4;have d0a:=XB.keep d0;have X8:Ext w (w7.alloc (.cells #[.int .i64 y0,.int .i64 y1,.int .i64 y2] 133)):=X7.trans XB;clear HPL HPLn XB q4 d0 hpb HS;generalize (w7.alloc (.cells #[.int .i64 y0,.int .i64 y1,.int .i64 y2] 133))=W8 at*;have hn0:(0:Int)≤(n:Int):=by omega
          have hn3':(n:Int)≤3:=by omega
          have HSS:Hid (∀w',Ext W8 w'→(w'.cell? ⟨w.heap.size,4,none⟩=some (.int .i64 (n:Int))∧w'.cell? ⟨w4.heap.size,0,none⟩=some (.int .i64 d.amount))∧Ext W8 w'):=hHd (fun w' h=>⟨⟨h.keep q4a,h.keep d0a⟩,h⟩);clear q4a d0a
          go_region_held3 (fun w'=>(w'.cell? ⟨w.heap.size,4,none⟩=some (.int .i64 (n:Int))∧w'.cell? ⟨w4.heap.size,0,none⟩=some (.int .i64 d.amount))∧Ext W8 w')
            ((refine HSS.out _ ?_;exact EX))
            ((go_at_call 66;(refine(HCLN.out _ EX).mono ?_);rintro e w9 ⟨v',rfl,hown,hx9⟩))
          all_goals
            have X9:Ext w w9:=X8.trans EX;have HOW:=hHd (ownRow_down hown (D:=w.heap.size) (by show w.heap.size≤W8.heap.size;exact X8.size));clear hown;(go_wp2_with fail);refine bodyPost_ret (v:= .tuple #[v',.int .i64 d.amount,.int .i64 0]) (by simp [results,Tryz.results25,go_sem]) rfl (HQ0.out d v' w9 HDE.out HR2.out HOW.out X9)
  · have HN := hHd h0; have HR := hHd (HE1.out ce rfl h0); have hb : (ce != 0) = true := by rw [bne_iff_ne]; exact h0
    clear HDM HAL HDK HE1 HE2 HE3 HE4 HSC h0 hce HWK HLS;obtain⟨a1,c1,a2,c2,a3,c3,a4,c4⟩:=A;unfold CaseA.v caseV at*;simp only at*;go_enter Tryz.func25,Tryz.ntmps25
    (go_wp2_with fail);(with_reducible refine(HCK.out _ EX).mono ?_);rintro e w1 ⟨rfl,hx1⟩;have X1:Ext w w1:=EX;clear hx1;(go_wp2_with fail);refine bodyPost_ret (v:= .tuple #[.slice none 0 0,.int .i64 0,.int .i64 ce]) (by simp [results,Tryz.results25,go_sem]) rfl (plyQ_no HR.out HN.out X1)
end Go.Proofs.YtegkdnfeceomdaaGreat
