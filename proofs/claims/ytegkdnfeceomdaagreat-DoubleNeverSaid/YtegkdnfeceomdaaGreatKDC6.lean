/- Bundled: what the texts HTN HB1 say one after another. -/
import Derived.Test.YtegkdnfeceomdaaGreatKDC5
import Derived.Test.YtegkdnfeceomdaaGreatKDA27
import Derived.Deep.AppendLies
import Derived.RegionTactic
import Derived.Deep.RegionWith
set_option maxRecDepth 100000
set_option maxHeartbeats 16000000
set_option linter.unusedSimpArgs false
set_option linter.unusedVariables false
namespace Go.Hs
open Go.RowKit Go.Proofs.YtegkdnfeceomdaaGreat
theorem ints_kpH {q:Nat→Prop} {w w':World} {v:Value} {xs:List Int} (h:IntsV w v xs) (k:KP q w w') (hn:∀b,v.ownBlock=some b→¬q b):IntsV w' v xs:=by
 obtain⟨a,c,rfl,h1,h2,h3⟩:=h;refine⟨a,c,rfl,h1,h2,fun i hi=> ?_⟩
 obtain⟨b,o,rfl,hc,hc2⟩:=h3 i hi;exact⟨b,o,rfl,k.keep (hn b rfl) hc,hc2⟩
structure NthR (W:World) (T fo so:Nat) (x:Value) (e:TypeId) (a:Option Addr) (q:Nat) (us:List Int) (w:World):Prop where
 cur:w.cell? ⟨T,fo,none⟩=some (.slice a us.length q)
 oth:w.cell? ⟨T,so,none⟩=some x
 own:w.ownsRow W.heap.size e 1 (.slice a us.length q) us.length (us.map (.int .i64))
 kp:KP (fun j=>j=T) W w
 fr:∀o,w.frozen? ⟨T,o,none⟩=false
theorem NthR.next {W wo w6 w9 w':World} {T fo so:Nat} {x:Value} {e:TypeId} {a:Option Addr} {q g cap:Nat} {us:List Int} {y:Int} (h:NthR W T fo so x e a q us wo) (hne:so≠fo) (hT:T<W.heap.size) (hx:Ext wo w6)
  (hg:KP (fun j=>(Value.slice a us.length q).ownBlock=some j) w6 w9) (hown:w9.ownsRow W.heap.size e 1 (.slice (some ⟨g,0,none⟩) (us.length+1) cap) (us.length+1) ((us++ [y]).map (.int .i64)))
  (hx9:Ext (w9.setCell ⟨T,fo,none⟩ (.slice (some ⟨g,0,none⟩) (us.length+1) cap)) w'):NthR W T fo so x e (some ⟨g,0,none⟩) cap (us++ [y]) w':=by
 have hb:¬(Value.slice a us.length q).ownBlock=some T:=fun e=>by
  have:=(own_lt h.own e).1;omega
 have hl:(us++ [y]).length=us.length+1:=by simp
 have c9:=hg.keep hb (hx.keep h.cur);have o9:=hg.keep hb (hx.keep h.oth);have hT9:=lt_of_cell c9;have hT6:=lt_of_cell (hx.keep h.cur);have hTo:=lt_of_cell h.cur;refine⟨?_,?_,?_,?_,fun o=> ?_⟩
 ·rw [hl];exact hx9.keep (sc_eq c9)
 ·exact hx9.keep (cell_ne (.inr hne) o9)
 ·rw [hl]; refine own_extR (own_keep hown (fun j hj => ?_)) hx9
  have:=(own_lt hown hj).1;exact Below.heap_setCell _ _ _ _ (by simp;omega)
 ·exact(KP.setCell (KP.joinH (h.kp.ext hx) hg (fun j hj=> .inr (own_lt h.own hj).1)) rfl _).ext hx9
 ·rw [hx9.frozen (by simpa using hT9),World.frozen?_setCell,hg.frozen hT6 hb,hx.frozen hTo,h.fr o]
end Go.Hs
namespace Go.Hs
open Go.RowKit
theorem Own.sl4 {α:Type} {B e:Nat} {w:World} {v:Value} {xs:List α} {U:α→V4} (h:Own 4 (fun x=>(U x).l) B e w v xs) (hl:xs.length≤1000):∃a q,v= .slice a xs.length q∧xs.length≤q∧Cells4 w a (xs.map U):=by
 rcases own_open h with ⟨rfl,h0⟩|⟨g,cap,rfl,-,hg,hn,hc⟩
 ·have e:xs= []:=List.eq_nil_of_length_eq_zero h0;subst e;exact⟨none,0,rfl,Nat.le_refl _,fun i h=>absurd h (by simp)⟩
 ·refine ⟨_, cap, rfl, hn, fun i hi => ⟨g, 0, rfl, ?_⟩⟩
  have hi':i<xs.length:=by simpa using hi
  have f:=fun j hj=>flat_at (C:=fun x=>(U x).l) (k:=4) (fun _=>rfl) xs i j hi' hj
  have e1:(xs.map U)[i]=U xs[i]:=by simp
  rw [e1];simp only [Nat.zero_add];exact⟨hc _ _ (f 0 (by decide)),hc _ _ (f 1 (by decide)),hc _ _ (f 2 (by decide)),hc _ _ (f 3 (by decide))⟩
theorem cells4_of {α:Type} {B e n q:Nat} {w:World} {a:Option Addr} {xs:List α} {U:α→V4} (h:w.ownsRow B e 4 (.slice a n q) n (xs.flatMap (fun x=>(U x).l))) (hn:n=xs.length) (hl:xs.length≤1000):n≤q∧Cells4 w a (xs.map U):=by
 subst hn;obtain⟨a',q',e,h1,h2⟩:=Hs.Own.sl4 h hl;simp only [Value.slice.injEq] at e;obtain⟨rfl,-,rfl⟩:=e;exact⟨h1,h2⟩
theorem Own.sl8 {α:Type} {B e:Nat} {w:World} {v:Value} {xs:List α} {U:α→V8} (h:Own 8 (fun x=>(U x).l) B e w v xs) (hl:xs.length≤1000):∃a q,v= .slice a xs.length q∧xs.length≤q∧Cells8 w a (xs.map U):=by
 rcases own_open h with ⟨rfl,h0⟩|⟨g,cap,rfl,-,hg,hn,hc⟩
 ·have e:xs= []:=List.eq_nil_of_length_eq_zero h0;subst e;exact⟨none,0,rfl,Nat.le_refl _,fun i h=>absurd h (by simp)⟩
 ·refine ⟨_, cap, rfl, hn, fun i hi => ⟨g, 0, rfl, ?_⟩⟩
  have hi':i<xs.length:=by simpa using hi
  have f:=fun j hj=>flat_at (C:=fun x=>(U x).l) (k:=8) (fun _=>rfl) xs i j hi' hj
  have e1:(xs.map U)[i]=U xs[i]:=by simp
  rw [e1];simp only [Nat.zero_add];exact⟨hc _ _ (f 0 (by decide)),hc _ _ (f 1 (by decide)),hc _ _ (f 2 (by decide)),hc _ _ (f 3 (by decide)),hc _ _ (f 4 (by decide)),hc _ _ (f 5 (by decide)),hc _ _ (f 6 (by decide)),hc _ _ (f 7 (by decide))⟩
theorem cells8_of {α:Type} {B e n q:Nat} {w:World} {a:Option Addr} {xs:List α} {U:α→V8} (h:w.ownsRow B e 8 (.slice a n q) n (xs.flatMap (fun x=>(U x).l))) (hn:n=xs.length) (hl:xs.length≤1000):n≤q∧Cells8 w a (xs.map U):=by
 subst hn;obtain⟨a',q',e,h1,h2⟩:=Hs.Own.sl8 h hl;simp only [Value.slice.injEq] at e;obtain⟨rfl,-,rfl⟩:=e;exact⟨h1,h2⟩
theorem in_4 {w wa:World} {b:Nat} {x0 x1 x2 x3:Value} {t:TypeId} (h:Ext (w.alloc (.cells #[x0,x1,x2,x3] t)) wa) (hb:b=w.heap.size):∀j u,([x0,x1,x2,x3]:List Value)[j]?=some u→wa.cell? ((⟨b,0,none⟩:Addr).add j)=some u:=by
 subst hb;intro j u hj
 have e:∀j,(⟨w.heap.size,0,none⟩:Addr).add j=⟨w.heap.size,j,none⟩:=fun j=>by unfold Addr.add;split<;>simp_all
 rw [e];rcases j with _|_|_|_|j
 all_goals first
  |(simp at hj;subst hj;exact h.keep (by simp [go_sem]))
  |(simp at hj)
theorem in_8 {w wa:World} {b:Nat} {x0 x1 x2 x3 x4 x5 x6 x7:Value} {t:TypeId} (h:Ext (w.alloc (.cells #[x0,x1,x2,x3,x4,x5,x6,x7] t)) wa) (hb:b=w.heap.size):∀j u,([x0,x1,x2,x3,x4,x5,x6,x7]:List Value)[j]?=some u→wa.cell? ((⟨b,0,none⟩:Addr).add j)=some u:=by
 subst hb;intro j u hj
 have e:∀j,(⟨w.heap.size,0,none⟩:Addr).add j=⟨w.heap.size,j,none⟩:=fun j=>by unfold Addr.add;split<;>simp_all
 rw [e];rcases j with _|_|_|_|_|_|_|_|j
 all_goals first
  |(simp at hj;subst hj;exact h.keep (by simp [go_sem]))
  |(simp at hj)
theorem own_kp {p:Nat→Prop} {B e k n:Nat} {w w':World} {v:Value} {us:List Value} (h:w.ownsRow B e k v n us) (hk:KP p w w') (hp:∀j,p j→j<B):w'.ownsRow B e k v n us:=
 own_keep h (fun g hg=>hk.block g (own_lt h hg).2 (fun hj=>by have:=hp g hj;have:=(own_lt h hg).1;omega))
end Go.Hs
namespace Go.Proofs.YtegkdnfeceomdaaGreat
open Go.RowKit Go.Hs
attribute [local irreducible] World.setCell World.alloc
theorem info_par:(Tryz.prog.info? 193).map (fun i=>(i.zero,i.size,i.bytes))=some (some (.agg #[.int .i64 0,.int .i64 0,.int .i64 0,.int .i64 0]),4,32):=by kernel_rfl
theorem info_ent:(Tryz.prog.info? 125).map (fun i=>(i.zero,i.size,i.bytes))=some (some (.agg #[.int .i64 0,.int .i64 0,.int .i64 0,.int .i64 0,.int .i64 0,.int .i64 0,.int .i64 0,.int .i64 0]),8,64):=by kernel_rfl
theorem to1_h (a b:Int) (w:World):Calls Tryz.prog 131 #[.agg #[.int .i64 a,.int .i64 b]] w fun e w'=>e= .returned (.agg #[.int .i64 a,.int .i64 b])∧Ext w w':=by
 go_enter Tryz.func131,Tryz.ntmps131
 (go_wp2_with fail);exact bodyPost_ret (v:= .agg #[.int .i64 a,.int .i64 b]) (by simp [results,Tryz.results131,go_sem]) rfl ⟨rfl,EX⟩
theorem Book_h (b:Bk) (v:Value) (w:World) (hv:BkV w v b) (h1:b.pars.length≤100) (h2:b.ents.length≤100):
  Calls Tryz.prog 76 #[v] w fun e w'=>∃a q a' q',e= .returned (bkV a b.pars.length q a' b.ents.length q' b.last b.owners)∧w'.ownsRow w.heap.size 193 4 (.slice a b.pars.length q) b.pars.length (b.pars.flatMap (fun x=>x.c.l))∧w'.ownsRow w.heap.size 125 8 (.slice a' b.ents.length q') b.ents.length (b.ents.flatMap (fun x=>x.c.l))∧Ext w w':=by
 obtain⟨i0,hi0,hz0,hz1,hz2⟩:=info_parts info_par;obtain⟨i1,hi1,hy0,hy1,hy2⟩:=info_parts info_ent;obtain⟨a1,c1,a2,c2,rfl,hp,he,hp1,he1,hp2,he2⟩:=hv.open;have HE:Hid (∀W,Ext w W→Cells8 W a2 (b.ents.map Ent.c)):=hHd (fun W hx=>he.ext hx);have HC4:Hid (∀W,Ext w W→Cells4 W a1 (b.pars.map Par.c)):=hHd (fun W hx=>hp.ext hx);have HTO:=hHd to1_h;have HL:Hid (b.pars.length≤100∧b.ents.length≤100):=hHd ⟨h1,h2⟩;clear hv hp he h1 h2;unfold bkV;generalize b.last=last at*;generalize b.owners=owners at*;go_enter Tryz.func76,Tryz.ntmps76
 (go_wp2_with fail);obtain⟨W,hW⟩:∃W,W=(((w.alloc (.cells #[.int .i64 last,.int .i64 owners,.slice a1 b.pars.length c1,.slice a2 b.ents.length c2] 35)).alloc (.cells #[.int .i64 0,.int .i64 0,.slice none 0 0,.slice none 0 0] 52)).alloc (.cells #[.int .i64 last,.int .i64 owners,.slice none 0 0,.slice none 0 0] 52)):=⟨_,rfl⟩;have X:Ext w W:=by subst hW;exact EX
 have HS:Hid (∀w',Ext W w'→(w'.cell? ⟨w.heap.size,0,none⟩=some (.int .i64 last)∧w'.cell? ⟨w.heap.size,1,none⟩=some (.int .i64 owners)∧w'.cell? ⟨w.heap.size,2,none⟩=some (.slice a1 b.pars.length c1)∧w'.cell? ⟨w.heap.size,3,none⟩=some (.slice a2 b.ents.length c2)∧w'.cell? ⟨w.heap.size+1+1,0,none⟩=some (.int .i64 last)∧w'.cell? ⟨w.heap.size+1+1,1,none⟩=some (.int .i64 owners)∧w'.cell? ⟨w.heap.size+1+1,2,none⟩=some (.slice none 0 0)∧w'.cell? ⟨w.heap.size+1+1,3,none⟩=some (.slice none 0 0))∧Ext W w'):=hHd (fun w' hx=>⟨by subst hW;and_intros<;>exact hx.keep (by simp [go_sem]),hx⟩);have HSf:Hid (∀w',Ext W w'→∀o,w'.frozen? ⟨w.heap.size+1+1,o,none⟩=false):=hHd (fun w' hx o=>(hx.frozen (by subst hW;simp)).trans (by subst hW;simp [go_sem]));have HSz:w.heap.size+1+1+1≤W.heap.size:=by subst hW;simp
 have HB1:Hid (∀w',Ext W w'→((∃v,w'.cell? ⟨w.heap.size+1,0,none⟩=some v)∧(∃v,w'.cell? ⟨w.heap.size+1,1,none⟩=some v)∧(∃v,w'.cell? ⟨w.heap.size+1,2,none⟩=some v)∧(∃v,w'.cell? ⟨w.heap.size+1,3,none⟩=some v))∧∀o,w'.frozen? ⟨w.heap.size+1,o,none⟩=false):=hHd (fun w' hx=>⟨⟨⟨_,hx.keep (v:= .int .i64 0) (by subst hW;simp [go_sem])⟩,⟨_,hx.keep (v:= .int .i64 0) (by subst hW;simp [go_sem])⟩,⟨_,hx.keep (v:= .slice none 0 0) (by subst hW;simp [go_sem])⟩,⟨_,hx.keep (v:= .slice none 0 0) (by subst hW;simp [go_sem])⟩⟩,fun o=>(hx.frozen (by subst hW;simp;try omega)).trans (by subst hW;simp [go_sem])⟩);rw [←hW];clear hW;obtain⟨T,hT⟩:∃T,T=w.heap.size+1+1:=⟨_,rfl⟩;have hTW:T<W.heap.size:=by omega
 have hTW0:=hTW;rw [←hT];have HTT:=hHd hT
 have HA0:Hid (AppR 4 (fun x:Par=>x.c.l) 193 W T 2 none 0 0 (b.pars.take 0) W):=hHd (by
  obtain⟨⟨-,-,-,-,-,-,t2,-⟩,-⟩:=HS.out W (Ext.refl _);have hf:=HSf.out W (Ext.refl _);rw [←hT] at t2 hf;exact AppR.start (v:= .bool true) t2 hf)
 have HSRC:Hid (∀w',KP (fun j=>j=T) W w'→w'.cell? ⟨w.heap.size,2,none⟩=some (.slice a1 b.pars.length c1)∧w'.cell? ⟨w.heap.size,3,none⟩=some (.slice a2 b.ents.length c2)):=hHd (fun w' h=>by
  obtain⟨⟨-,-,q2,q3,-,-,-,-⟩,-⟩:=HS.out W (Ext.refl _);exact⟨h.keep (by omega) q2,h.keep (by omega) q3⟩)
 have hHI:=hHd hT;clear hT;go_loopw [4] (fun s4 wr=>∃(k:Nat) (a5:Option Addr) (q5:Nat),k≤b.pars.length∧s4= .int .i64 k∧Hid (AppR 4 (fun x:Par=>x.c.l) 193 W T 2 a5 k q5 (b.pars.take k) wr)) (fun s _=>b.pars.length - (intOf s).toNat)
 case atStart=>exact⟨0,none,0,Nat.zero_le _,rfl,HA0⟩
 case round =>
  obtain⟨k,a5,q5,hk,rfl,HP⟩:=hrel;obtain⟨wo,rfl⟩:∃x,x=wr:=⟨_,rfl⟩;have HX:Hid (Ext w wo):=hHd (HP.out.kp.toExt X (fun j hj=>by have:=HTT.out;omega));have HSQ:=hHd (HSRC.out wo HP.out.kp);obtain⟨q2,q3⟩:=HSQ.out;by_cases hlt:k<b.pars.length
  ·obtain ⟨b', off, rfl, hce⟩ := HC4.out wo HX.out k (by simpa using hlt); have e1 : (b.pars.map Par.c)[k]'(by simpa using hlt) = (b.pars[k]).c := by simp
   rw [e1] at hce;have HTK:=hHd (List.take_succ_eq_append_getElem hlt);have hk0:(0:Int)≤(k:Int):=by omega
   have hk1:(k:Int)<(b.pars.length:Int):=by omega
   generalize b.pars[k]=f at*;obtain⟨m0,m1,m2,m3⟩:=hce;simp only [Par.c] at m0 m1 m2 m3;clear e1;go_upto_region 6 with fail
   obtain⟨W6,hW6⟩:∃W6,W6=wo.alloc (.cells #[.int .i64 f.owner,.int .i64 f.value,.int .i64 f.slo,.int .i64 f.shi] 214):=⟨_,rfl⟩;have X6:Ext wo W6:=by rw [hW6];exact EX
   have HB6:Hid (∀w',KP (fun j=>j=T∨(Value.slice a5 k q5).ownBlock=some j) W6 w'→∀i v,([.int .i64 f.owner,.int .i64 f.value,.int .i64 f.slo,.int .i64 f.shi]:List Value)[i]?=some v→w'.cell? ⟨wo.heap.size,i,none⟩=some v):=hHd (HP.out.box rfl (fun i v hi=>by rw [hW6];exact(BoxN.made (Ext.refl wo)).cells i v hi));rw [←hW6];clear hW6;have HRF:=hHd (HP.out.facts hTW X6 (P:=fun w'=>w'.cell? ⟨wo.heap.size,0,none⟩=some (.int .i64 f.owner)∧w'.cell? ⟨wo.heap.size,1,none⟩=some (.int .i64 f.value)∧w'.cell? ⟨wo.heap.size,2,none⟩=some (.int .i64 f.slo)∧w'.cell? ⟨wo.heap.size,3,none⟩=some (.int .i64 f.shi)) (fun w' h=>⟨HB6.out w' h 0 _ rfl,HB6.out w' h 1 _ rfl,HB6.out w' h 2 _ rfl,HB6.out w' h 3 _ rfl⟩))
   have HONE:Hid (∀u∈([.int .i64 f.owner,.int .i64 f.value,.int .i64 f.slo,.int .i64 f.shi]:List Value),u.oneCell'=true):=hHd (by
    intro u hu
    simp only [List.mem_cons,List.not_mem_nil,or_false] at hu;rcases hu with rfl|rfl|rfl|rfl<;>rfl)
   have HF1:Hid (k+1≤maxLen):=hHd (by have:=HL.out;simp only [maxLen];omega);have HF2:Hid ((k+1)*32≤140737488355328):=hHd (by have:=HL.out;omega);clear m0 m1 m2 m3 q2 q3 HSQ;refine wp_region_held_drew (S:=(fun w'=>((w'.cell? ⟨T,2,none⟩=some (curV w' ⟨T,2,none⟩)∧w'.frozen? ⟨T,2,none⟩=false)∧(w'.cell? ⟨wo.heap.size,0,none⟩=some (.int .i64 f.owner)∧w'.cell? ⟨wo.heap.size,1,none⟩=some (.int .i64 f.value)∧w'.cell? ⟨wo.heap.size,2,none⟩=some (.int .i64 f.slo)∧w'.cell? ⟨wo.heap.size,3,none⟩=some (.int .i64 f.shi)))∧KP (fun j=>j=T∨(Value.slice a5 k q5).ownBlock=some j) W6 w')) (by kernel_rfl) ?_ (fun hHeld=> ?_)
   focus ((try dsimp only);(refine HRF.out.ss _ ?_ ?_;(repeat (first|exact KP.refl _|with_reducible (first|assumption|refine KP.drew ?_|refine KP.alloc ?_ _|refine KP.setCell ?_ (Or.inl rfl) _|refine KP.ext ?_ (by assumption)|refine KP.trans ?_ (by assumption)|refine Ext.kp (by assumption))));(first|(refine HRF.out.cur _ ?_;with_reducible assumption)|(refine HRF.out.cus _ _ ?_;with_reducible assumption)|(refine HRF.out.cur _ (Ext.kp ?_);exact EXD))))
   repeat' (first
    |((first|refine tk 0 (v:= ?_) (hi:=rfl) (hy:=Or.inl ⟨by rfl,?_⟩) (h:= ?_)|refine tk 2 (v:= ?_) (hi:=rfl) (hy:=Or.inl ⟨by rfl,?_⟩) (h:= ?_)|refine tk 3 (v:= ?_) (hi:=rfl) (hy:=Or.inl ⟨by rfl,?_⟩) (h:= ?_)|refine tk 4 (v:= ?_) (hi:=rfl) (hy:=Or.inl ⟨by rfl,?_⟩) (h:= ?_)|refine tk 5 (v:= ?_) (hi:=rfl) (hy:=Or.inl ⟨by rfl,?_⟩) (h:= ?_)|refine tk 6 (v:= ?_) (hi:=rfl) (hy:=Or.inl ⟨by rfl,?_⟩) (h:= ?_)|refine tk 7 (v:= ?_) (hi:=rfl) (hy:=Or.inl ⟨by rfl,?_⟩) (h:= ?_)|refine tk 9 (v:= ?_) (hi:=rfl) (hy:=Or.inl ⟨by rfl,?_⟩) (h:= ?_)|refine tk 12 (v:= ?_) (hi:=rfl) (hy:=Or.inl ⟨by rfl,?_⟩) (h:= ?_));rotate_left;(focus (intro w hSw;(try dsimp only at hSw);go_simp;try (first|(with_reducible rfl)|(with_reducible exact rfl))));(try simp only [Act.put,List.getElem_toArray,List.getElem_cons_succ,List.getElem_cons_zero,List.setIfInBounds_toArray,List.set_cons_zero,List.set_cons_succ]))
    |((first|refine rdy [1,8] ?_|refine rdy [8] ?_|refine rdy [1,10] ?_|refine rdy [10] ?_|refine rdy [1] ?_|refine rdy [13] ?_);(repeat (refine AllReadyH.cons rfl (fun K hK=> ?_) ?_;(focus ((first|(go_simp;((go_at_call 131;(refine(HTO.out _ _ _).mono ?_);rintro e w3 ⟨rfl,hx3⟩));go_wp2_with fail)|go_simp);refine hK.out _ _ ?_ (fun hNew=> ?_);(focus ((try dsimp only);(refine HRF.out.ss _ ?_ ?_;(repeat (first|exact KP.refl _|with_reducible (first|assumption|refine KP.drew ?_|refine KP.alloc ?_ _|refine KP.setCell ?_ (Or.inl rfl) _|refine KP.ext ?_ (by assumption)|refine KP.trans ?_ (by assumption)|refine Ext.kp (by assumption))));(first|(refine HRF.out.cur _ ?_;with_reducible assumption)|(refine HRF.out.cus _ _ ?_;with_reducible assumption)|(refine HRF.out.cur _ (Ext.kp ?_);exact EXD)))));clear hK K hHeld;have hHeld:=hNew;clear hNew;(try simp only [Act.put,List.getElem_toArray,List.getElem_cons_succ,List.getElem_cons_zero,List.setIfInBounds_toArray,List.set_cons_zero,List.set_cons_succ])));rotate_left));exact AllReadyH.nil)
    |((first|refine rdy [11] ?_);refine AllReadyH.cons rfl (fun K hK=> ?_) AllReadyH.nil;(((refine step_is_app' _ _ 49 rfl ?_);(refine step_append_lies _ (by rfl) _ _ 49 (by rfl) W.heap.size 193 i0 (.agg #[.int .i64 0,.int .i64 0,.int .i64 0,.int .i64 0]) 4 32 Tryz.underlying49 hi0 hz0 hz1 hz2 rfl (by decide) (.slice a5 k q5) k ((b.pars.take k).flatMap (fun x:Par=>x.c.l)) (by exact HRF.out.cv _ EX) (HRF.out.own _ EX) ⟨_,0,none⟩ 1 1 [.int .i64 f.owner,.int .i64 f.value,.int .i64 f.slo,.int .i64 f.shi] (by rfl) rfl (in_4 EX (by first|rfl|simp)) HONE.out (by decide) HF1.out HF2.out (HRF.out.base _ EX) _ rfl ?_);intro g cap w4 hown4 hgrow hat hlt4;have hg4:KP (fun j=>(Value.slice a5 k q5).ownBlock=some j) W6 w4:=KP.trans (Ext.kp EX) (KP.grown hgrow (fun _ hg=>hg));have hk4:KP (fun j=>j=T∨(Value.slice a5 k q5).ownBlock=some j) W6 w4:=KP.weak hg4 (fun _ h=>Or.inr h)));refine hK.out _ _ ?_ (fun hNew=> ?_);(focus ((try dsimp only);(refine HRF.out.ss _ ?_ ?_;(repeat (first|exact KP.refl _|with_reducible (first|assumption|refine KP.drew ?_|refine KP.alloc ?_ _|refine KP.setCell ?_ (Or.inl rfl) _|refine KP.ext ?_ (by assumption)|refine KP.trans ?_ (by assumption)|refine Ext.kp (by assumption))));(first|(refine HRF.out.cur _ ?_;with_reducible assumption)|(refine HRF.out.cus _ _ ?_;with_reducible assumption)|(refine HRF.out.cur _ (Ext.kp ?_);exact EXD)))));clear hK K hHeld;have hHeld:=hNew;clear hNew;(try simp only [Act.put,List.getElem_toArray,List.getElem_cons_succ,List.getElem_cons_zero,List.setIfInBounds_toArray,List.set_cons_zero,List.set_cons_succ]))
    |(refine wpAnyH_done (by decide+kernel) ?_ _)
    |fail)
   all_goals
    have HNX:Hid (∀w',Ext (w4.setCell ⟨T,2,none⟩ (.slice (some ⟨g,0,none⟩) (k+1) cap)) w'→AppR 4 (fun x:Par=>x.c.l) 193 W T 2 (some ⟨g,0,none⟩) (k+1) cap (b.pars.take (k+1)) w'):=hHd (fun w' hx=>by rw [HTK.out];exact HP.out.next hTW X6 hg4 hown4 rfl rfl hx);clear hown4 hgrow hat hg4 hk4;(go_wp2_with fail);go_roundw
    case rel=>exact⟨k+1,_,cap,by omega,by go_num,hHd (HNX.out _ (Ext.refl _))⟩
    case measure=>simp [intOf];omega
  ·obtain rfl : k = b.pars.length := by omega
   clear HC4 hlt hk;obtain⟨W2,rfl⟩:∃x,x=wo:=⟨_,rfl⟩;obtain⟨aP,rfl⟩:∃x,x=a5:=⟨_,rfl⟩;obtain⟨qP,rfl⟩:∃x,x=q5:=⟨_,rfl⟩;have HP1:=HP;have XX:=HX.out;have HKP:=hHd HP.out.kp
   have HA1:Hid (AppR 8 (fun x:Ent=>x.c.l) 125 W2 T 3 none 0 0 (b.ents.take 0) W2):=hHd (by
    obtain⟨⟨-,-,-,-,-,-,-,t3⟩,-⟩:=HS.out W (Ext.refl _);rw [←HTT.out] at t3;exact AppR.start (v:= .bool true) (HP1.out.oth 3 _ (by decide) t3) HP1.out.fr)
   have HSRC2:Hid (∀w',KP (fun j=>j=T) W2 w'→w'.cell? ⟨w.heap.size,2,none⟩=some (.slice a1 b.pars.length c1)∧w'.cell? ⟨w.heap.size,3,none⟩=some (.slice a2 b.ents.length c2)):=hHd (fun w' h=>HSRC.out w' (HKP.out.trans h));have hTW2:T<W2.heap.size:=lt_of_cell HP1.out.cur;clear HP HX HSQ;(go_wp2_with fail);go_loopw [6] (fun s4 wr=>∃(k:Nat) (a5:Option Addr) (q5:Nat),k≤b.ents.length∧s4= .int .i64 k∧Hid (AppR 8 (fun x:Ent=>x.c.l) 125 W2 T 3 a5 k q5 (b.ents.take k) wr)) (fun s _=>b.ents.length - (intOf s).toNat)
   case atStart=>exact⟨0,none,0,Nat.zero_le _,rfl,HA1⟩
   case round=>
    obtain⟨k,a5,q5,hk,rfl,HP⟩:=hrel;obtain⟨wo,rfl⟩:∃x,x=wr:=⟨_,rfl⟩;have HX:Hid (Ext w wo):=hHd (HP.out.kp.toExt XX (fun j hj=>by have:=HTT.out;omega));have HSQ:=hHd (HSRC2.out wo HP.out.kp);obtain⟨q2,q3⟩:=HSQ.out;by_cases hlt:k<b.ents.length
    ·obtain ⟨b', off, rfl, hce⟩ := HE.out wo HX.out k (by simpa using hlt); have e1 : (b.ents.map Ent.c)[k]'(by simpa using hlt) = (b.ents[k]).c := by simp
     rw [e1] at hce;have HTK:=hHd (List.take_succ_eq_append_getElem hlt);have hk0:(0:Int)≤(k:Int):=by omega
     have hk1:(k:Int)<(b.ents.length:Int):=by omega
     generalize b.ents[k]=f at*;obtain⟨m0,m1,m2,m3,m4,m5,m6,m7⟩:=hce;simp only [Ent.c] at m0 m1 m2 m3 m4 m5 m6 m7;clear e1;go_upto_region 11 with fail
     obtain⟨W6,hW6⟩:∃W6,W6=wo.alloc (.cells #[.int .i64 f.kind,.int .i64 f.parcel,.int .i64 f.other,.int .i64 f.frm,.int .i64 f.to,.int .i64 f.part,.int .i64 f.dlo,.int .i64 f.dhi] 217):=⟨_,rfl⟩;have X6:Ext wo W6:=by rw [hW6];exact EX
     have HB6:Hid (∀w',KP (fun j=>j=T∨(Value.slice a5 k q5).ownBlock=some j) W6 w'→∀i v,([.int .i64 f.kind,.int .i64 f.parcel,.int .i64 f.other,.int .i64 f.frm,.int .i64 f.to,.int .i64 f.part,.int .i64 f.dlo,.int .i64 f.dhi]:List Value)[i]?=some v→w'.cell? ⟨wo.heap.size,i,none⟩=some v):=hHd (HP.out.box rfl (fun i v hi=>by rw [hW6];exact(BoxN.made (Ext.refl wo)).cells i v hi));rw [←hW6];clear hW6;have HRF:=hHd (HP.out.facts hTW2 X6 (P:=fun w'=>w'.cell? ⟨wo.heap.size,0,none⟩=some (.int .i64 f.kind)∧w'.cell? ⟨wo.heap.size,1,none⟩=some (.int .i64 f.parcel)∧w'.cell? ⟨wo.heap.size,2,none⟩=some (.int .i64 f.other)∧w'.cell? ⟨wo.heap.size,3,none⟩=some (.int .i64 f.frm)∧w'.cell? ⟨wo.heap.size,4,none⟩=some (.int .i64 f.to)∧w'.cell? ⟨wo.heap.size,5,none⟩=some (.int .i64 f.part)∧w'.cell? ⟨wo.heap.size,6,none⟩=some (.int .i64 f.dlo)∧w'.cell? ⟨wo.heap.size,7,none⟩=some (.int .i64 f.dhi)) (fun w' h=>⟨HB6.out w' h 0 _ rfl,HB6.out w' h 1 _ rfl,HB6.out w' h 2 _ rfl,HB6.out w' h 3 _ rfl,HB6.out w' h 4 _ rfl,HB6.out w' h 5 _ rfl,HB6.out w' h 6 _ rfl,HB6.out w' h 7 _ rfl⟩))
     have HONE:Hid (∀u∈([.int .i64 f.kind,.int .i64 f.parcel,.int .i64 f.other,.int .i64 f.frm,.int .i64 f.to,.int .i64 f.part,.int .i64 f.dlo,.int .i64 f.dhi]:List Value),u.oneCell'=true):=hHd (by
      intro u hu
      simp only [List.mem_cons,List.not_mem_nil,or_false] at hu;rcases hu with rfl|rfl|rfl|rfl|rfl|rfl|rfl|rfl<;>rfl)
     have HF1:Hid (k+1≤maxLen):=hHd (by have:=HL.out;simp only [maxLen];omega);have HF2:Hid ((k+1)*64≤140737488355328):=hHd (by have:=HL.out;omega);clear m0 m1 m2 m3 m4 m5 m6 m7 q2 q3 HSQ;refine wp_region_held_drew (S:=(fun w'=>((w'.cell? ⟨T,3,none⟩=some (curV w' ⟨T,3,none⟩)∧w'.frozen? ⟨T,3,none⟩=false)∧(w'.cell? ⟨wo.heap.size,0,none⟩=some (.int .i64 f.kind)∧w'.cell? ⟨wo.heap.size,1,none⟩=some (.int .i64 f.parcel)∧w'.cell? ⟨wo.heap.size,2,none⟩=some (.int .i64 f.other)∧w'.cell? ⟨wo.heap.size,3,none⟩=some (.int .i64 f.frm)∧w'.cell? ⟨wo.heap.size,4,none⟩=some (.int .i64 f.to)∧w'.cell? ⟨wo.heap.size,5,none⟩=some (.int .i64 f.part)∧w'.cell? ⟨wo.heap.size,6,none⟩=some (.int .i64 f.dlo)∧w'.cell? ⟨wo.heap.size,7,none⟩=some (.int .i64 f.dhi)))∧KP (fun j=>j=T∨(Value.slice a5 k q5).ownBlock=some j) W6 w')) (by kernel_rfl) ?_ (fun hHeld=> ?_)
     focus ((try dsimp only);(refine HRF.out.ss _ ?_ ?_;(repeat (first|exact KP.refl _|with_reducible (first|assumption|refine KP.drew ?_|refine KP.alloc ?_ _|refine KP.setCell ?_ (Or.inl rfl) _|refine KP.ext ?_ (by assumption)|refine KP.trans ?_ (by assumption)|refine Ext.kp (by assumption))));(first|(refine HRF.out.cur _ ?_;with_reducible assumption)|(refine HRF.out.cus _ _ ?_;with_reducible assumption)|(refine HRF.out.cur _ (Ext.kp ?_);exact EXD))))
     repeat' (first
      |((first|refine tk 0 (v:= ?_) (hi:=rfl) (hy:=Or.inl ⟨by rfl,?_⟩) (h:= ?_)|refine tk 2 (v:= ?_) (hi:=rfl) (hy:=Or.inl ⟨by rfl,?_⟩) (h:= ?_)|refine tk 3 (v:= ?_) (hi:=rfl) (hy:=Or.inl ⟨by rfl,?_⟩) (h:= ?_)|refine tk 4 (v:= ?_) (hi:=rfl) (hy:=Or.inl ⟨by rfl,?_⟩) (h:= ?_)|refine tk 5 (v:= ?_) (hi:=rfl) (hy:=Or.inl ⟨by rfl,?_⟩) (h:= ?_)|refine tk 6 (v:= ?_) (hi:=rfl) (hy:=Or.inl ⟨by rfl,?_⟩) (h:= ?_)|refine tk 7 (v:= ?_) (hi:=rfl) (hy:=Or.inl ⟨by rfl,?_⟩) (h:= ?_)|refine tk 8 (v:= ?_) (hi:=rfl) (hy:=Or.inl ⟨by rfl,?_⟩) (h:= ?_)|refine tk 9 (v:= ?_) (hi:=rfl) (hy:=Or.inl ⟨by rfl,?_⟩) (h:= ?_)|refine tk 10 (v:= ?_) (hi:=rfl) (hy:=Or.inl ⟨by rfl,?_⟩) (h:= ?_)|refine tk 11 (v:= ?_) (hi:=rfl) (hy:=Or.inl ⟨by rfl,?_⟩) (h:= ?_)|refine tk 12 (v:= ?_) (hi:=rfl) (hy:=Or.inl ⟨by rfl,?_⟩) (h:= ?_)|refine tk 13 (v:= ?_) (hi:=rfl) (hy:=Or.inl ⟨by rfl,?_⟩) (h:= ?_)|refine tk 14 (v:= ?_) (hi:=rfl) (hy:=Or.inl ⟨by rfl,?_⟩) (h:= ?_)|refine tk 15 (v:= ?_) (hi:=rfl) (hy:=Or.inl ⟨by rfl,?_⟩) (h:= ?_)|refine tk 17 (v:= ?_) (hi:=rfl) (hy:=Or.inl ⟨by rfl,?_⟩) (h:= ?_)|refine tk 20 (v:= ?_) (hi:=rfl) (hy:=Or.inl ⟨by rfl,?_⟩) (h:= ?_));rotate_left;(focus (intro w hSw;(try dsimp only at hSw);go_simp;try (first|(with_reducible rfl)|(with_reducible exact rfl))));(try simp only [Act.put,List.getElem_toArray,List.getElem_cons_succ,List.getElem_cons_zero,List.setIfInBounds_toArray,List.set_cons_zero,List.set_cons_succ]))
      |((first|refine rdy [1,16] ?_|refine rdy [16] ?_|refine rdy [1,18] ?_|refine rdy [18] ?_|refine rdy [1] ?_|refine rdy [21] ?_);(repeat (refine AllReadyH.cons rfl (fun K hK=> ?_) ?_;(focus ((first|(go_simp;((go_at_call 131;(refine(HTO.out _ _ _).mono ?_);rintro e w3 ⟨rfl,hx3⟩));go_wp2_with fail)|go_simp);refine hK.out _ _ ?_ (fun hNew=> ?_);(focus ((try dsimp only);(refine HRF.out.ss _ ?_ ?_;(repeat (first|exact KP.refl _|with_reducible (first|assumption|refine KP.drew ?_|refine KP.alloc ?_ _|refine KP.setCell ?_ (Or.inl rfl) _|refine KP.ext ?_ (by assumption)|refine KP.trans ?_ (by assumption)|refine Ext.kp (by assumption))));(first|(refine HRF.out.cur _ ?_;with_reducible assumption)|(refine HRF.out.cus _ _ ?_;with_reducible assumption)|(refine HRF.out.cur _ (Ext.kp ?_);exact EXD)))));clear hK K hHeld;have hHeld:=hNew;clear hNew;(try simp only [Act.put,List.getElem_toArray,List.getElem_cons_succ,List.getElem_cons_zero,List.setIfInBounds_toArray,List.set_cons_zero,List.set_cons_succ])));rotate_left));exact AllReadyH.nil)
      |((first|refine rdy [19] ?_);refine AllReadyH.cons rfl (fun K hK=> ?_) AllReadyH.nil;(((refine step_is_app' _ _ 50 rfl ?_);(refine step_append_lies _ (by rfl) _ _ 50 (by rfl) W2.heap.size 125 i1 (.agg #[.int .i64 0,.int .i64 0,.int .i64 0,.int .i64 0,.int .i64 0,.int .i64 0,.int .i64 0,.int .i64 0]) 8 64 Tryz.underlying50 hi1 hy0 hy1 hy2 rfl (by decide) (.slice a5 k q5) k ((b.ents.take k).flatMap (fun x:Ent=>x.c.l)) (by exact HRF.out.cv _ EX) (HRF.out.own _ EX) ⟨_,0,none⟩ 1 1 [.int .i64 f.kind,.int .i64 f.parcel,.int .i64 f.other,.int .i64 f.frm,.int .i64 f.to,.int .i64 f.part,.int .i64 f.dlo,.int .i64 f.dhi] (by rfl) rfl (in_8 EX (by first|rfl|simp)) HONE.out (by decide) HF1.out HF2.out (HRF.out.base _ EX) _ rfl ?_);intro g cap w4 hown4 hgrow hat hlt4;have hg4:KP (fun j=>(Value.slice a5 k q5).ownBlock=some j) W6 w4:=KP.trans (Ext.kp EX) (KP.grown hgrow (fun _ hg=>hg));have hk4:KP (fun j=>j=T∨(Value.slice a5 k q5).ownBlock=some j) W6 w4:=KP.weak hg4 (fun _ h=>Or.inr h)));refine hK.out _ _ ?_ (fun hNew=> ?_);(focus ((try dsimp only);(refine HRF.out.ss _ ?_ ?_;(repeat (first|exact KP.refl _|with_reducible (first|assumption|refine KP.drew ?_|refine KP.alloc ?_ _|refine KP.setCell ?_ (Or.inl rfl) _|refine KP.ext ?_ (by assumption)|refine KP.trans ?_ (by assumption)|refine Ext.kp (by assumption))));(first|(refine HRF.out.cur _ ?_;with_reducible assumption)|(refine HRF.out.cus _ _ ?_;with_reducible assumption)|(refine HRF.out.cur _ (Ext.kp ?_);exact EXD)))));clear hK K hHeld;have hHeld:=hNew;clear hNew;(try simp only [Act.put,List.getElem_toArray,List.getElem_cons_succ,List.getElem_cons_zero,List.setIfInBounds_toArray,List.set_cons_zero,List.set_cons_succ]))
      |(refine wpAnyH_done (by decide+kernel) ?_ _)
      |fail)
     all_goals
      have HNX:Hid (∀w',Ext (w4.setCell ⟨T,3,none⟩ (.slice (some ⟨g,0,none⟩) (k+1) cap)) w'→AppR 8 (fun x:Ent=>x.c.l) 125 W2 T 3 (some ⟨g,0,none⟩) (k+1) cap (b.ents.take (k+1)) w'):=hHd (fun w' hx=>by rw [HTK.out];exact HP.out.next hTW2 X6 hg4 hown4 rfl rfl hx);clear hown4 hgrow hat hg4 hk4;(go_wp2_with fail);go_roundw
      case rel=>exact⟨k+1,_,cap,by omega,by go_num,hHd (HNX.out _ (Ext.refl _))⟩
      case measure=>simp [intOf];omega
    ·obtain rfl : k = b.ents.length := by omega
     obtain⟨⟨⟨v0,r0⟩,⟨v1,r1⟩,⟨v2,r2⟩,⟨v3,r3⟩⟩,rf⟩:=HB1.out W (Ext.refl _);obtain⟨⟨-,-,-,-,t0,t1,-,-⟩,-⟩:=HS.out W (Ext.refl _);rw [←HTT.out] at t0 t1;have ne1:¬w.heap.size+1=T:=by have:=HTT.out;omega
     have ne2:¬T=w.heap.size+1:=by have:=HTT.out;omega
     have k1:=HKP.out;have k2:=HP.out.kp;have rf':∀o,wo.frozen? ⟨w.heap.size+1,o,none⟩=false:=fun o=>(k2.frozen (lt_of_cell (k1.keep ne1 r0)) ne1).trans ((k1.frozen (lt_of_cell r0) ne1).trans (rf o))
     replace r0:=k2.keep ne1 (k1.keep ne1 r0);replace r1:=k2.keep ne1 (k1.keep ne1 r1);replace r2:=k2.keep ne1 (k1.keep ne1 r2);replace r3:=k2.keep ne1 (k1.keep ne1 r3);replace t0:=HP.out.oth 0 _ (by decide) (HP1.out.oth 0 _ (by decide) t0);replace t1:=HP.out.oth 1 _ (by decide) (HP1.out.oth 1 _ (by decide) t1);have t2:=HP.out.oth 2 _ (by decide) HP1.out.cur;have t3:=HP.out.cur;have HKS:Hid (∀v0 v1 v2 v3:Value,KP (fun j=>j=w.heap.size+1) wo ((((wo.setCell ⟨w.heap.size+1,0,none⟩ v0).setCell ⟨w.heap.size+1,1,none⟩ v1).setCell ⟨w.heap.size+1,2,none⟩ v2).setCell ⟨w.heap.size+1,3,none⟩ v3)):=hHd (fun v0 v1 v2 v3=>((((KP.refl _).setCell (p:=fun j=>j=w.heap.size+1) rfl _).setCell rfl _).setCell rfl _).setCell rfl _);have HO1:Hid (W2.ownsRow W.heap.size 193 4 (.slice aP b.pars.length qP) b.pars.length (b.pars.flatMap (fun x=>x.c.l))):=hHd (by have:=HP1.out.own;rwa [List.take_length] at this);have HO2:Hid (wo.ownsRow W2.heap.size 125 8 (.slice a5 b.ents.length q5) b.ents.length (b.ents.flatMap (fun x=>x.c.l))):=hHd (by have:=HP.out.own;rwa [List.take_length] at this);have HK2:=hHd k2;have XO:=HX.out;have hwW:w.heap.size+1<W.heap.size:=by have:=HTT.out;omega
     have hWW2:=k1.size;clear k1 k2 hk hlt HSQ;(go_wp2_with fail);refine bodyPost_ret (v:= .agg #[.int .i64 last,.int .i64 owners,.slice aP b.pars.length qP,.slice a5 b.ents.length q5]) (by simp [results,Tryz.results76,go_sem,r0,r1,r2,r3]) rfl ⟨_,_,_,_,rfl,?_,?_,?_⟩
     ·exact ownRow_down (own_kp (own_kp HO1.out HK2.out (fun j hj=>by subst hj;exact hTW)) (HKS.out _ _ _ _) (fun j hj=>by subst hj;exact hwW)) (by omega)
     ·exact ownRow_down (own_kp HO2.out (HKS.out _ _ _ _) (fun j hj=>by subst hj;omega)) (by omega)
     ·exact EX
end Go.Proofs.YtegkdnfeceomdaaGreat
