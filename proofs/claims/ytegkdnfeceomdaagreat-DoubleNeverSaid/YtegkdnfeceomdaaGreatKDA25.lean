/- Bundled: what the texts QD HAF say one after another. -/
import Derived.Test.YtegkdnfeceomdaaGreatKDA24
import Derived.Shelf.RegionOpen
import Derived.Maps.OwnIn
import Derived.Test.YtegkdnfeceomdaaGreatKDA4
import Derived.Test.YtegkdnfeceomdaaGreatKDA11
import Derived.Test.YtegkdnfeceomdaaGreatKDA22
import Derived.Test.YtegkdnfeceomdaaGreatKDA23
import Derived.KernelRfl
set_option maxRecDepth 100000
set_option maxHeartbeats 16000000
set_option linter.unusedSimpArgs false
set_option linter.unusedVariables false
namespace Go.Hs
open Go.RowKit
def leaveR (c:DCas):List Nat:=if askD c true=0 then leaveD c else []
def LvQ (c:DCas) (w:World) (e:Ending) (w':World):Prop:=∃v,e= .returned (.tuple #[v,.int .i64 (askD c true)])∧IntsV w' v (intsN (leaveR c))∧Ext w w'
theorem nil_ints (w:World):IntsV w (.slice none 0 0) []:=⟨none,0,rfl,Nat.le_refl _,by simp,fun i hi=>absurd hi (Nat.not_lt_zero _)⟩
structure BxL (T:TypeId) (e b B n:Nat) (us:List Value) (w:World):Prop where
 row:∃a q,w.cell? ⟨b,0,none⟩=some (.slice a n q)∧w.ownsRow B T e (.slice a n q) n us
 fr:∀o,w.frozen? ⟨b,o,none⟩=false
 lt:b<B
theorem BxL.move {T:TypeId} {e b B n:Nat} {us:List Value} {w w':World} (h:BxL T e b B n us w) (hk:∀k,k=b∨B≤k→k<w.heap.size→w'.heap[k]?=w.heap[k]?):BxL T e b B n us w':=by
 obtain⟨a,q,hc,ho⟩:=h.row;have hb:=hk b (.inl rfl) (lt_of_cell hc);refine⟨⟨a,q,?_,own_keep ho (fun g hg=>hk g (.inr (own_lt ho hg).1) (own_lt ho hg).2)⟩,fun o=>(World.frozen?_of_block (w:=w) hb).trans (h.fr o),h.lt⟩
 rw [World.cell?_of_block (w:=w) (a:=⟨b,0,none⟩) hb];exact hc
theorem hgrow_cell {w w':World} {row:Option Nat} (hg:w.grownBy w' row) {b o:Nat} {v:Value} (h:w.cell? ⟨b,o,none⟩=some v) (hne:some b≠row):w'.cell? ⟨b,o,none⟩=some v:=World.grownBy.cell hg h hne
theorem BxL.next {T:TypeId} {e b B n n' q' g':Nat} {us us':List Value} {wo w1 w':World} {a:Option Addr} {q:Nat} (h:BxL T e b B n us wo) (hc:wo.cell? ⟨b,0,none⟩=some (.slice a n q)) (ho:wo.ownsRow B T e (.slice a n q) n us) (hx:Ext wo w1) (hg:w1.grownBy w' (Value.slice a n q).ownBlock)
  (hown:w'.ownsRow B T e (.slice (some ⟨g',0,none⟩) n' q') n' us'):(w'.cell? ⟨b,0,none⟩=some (.slice a n q)∧∀o,w'.frozen? ⟨b,o,none⟩=false)∧BxL T e b B n' us' (w'.setCell ⟨b,0,none⟩ (.slice (some ⟨g',0,none⟩) n' q'))∧KP (fun j=>j=b∨B≤j) wo (w'.setCell ⟨b,0,none⟩ (.slice (some ⟨g',0,none⟩) n' q')):=by
 have hb:=h.lt;have hlt:=lt_of_cell hc;simp only at hlt;have hne:some b≠(Value.slice a n q).ownBlock:=fun e=>by have:=(own_lt ho e.symm).1;omega
 have hc':=hgrow_cell hg (hx.keep hc) hne;have hf':∀o,w'.frozen? ⟨b,o,none⟩=false:=fun o=>(World.grownBy.frozen_far hg ⟨b,o,none⟩ (Nat.lt_of_lt_of_le hlt hx.size) hne).trans ((hx.frozen hlt).trans (h.fr o))
 refine⟨⟨hc',hf'⟩,⟨⟨_,_,World.cell?_setCell_same _ _ _ hc',own_keep hown (fun k hk=>Below.heap_setCell _ _ _ _ (show k≠b from fun e=>by have:=(own_lt hown hk).1;omega))⟩,fun o=>by rw [World.frozen?_setCell];exact hf' o,hb⟩,?_⟩
 exact KP.setCell (p:=fun j=>j=b∨B≤j) ((Ext.kp hx).trans (KP.grown hg (fun k hk=> .inr (own_lt ho hk).1))) (.inl rfl) _
theorem cells_five {w wa:World} {b:Nat} {x y z u s:Value} {t:TypeId} (h:Ext (w.alloc (.cells #[x,y,z,u,s] t)) wa) (hb:b=w.heap.size):∀j v,([x,y,z,u,s]:List Value)[j]?=some v→wa.cell? ((⟨b,0,none⟩:Addr).add j)=some v:=by
 subst hb;intro j v hj
 have e:∀j,(⟨w.heap.size,0,none⟩:Addr).add j=⟨w.heap.size,j,none⟩:=fun j=>by unfold Addr.add;split<;>simp_all
 rw [e];rcases j with _|_|_|_|_|j
 all_goals first
  |(simp at hj;subst hj;exact h.keep (by simp [go_sem]))
  |(simp at hj)
def k5 (k:Knd):List Value:= [.bool (k 0),.bool (k 1),.bool (k 2),.bool (k 3),.bool (k 4)]
theorem stepK_flat (kn:List Knd) (k:Knd):(kn++ [k]).flatMap k5=kn.flatMap k5++k5 k:=by simp
structure LvJ (T:TypeId) (m b:Nat) (kn:List Knd) (W2:World) (U:Nat) (w:World):Prop where
 kp:KP (fun j=>j=m∨j=b) W2 w
 stl:Stl m w
 box:BxL T 5 b U kn.length (kn.flatMap k5) w
theorem LvJ.mm {T:TypeId} {m b U:Nat} {kn:List Knd} {W2 w w':World} (h:LvJ T m b kn W2 U w) (k:MM m w w') (hU:m<U) (hb:b≠m):LvJ T m b kn W2 U w':=
 ⟨h.kp.trans (KP.weak k.kp (fun j hj=> .inl hj)),k.stl h.stl,h.box.move (fun j hj hlt=>k.kp.block j hlt (by omega))⟩
theorem LvJ.next {T:TypeId} {m b U:Nat} {kn kn':List Knd} {W2 w w':World} (h:LvJ T m b kn W2 U w) (hk:KP (fun j=>j=b∨U≤j) w w') (hb:BxL T 5 b U kn'.length (kn'.flatMap k5) w') (hU:W2.heap.size≤U) (hm:m<U) (hbm:b≠m):LvJ T m b kn' W2 U w':=
 ⟨⟨hk.os.trans h.kp.os,hk.tape.trans h.kp.tape,hk.output.trans h.kp.output,Nat.le_trans h.kp.size hk.size,fun j hj hq=>(hk.block j (Nat.lt_of_lt_of_le hj h.kp.size) (by omega)).trans (h.kp.block j hj hq)⟩,h.stl.of (hk.block m h.stl.lt (by omega)),hb⟩
theorem LvJ.belr {T:TypeId} {m b U:Nat} {kn:List Knd} {W2 w w':World} (h:LvJ T m b kn W2 U w) (hx:BelR (fun k=>k=m) (Stl m) W2.heap.size U w w') (hb:b<W2.heap.size) (hbm:b≠m) (hU:m<U):LvJ T m b kn W2 U w':=
 ⟨⟨hx.os.trans h.kp.os,hx.tape.trans h.kp.tape,hx.output.trans h.kp.output,Nat.le_trans h.kp.size hx.size,fun k hk hq=>(hx.block k (Nat.lt_of_lt_of_le hk h.kp.size) (.inl hk) (fun e=>hq (.inl e))).trans (h.kp.block k hk hq)⟩,hx.inv h.stl,h.box.move (fun k hk hlt=>hx.block k hlt (by omega) (by omega))⟩
theorem KP.keptU {q:Nat→Prop} {D U:Nat} {a b:World} (h:KP q a b) (hq:∀j,q j→j<D∨U≤j):KeptU D U a b:=⟨h.size,fun k h1 h2 h3=>h.block k h3 (fun e=>by have:=hq k e;omega)⟩
theorem last_k5 (l:List Knd) (k:Knd) (j:Nat) (hj:j<5):((l++ [k]).flatMap k5)[l.length*5+j]?=some (.bool (k j)):=by
 have h:=flat_at (C:=k5) (k:=5) (fun _=>rfl) (l++ [k]) l.length j (by simp) hj;rw [h];simp only [List.getElem_append_right (Nat.le_refl _),Nat.sub_self,List.getElem_cons_zero];rcases j with _|_|_|_|_|j
 all_goals first|rfl|omega
theorem setK {w:World} {b k:Nat} {p:Nat→Bool} {x:Bool} (h:∀j,j<5→w.cell? ⟨b,j,none⟩=some (.bool (decide (j<k)&&p j))) (hk:k<5) (hx:p k=x):∀j,j<5→(w.setCell ⟨b,k,none⟩ (.bool x)).cell? ⟨b,j,none⟩=some (.bool (decide (j<k+1)&&p j)):=by
 intro j hj
 by_cases e:j=k
 ·subst e;rw [World.cell?_setCell_same _ _ _ (h j hj),show decide (j<j+1)=true by simp,hx];rfl
 ·rw [cell_ne (.inr e) (h j hj)]; have : decide (j < k) = decide (j < k + 1) := by rw [decide_eq_decide]; omega
  rw [this]
theorem ints_def {L:Nat} {w:World} {v:Value} {xs:List Int} {r:Option (List Deferred)} (h:IntsV w v xs) (hL:w.heap[L]?=some (.deferred r)) (o:Obj):IntsV (w.putObj L o) v xs:=by
 obtain⟨a,c,rfl,h1,h2,h3⟩:=h;refine⟨a,c,rfl,h1,h2,fun i hi=> ?_⟩
 obtain⟨b,off,e,hc,hc2⟩:=h3 i hi;refine⟨b,off,e,?_,hc2⟩
 have hne:b≠L:=by
  rintro rfl;simp [World.cell?,hL] at hc
 rw [World.cell?_of_block (w:=w) (a:=⟨b,off+i*1,none⟩) (World.putObj_heap_other hne)];exact hc
theorem ext_put {w w':World} {L:Nat} (h:Ext w w') (hL:w.heap.size≤L) (o:Obj):Ext w (w'.putObj L o):=⟨h.os,h.tape,h.output,by simp;exact h.size,fun k hk=>(World.putObj_heap_other (show k≠L by omega)).trans (h.block k hk)⟩
theorem cells_own {T:TypeId} {U q:Nat} {a:Option Addr} {kn:List Knd} {w:World} (h:w.ownsRow U T 5 (.slice a kn.length q) kn.length (kn.flatMap k5)):Cells5 w a (kn.map kndC):=by
 intro i hi
 have hi':i<kn.length:=by simpa using hi
 rcases own_open h with ⟨-,h0⟩|⟨g,cap,he,-,-,-,hcs⟩
 ·omega
 simp only [Value.slice.injEq] at he;obtain⟨rfl,-,rfl⟩:=he;refine⟨g,0,rfl,?_⟩
 have e1:(kn.map kndC)[i]=kndC kn[i]:=by simp
 rw [e1,Nat.zero_add];have q:=fun j (hj:j<5)=>flat_at (C:=k5) (k:=5) (fun _=>rfl) kn i j hi' hj
 exact⟨hcs _ _ ((q 0 (by omega)).trans rfl),hcs _ _ ((q 1 (by omega)).trans rfl),hcs _ _ ((q 2 (by omega)).trans rfl),hcs _ _ ((q 3 (by omega)).trans rfl),hcs _ _ ((q 4 (by omega)).trans rfl)⟩
end Go.Hs
namespace Go.Proofs.YtegkdnfeceomdaaGreat
open Go.RowKit Go.Hs
attribute [local irreducible] World.setCell World.alloc
attribute [local go_sem] Oper.semAt_some
attribute [local simp] wide_fn wide_fn' wide_depth wide_round
attribute [local go_sem] wide_fn wide_fn' wide_depth wide_round
theorem info_kinds:(Tryz.prog.info? 177).map (fun i=>(i.zero,i.size,i.bytes))=some (some (.agg #[.bool false,.bool false,.bool false,.bool false,.bool false]),5,5):=by kernel_rfl
theorem Leave_d (A : CaseA) (c : DCas) (w : World) (hm : CaseM w A c) : Calls Tryz.prog 40 #[A.v c] w (LvQ c w) := by
  obtain⟨i0,hi0,hz0,hz1,hz2⟩:=info_parts info_int;obtain⟨i1,hi1,hz10,hz11,hz12⟩:=info_parts info_kinds;have hfo:Tryz.prog.follows Departure.mixedOrders=true:=by kernel_rfl
  have HNO:=hHd (fun h W (hx:Ext w W)=>ask_no A c W (hm.ext hx) h);have HYE:=hHd (fun h W (hx:Ext w W)=>ask_yes A c W (hm.ext hx) h);have HL0:Hid (∀r,askD c true=r→r≠0→intsN (leaveR c)= []):=hHd (fun r h h0=>by unfold leaveR;rw [if_neg (by rw [h];exact h0)];rfl);by_cases hE:askD c true=0
  · have HYE2 := hHd (HYE.out hE); have HLV : Hid (leaveR c = leaveD c) := hHd (by unfold leaveR; rw [if_pos hE]); have HAE := hHd hE; have hS : CasS c := askD_cas hE; have HM := hHd hm; have hn5 : c.clms.length ≤ 5 := by have := hS.nm; omega
    clear HNO HYE HL0 hE hm;unfold LvQ;rw [HAE.out];obtain⟨a1,c1,a2,c2,a3,c3,a4,c4⟩:=A;unfold CaseA.v caseV at*;simp only at*;refine(callsIn_wide (n:=0)).1 (callsIn_of_wp_marks Tryz.func40 rfl trivial (wpIn_wide.2 ?_) rfl)
    simp only [Tryz.ntmps40,List.size_toArray,List.length_cons,List.length_nil,Nat.reduceAdd,Nat.reduceSub,Array.replicate_succ,Array.replicate_zero,List.push_toArray,List.append_toArray,List.nil_append,List.cons_append];(go_wp2_with fail);go_step3
    (go_wp2_with fail);obtain⟨W0,hW,X,HS,HSf,HSz⟩:=bx11 w 57 (.int .i64 c.bk.last) (.int .i64 c.bk.owners) (.slice a1 c.bk.pars.length c1) (.slice a2 c.bk.ents.length c2) (.int .i64 c.soc) (.int .i64 c.day) (.int .i64 c.parcel) (.slice a3 c.covs.length c3) (.int .i64 c.llo) (.int .i64 c.lhi) (.slice a4 c.clms.length c4);rw [hW];clear hW;(with_reducible refine(HYE2.out _ X).mono ?_);rintro e w1 ⟨p,m,rfl,hwk⟩
    have HC0:Hid (∀W',Ext W0 W'→W'.cell? ⟨w.heap.size,10,none⟩=some (.slice a4 c.clms.length c4)):=hHd (fun W' h=>by
      obtain⟨⟨-,-,-,-,-,-,-,-,-,-,q10⟩,-⟩:=HS.out W' h;exact q10)
    have HW1:=hHd hwk;have X1:Ext w w1:=X.trans hwk.ext;have q10:=HC0.out w1 hwk.ext;have hmX:m<w1.heap.size:=hwk.stl.lt;have hpX:p<w1.heap.size:=hwk.lt;have hwX:w.heap.size<w1.heap.size:=lt_of_cell q10;have hmW:W0.heap.size≤m:=hwk.hm;have hW0:w.heap.size<W0.heap.size:=lt_of_cell (HC0.out W0 (Ext.refl _));have q10a:=fun o1 o2 o3=>((((Ext.refl w1).alloc o1).alloc o2).alloc o3).keep q10
    clear hwk HYE2 HS HSf;(go_wp2_with fail);have XA:Ext w1 (((w1.alloc (.cells #[.pointer (some ⟨p,0,none⟩)] 136)).alloc (.cells #[.slice none 0 0] 172)).alloc (.cells #[.slice none 0 0] 22)):=EX;have ca:(((w1.alloc (.cells #[.pointer (some ⟨p,0,none⟩)] 136)).alloc (.cells #[.slice none 0 0] 172)).alloc (.cells #[.slice none 0 0] 22)).cell? ⟨w1.heap.size,0,none⟩=some (.pointer (some ⟨p,0,none⟩)):=by simp [go_sem]
    have cb:(((w1.alloc (.cells #[.pointer (some ⟨p,0,none⟩)] 136)).alloc (.cells #[.slice none 0 0] 172)).alloc (.cells #[.slice none 0 0] 22)).cell? ⟨w1.heap.size+1,0,none⟩=some (.slice none 0 0):=by simp [go_sem]
    have cbf:∀o,(((w1.alloc (.cells #[.pointer (some ⟨p,0,none⟩)] 136)).alloc (.cells #[.slice none 0 0] 172)).alloc (.cells #[.slice none 0 0] 22)).frozen? ⟨w1.heap.size+1,o,none⟩=false:=fun o=>by simp [go_sem]
    have cc:(((w1.alloc (.cells #[.pointer (some ⟨p,0,none⟩)] 136)).alloc (.cells #[.slice none 0 0] 172)).alloc (.cells #[.slice none 0 0] 22)).cell? ⟨w1.heap.size+2,0,none⟩=some (.slice none 0 0):=by simp [go_sem]
    have ccf:∀o,(((w1.alloc (.cells #[.pointer (some ⟨p,0,none⟩)] 136)).alloc (.cells #[.slice none 0 0] 172)).alloc (.cells #[.slice none 0 0] 22)).frozen? ⟨w1.heap.size+2,o,none⟩=false:=fun o=>by simp [go_sem]
    have hz:(((w1.alloc (.cells #[.pointer (some ⟨p,0,none⟩)] 136)).alloc (.cells #[.slice none 0 0] 172)).alloc (.cells #[.slice none 0 0] 22)).heap.size=w1.heap.size+3:=by simp
    rw [show w1.heap.size+1+1=w1.heap.size+2 from rfl];generalize (((w1.alloc (.cells #[.pointer (some ⟨p,0,none⟩)] 136)).alloc (.cells #[.slice none 0 0] 172)).alloc (.cells #[.slice none 0 0] 22))=wA at*;have HZ:=hHd hz;have HXA:=hHd XA;have HEV0:Hid (BxL 3 1 (w1.heap.size+2) (w1.heap.size+3) 0 ((everyI 0).map (.int .i64)) wA):=hHd ⟨⟨none,0,cc,World.ownsRow_nil _ _ _ _⟩,ccf,by omega⟩;have HCA:=hHd (And.intro ca (And.intro cb cbf));clear hz XA ca cb cc cbf ccf q10a;go_loopw [28] (fun s28 wr=>∃k:Nat,k≤c.clms.length∧s28= .int .i64 k∧Hid (BxL 3 1 (w1.heap.size+2) (w1.heap.size+3) k ((everyI k).map (.int .i64)) wr)∧Hid (KP (fun j=>j=w1.heap.size+2∨w1.heap.size+3≤j) wA wr)) (fun s _=>c.clms.length - (intOf s).toNat)
    case atStart=>exact⟨0,Nat.zero_le _,rfl,HEV0,hHd (KP.refl _)⟩
    case round=>
      obtain⟨k,hk,rfl,HB,HK⟩:=hrel;obtain⟨wo,rfl⟩:∃x,x=wr:=⟨_,rfl⟩;obtain⟨a5,q5,c5,ho5⟩:=HB.out.row;have HO5:=hHd ho5;have f5:=HB.out.fr;have h5:=lt_of_cell c5;have hzo:w1.heap.size+3≤wo.heap.size:=by have:=HK.out.size;have:=HZ.out;omega
      clear ho5;by_cases hlt:k<c.clms.length
      · have c5a := fun o => ((Ext.refl wo).alloc o).keep c5
        have HC5:=hHd c5;go_wp2_with (at_builtin;refine wpList_append_own_at _ rfl _ _ 22 rfl (w1.heap.size+3) 3 i0 (.int .i64 0) 1 8 Tryz.underlying22 hi0 hz0 hz1 hz2 rfl (by decide) (.slice a5 k q5) k ((everyI k).map (.int .i64)) rfl ?own ⟨wo.heap.size,0,none⟩ 1 1 [.int .i64 (k:Int)] rfl rfl (cell_one_new _ _ _) ?one ?f1 ?f2 ?f3 ?next)
        case own=>exact own_keep HO5.out (fun g hg=>((Ext.refl wo).alloc _).heap (own_lt HO5.out hg).2)
        case one=>first|rfl|(intro u hu;simp at hu;subst hu;rfl)
        case f1=>simp only [maxLen];omega
        case f2=>omega
        case f3=>(first|(simp;omega)|omega)
        case next=>
          intro v' w3 hown hgrow hnil hat
          rcases own_open hown with ⟨-,h0⟩|⟨g,cap,rfl,-,-,-,-⟩
          · omega
          · have hN := BxL.next HB.out HC5.out HO5.out ((Ext.refl wo).alloc _) hgrow hown; obtain ⟨⟨n1, n2⟩, n3, n4⟩ := hN; have HB3 : Hid (BxL 3 1 (w1.heap.size + 2) (w1.heap.size + 3) (k + 1) ((everyI (k + 1)).map (.int .i64)) (w3.setCell ⟨w1.heap.size + 2, 0, none⟩ (.slice (some ⟨g, 0, none⟩) (k + 1) cap))) := hHd (by rw [everyI_next, List.map_append]; exact n3); have HK3 := hHd (HK.out.trans n4); clear n3 n4 hown hgrow hnil hat c5 c5a f5; (go_wp2_with fail); go_roundw
            case rel=>exact⟨k+1,by omega,by go_num,HB3,HK3⟩
            case measure=>simp [intOf];omega
      · obtain rfl : k = c.clms.length := by omega
        have cp:wo.cell? ⟨w1.heap.size,0,none⟩=some (.pointer (some ⟨p,0,none⟩)):=HK.out.keep (by omega) HCA.out.1
        have HEV:Hid (∀W',KP (fun j=>j=m∨j=w1.heap.size+1) wo W'→W'.cell? ⟨w1.heap.size+2,0,none⟩=some (.slice a5 c.clms.length q5)∧IntsV W' (.slice a5 c.clms.length q5) (everyI c.clms.length)):=hHd (fun W' h=>by
          refine⟨h.keep (by omega) c5,own_intsV (own_keep HO5.out (fun g hg=>h.block g (own_lt HO5.out hg).2 (by have:=(own_lt HO5.out hg).1;omega))) rfl (by rw [everyI_len]) (fun x hx=> ?_) (by rw [everyI_len];omega)⟩
          obtain⟨y,hy,rfl⟩:=List.mem_map.1 hx;have:=List.mem_range.1 hy;unfold i64ok;omega)
        have XO:Ext w1 wo:=HK.out.toExt HXA.out (fun k hk=>by omega);have HWK:=hHd (HW1.out.grow XO);have XWO:Ext w wo:=X1.trans XO;have HP0:=hHd cp;have hb1:wo.cell? ⟨w1.heap.size+1,0,none⟩=some (.slice none 0 0):=HK.out.keep (by omega) HCA.out.2.1;have hb1f:∀o,wo.frozen? ⟨w1.heap.size+1,o,none⟩=false:=fun o=>(HK.out.frozen (by have:=HZ.out;omega) (by omega)).trans (HCA.out.2.2 o)
        have HBX:=hHd (And.intro hb1 hb1f);clear hb1 hb1f;(go_wp2_with fail);(with_reducible refine(truthsF_d _ _ _ _ _).mono ?_);rintro e w' ⟨rfl,rfl⟩;(go_wp2_with fail);have X2:Ext wo ((wo.alloc (.cells #[.pointer (some ⟨p,0,none⟩)] 136)).alloc (.cells #[.slice a5 c.clms.length q5] 22)):=EX;have r1:((wo.alloc (.cells #[.pointer (some ⟨p,0,none⟩)] 136)).alloc (.cells #[.slice a5 c.clms.length q5] 22)).cell? ⟨wo.heap.size,0,none⟩=some (.pointer (some ⟨p,0,none⟩)):=by simp [go_sem]
        have r2:((wo.alloc (.cells #[.pointer (some ⟨p,0,none⟩)] 136)).alloc (.cells #[.slice a5 c.clms.length q5] 22)).cell? ⟨wo.heap.size+1,0,none⟩=some (.slice a5 c.clms.length q5):=by simp [go_sem]
        have hz2:((wo.alloc (.cells #[.pointer (some ⟨p,0,none⟩)] 136)).alloc (.cells #[.slice a5 c.clms.length q5] 22)).heap.size=wo.heap.size+2:=by simp
        generalize ((wo.alloc (.cells #[.pointer (some ⟨p,0,none⟩)] 136)).alloc (.cells #[.slice a5 c.clms.length q5] 22))=W2 at*;have HZ2:=hHd hz2;have hzz:wo.heap.size+2≤W2.heap.size∧W2.heap.size≤wo.heap.size+2:=by omega
        have HX2 := hHd X2; have HR := hHd (And.intro r1 r2); have hmo : m < wo.heap.size := Nat.lt_of_lt_of_le hmX XO.size; have hst2 : Stl m W2 := HWK.out.stl.ext X2; -- what holds of every world on the way
        have HALL:Hid (∀W',KP (fun j=>j=m∨j=w1.heap.size+1) W2 W'→Stl m W'→KT p m wo.heap.size (wo.heap.size+1) ⟨a1,c1,a2,c2,a3,c3,a4,c4⟩ c (.slice a5 c.clms.length q5) (everyI c.clms.length) W'∧W'.cell? ⟨w.heap.size,10,none⟩=some (.slice a4 c.clms.length c4)∧W'.cell? ⟨w1.heap.size,0,none⟩=some (.pointer (some ⟨p,0,none⟩))∧Ext w W'):=hHd (fun W' h hs=>by
          have hk:KP (fun j=>j=m∨j=w1.heap.size+1) wo W':=(Ext.kp HX2.out).trans h;have hxw:Ext w W':=hk.toExt XWO (fun k hk=>by omega);obtain⟨k0,k1,k2,k3,k4,k5,k6,k7,k8,k9,k10,k11⟩:=HWK.out.cells;have q:∀i v,wo.cell? ⟨p,i,none⟩=some v→W'.cell? ⟨p,i,none⟩=some v:=fun i v hc=>hk.keep (by have:=HWK.out.ne;omega) hc
          exact⟨⟨h.keep (by omega) HR.out.1,h.keep (by omega) HR.out.2,(HEV.out W' hk).2,⟨q _ _ k0,q _ _ k1,q _ _ k2,q _ _ k3,q _ _ k4,q _ _ k5,q _ _ k6,q _ _ k7,q _ _ k8,q _ _ k9,q _ _ k10,q _ _ k11⟩,HM.out.ext hxw,hs⟩,hk.keep (by omega) (HC0.out wo (HW1.out.ext.trans XO)),hk.keep (by omega) HP0.out,hxw⟩)
        have HGV:=hHd (truthsD_givesU p m wo.heap.size (wo.heap.size+1) ⟨a1,c1,a2,c2,a3,c3,a4,c4⟩ c (.slice a5 c.clms.length q5) (everyI c.clms.length) hS);have hnm2:¬w1.heap.size+1=m:=by omega
        refine each_wpU (q:=fun k=>k=m) (I:=Stl m) (n:=(truthsD c (everyI c.clms.length)).length) (Arg:=ArgN (truthsD c (everyI c.clms.length))) (K:=KT p m wo.heap.size (wo.heap.size+1) ⟨a1,c1,a2,c2,a3,c3,a4,c4⟩ c (.slice a5 c.clms.length q5) (everyI c.clms.length)) (by rfl) fn_truthsD (fun U i xs W' h=>by obtain⟨v,h2,rfl,-⟩:=h;rfl) (inv_stl m) (fun k hk=>by omega)
          (fun U i W'=>LvJ 177 m (w1.heap.size+1) (knownD c ((truthsD c (everyI c.clms.length)).take i)) W2 U W') (fun U cd W'=>False) HGV.out (fun U i W' h=>(HALL.out W' h.kp h.stl).1)
          (fun U i A' B' hU h hx=>h.belr hx (by omega) (by omega) (by omega))
          (fun U cd A' B' hU h hx=>h.elim)
          (fun U hU=>⟨KP.refl _,hst2,⟨⟨none,0,X2.keep HBX.out.1,World.ownsRow_nil _ _ _ _⟩,fun o=>(X2.frozen (lt_of_cell HBX.out.1)).trans (HBX.out.2 o),by omega⟩⟩) ?hround ?hdone ?hstop
        case hround =>
          intro U i hi W3 xs hU hUW hj harg hrec1 hs
          obtain⟨v,hi',rfl,-⟩:=harg
          have HDK:Hid (DmgOK ((truthsD c (everyI c.clms.length))[i]).2):=hHd (by
            have hml:=List.getElem_mem hi;obtain⟨l,hl,he⟩:=List.mem_filterMap.1 hml;unfold tryD at he;obtain⟨d,hd,he⟩:=Option.bind_eq_some_iff.1 he;split at he
            · have ht:=truD_ok hl;have:=damD_ok hS (by have:=hS.loss;have:=ht.loss;omega) hd;have e:=Option.some.inj he;rw [←e];exact this
            · cases he)
          have HKN:Hid (knownD c ((truthsD c (everyI c.clms.length)).take (i+1))=stepK (knownD c ((truthsD c (everyI c.clms.length)).take i)) (kndD c ((truthsD c (everyI c.clms.length))[i]).2)):=hHd (by
            rw [←knownD_snoc,←List.take_append_getElem hi])
          have HKL:Hid ((knownD c ((truthsD c (everyI c.clms.length)).take i)).length≤2000):=hHd (by
            have h1:=knownD_len c ((truthsD c (everyI c.clms.length)).take i);have h2:=truthsD_len (c:=c) (askD_zero HAE.out).1 (everyI c.clms.length);have h3:=List.length_take_le i (truthsD c (everyI c.clms.length));omega)
          generalize knownD c ((truthsD c (everyI c.clms.length)).take (i+1))=kn2 at*;generalize knownD c ((truthsD c (everyI c.clms.length)).take i)=kn at*;clear HGV;generalize ((truthsD c (everyI c.clms.length))[i]).2=d at*
          have HRT:Hid (∀(k:Nat) (h:k<c.clms.length) (W:World),W.cell? ⟨p,11,none⟩=some (.map (some m))→Stl m W→Calls Tryz.prog 74 #[.pointer (some ⟨p,0,none⟩),(c.clms[k]).c.val,d.v] W fun e w'=>e= .returned (.bool (rightD c.clms[k] d))∧MM m W w'):=hHd (fun k h W h1 h2=>right_d p m c.clms[k] d W h1 h2 HDK.out (by
            have g1:=hS.clm _ (List.getElem_mem h);have g2:=hS.soc;simp only [clmB,socB,Bool.and_eq_true,inR_iff] at g1;omega))
          have HKD:Hid (kndD c d=fun j=>decide (j<c.clms.length)&&rightD (c.clms.getD j default) d):=rfl
          have HPK:Hid (∀k (h:k<c.clms.length),rightD (c.clms.getD k default) d=rightD c.clms[k] d):=hHd (fun k h=>by
            have e2:c.clms.getD k default=c.clms[k]:=by simp [h]
            rw [e2])
          generalize kndD c d=K at*;obtain⟨am,s0,s1,s2⟩:=d;simp only [Dmg.v] at*;simp only [Array.zip_eq_zipWith];(gi_wp2_with fail);refine⟨(Kept.ext EX).toU,fun V hT hrec=> ?_⟩
          have XD:Ext W3 (W3.alloc (.cells #[.int .i64 am,.int .i64 s0,.int .i64 s1,.int .i64 s2] 139)):=EX;have BA:BelR (fun k=>k=m) (Stl m) W2.heap.size U W3 V:=(ext_toR XD (inv_stl m) (fun k hk=>by omega)).trans ⟨hT.os,hT.tape,hT.output,by rw [hT.size];exact Nat.le_refl _,fun k _ hr _=>hT.block k (by omega),fun hs=>hs.of (hT.block m (by omega))⟩;have HJ2:=hHd (hj.belr BA (by omega) (by omega) (by omega));have d0:V.cell? ⟨W3.heap.size,0,none⟩=some (.int .i64 am):=hT.cell (by omega) (by simp [go_sem]);have d1:V.cell? ⟨W3.heap.size,1,none⟩=some (.int .i64 s0):=hT.cell (by omega) (by simp [go_sem]);have d2:V.cell? ⟨W3.heap.size,2,none⟩=some (.int .i64 s1):=hT.cell (by omega) (by simp [go_sem]);have d3:V.cell? ⟨W3.heap.size,3,none⟩=some (.int .i64 s2):=hT.cell (by omega) (by simp [go_sem]);have hV3:W3.heap.size<V.heap.size:=lt_of_cell d0
          have HV:Hid (∀W',MM m V W'→(KT p m wo.heap.size (wo.heap.size+1) ⟨a1,c1,a2,c2,a3,c3,a4,c4⟩ c (.slice a5 c.clms.length q5) (everyI c.clms.length) W'∧W'.cell? ⟨w.heap.size,10,none⟩=some (.slice a4 c.clms.length c4)∧W'.cell? ⟨w1.heap.size,0,none⟩=some (.pointer (some ⟨p,0,none⟩))∧Ext w W')∧(W'.cell? ⟨W3.heap.size,0,none⟩=some (.int .i64 am)∧W'.cell? ⟨W3.heap.size,1,none⟩=some (.int .i64 s0)∧W'.cell? ⟨W3.heap.size,2,none⟩=some (.int .i64 s1)∧W'.cell? ⟨W3.heap.size,3,none⟩=some (.int .i64 s2))∧LvJ 177 m (w1.heap.size+1) kn W2 U W'):=hHd (fun W' h=>by
            have hJ':=HJ2.out.mm h (by omega) (by omega);exact⟨HALL.out W' hJ'.kp hJ'.stl,⟨h.keep' (by omega) d0,h.keep' (by omega) d1,h.keep' (by omega) d2,h.keep' (by omega) d3⟩,hJ'⟩)
          obtain⟨⟨-,q10,-,-⟩,-,-⟩:=HV.out V (MM.refl _);have q10a:=fun o=>((Ext.refl V).alloc o).keep q10
          clear hT BA XD hj d0 d1 d2 d3 cp c5 f5 r1 r2 q10;(gi_wp2_with fail);have XV:Ext V (V.alloc (.cells #[.bool false,.bool false,.bool false,.bool false,.bool false] 177)):=EX
          have HB0:Hid ((∀j,j<5→(V.alloc (.cells #[.bool false,.bool false,.bool false,.bool false,.bool false] 177)).cell? ⟨V.heap.size,j,none⟩=some (.bool (decide (j<0)&&rightD (c.clms.getD j default) ⟨am,s0,s1,s2⟩)))∧∀o,(V.alloc (.cells #[.bool false,.bool false,.bool false,.bool false,.bool false] 177)).frozen? ⟨V.heap.size,o,none⟩=false):=hHd ⟨fun j hj=>by
            rw [show decide (j<0)=false by simp,Bool.false_and];rcases j with _|_|_|_|_|j
            all_goals first|(simp [go_sem];done)|omega,fun o=>by simp [go_sem]⟩
          generalize (V.alloc (.cells #[.bool false,.bool false,.bool false,.bool false,.bool false] 177))=VA at*;have HMV:=hHd (Ext.mm (m:=m) XV);clear q10a XV;gi_loopw [44] (fun s wr=>∃k:Nat,k≤c.clms.length∧s= .int .i64 k∧Hid (MM m V wr)∧Hid ((∀j,j<5→wr.cell? ⟨V.heap.size,j,none⟩=some (.bool (decide (j<k)&&rightD (c.clms.getD j default) ⟨am,s0,s1,s2⟩)))∧∀o,wr.frozen? ⟨V.heap.size,o,none⟩=false)) (fun s _=>c.clms.length - (intOf s).toNat)
          case atStart=>exact⟨0,Nat.zero_le _,rfl,HMV,HB0⟩
          case round =>
            obtain⟨k,hk,rfl,HMM,HB⟩:=hrel;obtain⟨wp,rfl⟩:∃x,x=wr:=⟨_,rfl⟩;obtain⟨⟨KW,q10,qX,-⟩,⟨d0,d1,d2,d3⟩,hJ⟩:=HV.out wp HMM.out;have HJ:=hHd hJ;clear hJ;have hVp:V.heap.size<wp.heap.size:=lt_of_cell (HB.out.1 0 (by omega));by_cases hlt:k<c.clms.length
            · obtain ⟨b', off, e4, hce⟩ := KW.cas.clms k (by simpa using hlt); simp only at e4; subst e4; have e1 : (c.clms.map Clm.c)[k]'(by simpa using hlt) = (c.clms[k]).c := by simp
              rw [e1] at hce;clear e1;have HR8:=hHd (HRT.out k hlt);have HPX:=hHd (HPK.out k hlt);have w11:=KW.box.c11;have hst8:=KW.stl;have HMV8:Hid (Stl m V):=hHd HJ2.out.stl;generalize c.clms[k]=x at*;obtain⟨so,plo,phi⟩:=x;obtain⟨m0,m1,m2⟩:=hce;simp only [Clm.c,V3.val] at m0 m1 m2 HR8;have hk0:(0:Int)≤(k:Int):=by omega
              have hk1:(k:Int)<(c.clms.length:Int):=by omega
              have hk5:(k:Int)<5:=by omega
              have qXa:=fun o=>((Ext.refl wp).alloc o).keep qX
              have d0a:=fun o=>((Ext.refl wp).alloc o).keep d0
              have d1a:=fun o=>((Ext.refl wp).alloc o).keep d1
              have d2a:=fun o=>((Ext.refl wp).alloc o).keep d2
              have d3a:=fun o=>((Ext.refl wp).alloc o).keep d3
              clear KW;(gi_wp2_with fail);have X8:Ext wp (wp.alloc (.cells #[.int .i64 so,.int .i64 plo,.int .i64 phi] 121)):=EX;(with_reducible refine(CallsIn.inRound _ (callsIn_wide.2 (HR8.out _ (X8.keep w11) (hst8.ext X8)))).mono ?_);rintro e w8 ⟨rfl,hm8⟩;generalize hrb:rightD ⟨so,plo,phi⟩ ⟨am,s0,s1,s2⟩=rb at*;have HC8:Hid ((∀j,j<5→w8.cell? ⟨V.heap.size,j,none⟩=some (.bool (decide (j<k)&&rightD (c.clms.getD j default) ⟨am,s0,s1,s2⟩)))∧∀o,w8.frozen? ⟨V.heap.size,o,none⟩=false):=hHd ⟨fun j hj=>hm8.keep' (by omega) (X8.keep (HB.out.1 j hj)),fun o=>(hm8.kp.frozen (by simp;omega) (by omega)).trans ((X8.frozen hVp).trans (HB.out.2 o))⟩;have s8:=HC8.out.1 k (by omega);have f8:=HC8.out.2;have HM8:=hHd ((HMM.out.ext X8).trans hm8);have HB9:Hid ((∀j,j<5→(w8.setCell ⟨V.heap.size,k,none⟩ (.bool rb)).cell? ⟨V.heap.size,j,none⟩=some (.bool (decide (j<k+1)&&rightD (c.clms.getD j default) ⟨am,s0,s1,s2⟩)))∧∀o,(w8.setCell ⟨V.heap.size,k,none⟩ (.bool rb)).frozen? ⟨V.heap.size,o,none⟩=false):=hHd ⟨setK (p:=fun j=>rightD (c.clms.getD j default) ⟨am,s0,s1,s2⟩) HC8.out.1 (by omega) HPX.out,fun o=>by rw [World.frozen?_setCell];exact HC8.out.2 o⟩;have HM9:Hid (MM m V (w8.setCell ⟨V.heap.size,k,none⟩ (.bool rb))):=hHd (HM8.out.setCell (Nat.le_refl _) HMV8.out _);clear hm8 qX qXa d0 d1 d2 d3 d0a d1a d2a d3a m0 m1 m2 w11 hst8 hrb q10;(gi_wp2_with fail);go_roundw
              case rel=>exact⟨k+1,by omega,by go_num,HM9,HB9⟩
              case measure=>simp [intOf];omega
            · obtain rfl : k = c.clms.length := by omega
              have HKC:Hid (∀j,j<5→wp.cell? ⟨V.heap.size,j,none⟩=some (.bool (K j))):=hHd (fun j hj=>by rw [HKD.out];exact HB.out.1 j hj);have c0:=HKC.out 0 (by omega);have c1:=HKC.out 1 (by omega);have c2:=HKC.out 2 (by omega);have c3:=HKC.out 3 (by omega);have c4:=HKC.out 4 (by omega);obtain⟨a6,q6,b6,ho6⟩:=HJ.out.box.row;have HO6:=hHd ho6;have HB6:=hHd b6;have f6:=HJ.out.box.fr;have HKV:Hid (KeptU W2.heap.size U V wp):=hHd (mm_kept HMM.out (by omega)).toU;have hUV:U≤V.heap.size:=by omega
              clear ho6 KW q10 qX d0 d1 d2 d3 HB HRT HPK HKD HALL HEV HEV0 HM HR HX2 HV HJ2 HMV HB0 HBX HP0 HCA HWK HK HO5 HXA;have HBX6:=hHd HJ.out.box;rcases List.eq_nil_or_concat kn with hkn|⟨l,kl,hkn⟩
              · have HNK : Hid (kn2 = [] ++ [K]) := hHd (by rw [HKN.out, hkn]; unfold stepK; rw [if_pos (.inl rfl)]); have HLN : Hid (([] : List Knd).length = 0) := hHd rfl; have HF9 : Hid (∀ w', Ext wp w' → w'.cell? ⟨w1.heap.size + 1, 0, none⟩ = some (.slice a6 0 q6)) := hHd (fun w' h => h.keep (by have := HB6.out; rw [hkn] at this; exact this)); rw [hkn] at HO6 HB6 HBX6 HKL; simp only [List.length_nil] at HO6 HB6 HBX6 HKL; clear hkn b6 c0 c1 c2 c3 c4; (gi_wp2_with fail); refine wpIn_round_quiet (C := Ext wp) (by kernel_rfl) (by kernel_rfl) (by kernel_rfl) (Ext.drew EX) ?_
                rw [tl]
                repeat (first
                  |go_big_quiet_skip
                  | (go_big_quiet_want
                     first
                      |(go_big_quiet_op;go_big_quiet_on)
                      | (apply Exists.intro
                         refine⟨fun w' hxw=> ?_,?_⟩
                         focus (obtain b6:=HF9.out w' hxw;go_simp;first|exact rfl|fail)
                         simp only [Act.put,List.setIfInBounds_toArray,List.set_cons_zero,List.set_cons_succ];go_big_quiet_on)))
                refine wpQuiet_nil ?_
                intro w2 hx2
                have y6:=hx2.keep HB6.out;have HO7:Hid (w2.ownsRow U 177 5 (.slice a6 0 q6) 0 (([]:List Knd).flatMap k5)):=hHd (own_keep HO6.out (fun g hg=>hx2.heap (own_lt HO6.out hg).2));have HBW:Hid (BxL 177 5 (w1.heap.size+1) U 0 (([]:List Knd).flatMap k5) w2):=hHd (HBX6.out.move (fun k hk hl=>hx2.heap hl));have HY6:=hHd y6;have y0:=hx2.keep (HKC.out 0 (by omega));have y1:=hx2.keep (HKC.out 1 (by omega));have y2:=hx2.keep (HKC.out 2 (by omega));have y3:=hx2.keep (HKC.out 3 (by omega));have y4:=hx2.keep (HKC.out 4 (by omega));have y6a:=fun o=>((Ext.refl w2).alloc o).keep y6
                have hUwd:U≤w2.heap.size:=by have:=hx2.size;have:=HMM.out.size;omega
                have HXDR:=hHd hx2;clear hx2;gi_wp2_with (gi_at_builtin;(refine wpListIn_append_own_at _ rfl _ _ 172 rfl U 177 i1 (.agg #[.bool false,.bool false,.bool false,.bool false,.bool false]) 5 5 Tryz.underlying172 hi1 hz10 hz11 hz12 rfl (by decide) (.slice a6 0 q6) 0 (([]:List Knd).flatMap k5) rfl ?own ⟨w2.heap.size,0,none⟩ 1 1 [.bool (K 0),.bool (K 1),.bool (K 2),.bool (K 3),.bool (K 4)] rfl rfl (cells_five (Ext.refl _) (by simp)) ?one ?f1 ?f2 ?f3 ?next))
                case own=>exact own_keep HO7.out (fun g hg=>((Ext.refl w2).alloc _).heap (own_lt HO7.out hg).2)
                case one=>first|rfl|(intro u hu;simp at hu;rcases hu with rfl|rfl|rfl|rfl|rfl<;>rfl)
                case f1=>(have:=HKL.out;simp only [maxLen] at*;omega)
                case f2=>(have:=HKL.out;omega)
                case f3=>(first|(simp;omega)|omega)
                case next=>
                  intro v' w9 hown hgrow hnil hat
                  rcases own_open hown with ⟨-,h0⟩|⟨g,cap,rfl,-,-,-,-⟩
                  · omega
                  · obtain ⟨⟨n1, n2⟩, n3, n4⟩ := BxL.next HBW.out HY6.out HO7.out ((Ext.refl w2).alloc _) hgrow hown
                    have HEND:Hid (KeptU W2.heap.size U V (w9.setCell ⟨w1.heap.size+1,0,none⟩ (.slice (some ⟨g,0,none⟩) (0+1) cap))∧LvJ 177 m (w1.heap.size+1) kn2 W2 U (w9.setCell ⟨w1.heap.size+1,0,none⟩ (.slice (some ⟨g,0,none⟩) (0+1) cap))):=hHd (by
                      have n5:KP (fun j=>j=w1.heap.size+1∨U≤j) wp (w9.setCell ⟨w1.heap.size+1,0,none⟩ (.slice (some ⟨g,0,none⟩) (0+1) cap)):=(Ext.kp HXDR.out).trans n4;refine⟨HKV.out.trans (n5.keptU (fun j hj=>by omega)),?_⟩
                      refine HJ.out.next n5 ?_ (by omega) (by omega) (by omega)
                      rw [HNK.out,stepK_flat];rw [show (([]:List Knd)++ [K]).length=0+1 by simp [HLN.out]];exact n3)
                    clear n3 n4 hown hgrow hnil hat y0 y1 y2 y3 y4 y6 y6a;(gi_wp2_with fail);exact HEND.out
              · rw [List.concat_eq_append] at hkn; rw [hkn] at HO6 HB6 HBX6 HKL; simp only [List.length_append, List.length_cons, List.length_nil, Nat.zero_add] at HO6 HB6 HBX6 HKL; rcases own_open HO6.out with ⟨-, h0⟩ | ⟨g6, cap6, he, -, -, -, hcs⟩
                · omega
                simp only [Value.slice.injEq] at he;obtain⟨rfl,-,rfl⟩:=he
                have HF9:Hid (∀w',Ext wp w'→(w'.cell? ⟨w1.heap.size+1,0,none⟩=some (.slice (some ⟨g6,0,none⟩) (l.length+1) q6)∧w'.cell? ⟨V.heap.size,0,none⟩=some (.bool (K 0))∧w'.cell? ⟨V.heap.size,1,none⟩=some (.bool (K 1))∧w'.cell? ⟨V.heap.size,2,none⟩=some (.bool (K 2))∧w'.cell? ⟨V.heap.size,3,none⟩=some (.bool (K 3))∧w'.cell? ⟨V.heap.size,4,none⟩=some (.bool (K 4)))∧w'.cell? ⟨g6,l.length*5,none⟩=some (.bool (kl 0))∧w'.cell? ⟨g6,l.length*5+1,none⟩=some (.bool (kl 1))∧w'.cell? ⟨g6,l.length*5+2,none⟩=some (.bool (kl 2))∧w'.cell? ⟨g6,l.length*5+3,none⟩=some (.bool (kl 3))∧w'.cell? ⟨g6,l.length*5+4,none⟩=some (.bool (kl 4))):=hHd (fun w' h=>
                  ⟨⟨h.keep HB6.out,h.keep (HKC.out 0 (by omega)),h.keep (HKC.out 1 (by omega)),h.keep (HKC.out 2 (by omega)),h.keep (HKC.out 3 (by omega)),h.keep (HKC.out 4 (by omega))⟩,h.keep (hcs _ _ (last_k5 l kl 0 (by omega))),h.keep (hcs _ _ (last_k5 l kl 1 (by omega))),h.keep (hcs _ _ (last_k5 l kl 2 (by omega))),h.keep (hcs _ _ (last_k5 l kl 3 (by omega))),h.keep (hcs _ _ (last_k5 l kl 4 (by omega)))⟩)
                have hnq:=neq_knd kl K;simp only [kndC,V5.val] at hnq;have HST:Hid (stepK (l++ [kl]) K=if sameK kl K=false then (l++ [kl])++ [K] else l++ [kl]):=hHd (by unfold stepK;simp);obtain⟨b,hb⟩:∃b,b= !sameK kl K:=⟨_,rfl⟩;rw [←hb] at hnq
                have HNKT:Hid (b=true→kn2=(l++ [kl])++ [K]):=hHd (fun h=>by
                  rw [HKN.out,hkn,HST.out,if_pos (by rw [h] at hb;revert hb;generalize sameK kl K=z;cases z<;>decide)])
                have HNKF:Hid (b=false→kn2=l++ [kl]):=hHd (fun h=>by
                  rw [HKN.out,hkn,HST.out,if_neg (by rw [h] at hb;revert hb;generalize sameK kl K=z;cases z<;>decide)])
                rw [hkn] at HJ;generalize hN:l.length=N at*;have HLN:Hid (l.length=N):=hHd hN;clear hkn hcs HST hb hN b6 c0 c1 c2 c3 c4;have e0:((N:Int)+1==0)=false:=by rw [beq_eq_false_iff_ne];omega
                have e0':¬(N:Int)+1=0:=by omega
                have hw1:IntKind.i64.wrap ((N:Int)+1 - 1)=(N:Int):=by rw [Int.add_sub_cancel];exact IntWalk.i64_in _ (by have:=HKL.out;omega)
                have hw2:IntKind.i64.wrap (N:Int)=(N:Int):=IntWalk.i64_in _ (by have:=HKL.out;omega);have g0:(0:Int)≤(N:Int):=by omega
                have g1:(N:Int)<(N:Int)+1:=by omega
                cases b with
                | false =>
                  have HNK:=hHd (HNKF.out rfl);(gi_wp2_with fail);refine wpIn_round_quiet (C:=Ext wp) (by kernel_rfl) (by kernel_rfl) (by kernel_rfl) (Ext.drew EX) ?_
                  rw [tl]
                  repeat (first
                    |go_big_quiet_skip
                    | (go_big_quiet_want
                       first
                        |(go_big_quiet_op;go_big_quiet_on)
                        | (apply Exists.intro
                           refine⟨fun w' hxw=> ?_,?_⟩
                           focus (obtain⟨⟨b6,c0,c1,c2,c3,c4⟩,l0,l1,l2,l3,l4⟩:=HF9.out w' hxw;go_simp;first|exact rfl|fail)
                           simp only [Act.put,List.setIfInBounds_toArray,List.set_cons_zero,List.set_cons_succ];go_big_quiet_on)))
                  refine wpQuiet_nil ?_
                  intro w2 hx2
                  have HEND:Hid (KeptU W2.heap.size U V w2∧LvJ 177 m (w1.heap.size+1) kn2 W2 U w2):=hHd ⟨HKV.out.trans (Kept.ext hx2).toU,by rw [HNK.out];exact HJ.out.mm (Ext.mm hx2) (by omega) (by omega)⟩;(gi_wp2_with fail);exact HEND.out
                | true =>
                  have HNK:=hHd (HNKT.out rfl);(gi_wp2_with fail);refine wpIn_round_quiet (C:=Ext wp) (by kernel_rfl) (by kernel_rfl) (by kernel_rfl) (Ext.drew EX) ?_
                  rw [tl]
                  repeat (first
                    |go_big_quiet_skip
                    | (go_big_quiet_want
                       first
                        |(go_big_quiet_op;go_big_quiet_on)
                        | (apply Exists.intro
                           refine⟨fun w' hxw=> ?_,?_⟩
                           focus (obtain⟨⟨b6,c0,c1,c2,c3,c4⟩,l0,l1,l2,l3,l4⟩:=HF9.out w' hxw;go_simp;first|exact rfl|fail)
                           simp only [Act.put,List.setIfInBounds_toArray,List.set_cons_zero,List.set_cons_succ];go_big_quiet_on)))
                  refine wpQuiet_nil ?_
                  intro w2 hx2
                  have y6:=hx2.keep HB6.out;have HO7:Hid (w2.ownsRow U 177 5 (.slice (some ⟨g6,0,none⟩) (N+1) q6) (N+1) ((l++ [kl]).flatMap k5)):=hHd (own_keep HO6.out (fun g hg=>hx2.heap (own_lt HO6.out hg).2));have HBW:Hid (BxL 177 5 (w1.heap.size+1) U (N+1) ((l++ [kl]).flatMap k5) w2):=hHd (HBX6.out.move (fun k hk hl=>hx2.heap hl));have HY6:=hHd y6;have y0:=hx2.keep (HKC.out 0 (by omega));have y1:=hx2.keep (HKC.out 1 (by omega));have y2:=hx2.keep (HKC.out 2 (by omega));have y3:=hx2.keep (HKC.out 3 (by omega));have y4:=hx2.keep (HKC.out 4 (by omega));have y6a:=fun o=>((Ext.refl w2).alloc o).keep y6
                  have hUwd:U≤w2.heap.size:=by have:=hx2.size;have:=HMM.out.size;omega
                  have HXDR:=hHd hx2;clear hx2;gi_wp2_with (gi_at_builtin;(refine wpListIn_append_own_at _ rfl _ _ 172 rfl U 177 i1 (.agg #[.bool false,.bool false,.bool false,.bool false,.bool false]) 5 5 Tryz.underlying172 hi1 hz10 hz11 hz12 rfl (by decide) (.slice (some ⟨g6,0,none⟩) (N+1) q6) (N+1) ((l++ [kl]).flatMap k5) rfl ?own ⟨w2.heap.size,0,none⟩ 1 1 [.bool (K 0),.bool (K 1),.bool (K 2),.bool (K 3),.bool (K 4)] rfl rfl (cells_five (Ext.refl _) (by simp)) ?one ?f1 ?f2 ?f3 ?next))
                  case own=>exact own_keep HO7.out (fun g hg=>((Ext.refl w2).alloc _).heap (own_lt HO7.out hg).2)
                  case one=>first|rfl|(intro u hu;simp at hu;rcases hu with rfl|rfl|rfl|rfl|rfl<;>rfl)
                  case f1=>(have:=HKL.out;simp only [maxLen] at*;omega)
                  case f2=>(have:=HKL.out;omega)
                  case f3=>(first|(simp;omega)|omega)
                  case next=>
                    intro v' w9 hown hgrow hnil hat
                    rcases own_open hown with ⟨-,h0⟩|⟨g,cap,rfl,-,-,-,-⟩
                    · omega
                    · obtain ⟨⟨n1, n2⟩, n3, n4⟩ := BxL.next HBW.out HY6.out HO7.out ((Ext.refl w2).alloc _) hgrow hown
                      have HEND:Hid (KeptU W2.heap.size U V (w9.setCell ⟨w1.heap.size+1,0,none⟩ (.slice (some ⟨g,0,none⟩) (N+1+1) cap))∧LvJ 177 m (w1.heap.size+1) kn2 W2 U (w9.setCell ⟨w1.heap.size+1,0,none⟩ (.slice (some ⟨g,0,none⟩) (N+1+1) cap))):=hHd (by
                        have n5:KP (fun j=>j=w1.heap.size+1∨U≤j) wp (w9.setCell ⟨w1.heap.size+1,0,none⟩ (.slice (some ⟨g,0,none⟩) (N+1+1) cap)):=(Ext.kp HXDR.out).trans n4;refine⟨HKV.out.trans (n5.keptU (fun j hj=>by omega)),?_⟩
                        refine HJ.out.next n5 ?_ (by omega) (by omega) (by omega)
                        rw [HNK.out,stepK_flat];rw [show ((l++ [kl])++ [K]).length=N+1+1 by simp [HLN.out]];simpa [k5] using n3)
                      clear n3 n4 hown hgrow hnil hat y0 y1 y2 y3 y4 y6 y6a;(gi_wp2_with fail);exact HEND.out
        case hdone=>
          intro U W3 hU hj hd
          rw [List.take_length] at hj;clear hz2;obtain⟨KW,q10,-,XW3⟩:=HALL.out W3 hj.kp hj.stl;have hev:=HEV.out W3 ((Ext.kp X2).trans hj.kp);obtain⟨a6,q6,b6,ho6⟩:=hj.box.row
          have hSB:StB W3 (w1.heap.size+1) (w1.heap.size+2) w.heap.size c.clms.length (knownD c (truthsD c (everyI c.clms.length))) a6 q6 (.slice a5 c.clms.length q5) a4 c4:=
            ⟨b6,cells_own ho6,by
              have h1:=knownD_len c (truthsD c (everyI c.clms.length));have h2:=truthsD_len (c:=c) (askD_zero HAE.out).1 (everyI c.clms.length);omega,hev.1,hev.2,q10,hn5⟩
          have HSA:=hHd (strike_all W3 W3.heap.size (w1.heap.size+1) (w1.heap.size+2) w.heap.size c.clms.length (knownD c (truthsD c (everyI c.clms.length))) a6 q6 (.slice a5 c.clms.length q5) a4 c4 hSB)
          have HCS:Hid (∀(k:Nat) (mI:Int) (W:World),mI=k→k≤c.clms.length→StSt 101 W3 W3.heap.size (w1.heap.size+1) (w1.heap.size+2) w.heap.size W→
              Calls Tryz.prog 101 #[.slice none 0 0,.int .i64 0,.int .i64 mI,.pointer (some ⟨W3.heap.size,0,none⟩),.pointer (some ⟨w1.heap.size+1,0,none⟩),.pointer (some ⟨w1.heap.size+2,0,none⟩),.pointer (some ⟨w.heap.size,0,none⟩),.pointer (some ⟨W3.heap.size+1,0,none⟩)] W
                (StQ 101 W3 W3.heap.size (w1.heap.size+1) (w1.heap.size+2) w.heap.size (strikeS c.clms.length (okD c) k [] 0) W)):=hHd (fun k mI W h hk hs=>HSA.out k 0 mI 0 [] (.slice none 0 0) W rfl h hs (nil_ints W) (fun b hb=>by cases hb) (fun x hx=>by cases hx) (by simp;omega) (by omega))
          have HFULL:Hid (strikeS c.clms.length (okD c) c.clms.length [] 0=some (List.range c.clms.length)):=hHd (strike_full (okD_full (askD_zero HAE.out).2.2) c.clms.length 0 (by omega));have HLS:Hid (∀m x,m≤c.clms.length→(∀j,j<m→strikeS c.clms.length (okD c) j [] 0=none)→strikeS c.clms.length (okD c) m [] 0=some x→leaveR c=x):=hHd (fun m x h1 h2 h3=>by rw [HLV.out];exact leave_some h1 h2 h3);have hwW2:w.heap.size≤W2.heap.size:=by have:=XWO.size;omega
          have HXW3:=hHd XW3;have HQ10:=hHd q10;have q10a:=fun o1 o2=>(((Ext.refl W3).alloc o1).alloc o2).keep q10
          have hwn:w.heap.size≠W3.heap.size+1:=by have:=XW3.size;omega
          have q10b:=fun o1 o2 x=>cell_ne (W:=(W3.alloc o1).alloc o2) (v:=x) (b':=W3.heap.size+1) (i':=0) (.inl hwn) (q10a o1 o2)
          clear HGV HALL HEV HEV0 HM HR HX2 hSB HSA KW hev ho6 b6 hj XW3 HBX HP0 HCA HWK HK HO5 HXA cp c5 f5 r1 r2 HB HW1 HC0;generalize okD c=ok at*;(go_wp2_with fail);go_step3
          (go_wp2_with fail);have XF:Ext W3 ((W3.alloc (.cells #[.slice none 0 0] 22)).alloc (.cells #[.func (.func 101) #[] #[.pointer (some ⟨W3.heap.size,0,none⟩),.pointer (some ⟨w1.heap.size+1,0,none⟩),.pointer (some ⟨w1.heap.size+2,0,none⟩),.pointer (some ⟨w.heap.size,0,none⟩),.pointer (some ⟨W3.heap.size+1,0,none⟩)]] 178)):=EX;have HS4:Hid (StSt 101 W3 W3.heap.size (w1.heap.size+1) (w1.heap.size+2) w.heap.size ((W3.alloc (.cells #[.slice none 0 0] 22)).alloc (.cells #[.func (.func 101) #[] #[.pointer (some ⟨W3.heap.size,0,none⟩),.pointer (some ⟨w1.heap.size+1,0,none⟩),.pointer (some ⟨w1.heap.size+2,0,none⟩),.pointer (some ⟨w.heap.size,0,none⟩),.pointer (some ⟨W3.heap.size+1,0,none⟩)]] 178))):=hHd ⟨XF,⟨.slice none 0 0,by simp [go_sem]⟩,by simp [go_sem],by simp [go_sem],Nat.le_refl _⟩;generalize ((W3.alloc (.cells #[.slice none 0 0] 22)).alloc (.cells #[.func (.func 101) #[] #[.pointer (some ⟨W3.heap.size,0,none⟩),.pointer (some ⟨w1.heap.size+1,0,none⟩),.pointer (some ⟨w1.heap.size+2,0,none⟩),.pointer (some ⟨w.heap.size,0,none⟩),.pointer (some ⟨W3.heap.size+1,0,none⟩)]] 178))=W4 at*;clear XF q10 q10a q10b;go_loopw [78] (fun s wr=>∃k:Nat,k≤c.clms.length∧s= .int .i64 k∧Hid (StSt 101 W3 W3.heap.size (w1.heap.size+1) (w1.heap.size+2) w.heap.size wr)∧Hid (∀j,j<k→strikeS c.clms.length ok j [] 0=none)) (fun s _=>c.clms.length+1 - (intOf s).toNat)
          case atStart=>exact⟨0,Nat.zero_le _,rfl,HS4,hHd (fun j hj=>absurd hj (Nat.not_lt_zero _))⟩
          case round=>
            obtain⟨k,hk,rfl,HS,HJ⟩:=hrel;obtain⟨wp,rfl⟩:∃x,x=wr:=⟨_,rfl⟩;have tc:=HS.out.tc;have hd1:decide ((k:Int)<(c.clms.length:Int)+1)=true:=decide_eq_true (by omega);have HCL:=hHd (HCS.out k (k:Int) wp rfl hk HS.out);(go_wp2_with fail);(with_reducible refine HCL.out.mono ?_);rintro e w9 ⟨b,rfl,hp⟩;cases b with
            | true =>
              obtain⟨x,vx,hx1,hx2,hx3⟩:=hp.yes rfl;have HLX:=hHd (HLS.out k x hk HJ.out hx1);obtain⟨av,cv,hvx,-⟩:=id hx3;have HD9:Hid (w9.heap[W2.heap.size]?=some (.deferred (some []))):=hHd ((hp.st.ext.heap (Array.getElem?_eq_some_iff.1 hd).1).trans hd);have HX9:Hid (Ext w w9):=hHd (HXW3.out.trans hp.st.ext);have HI9:=hHd hx3;subst hvx;clear hx1 hx3 hp;(go_wp2_with fail);rw [Exit.noGoto_ret];refine⟨by simp,.inl ⟨_,_,rfl,run_takeDeferred HD9.out,?_⟩⟩
              refine⟨.tuple #[.slice av (intsN x).length cv,.int .i64 0],by simp [results,Tryz.results40,go_sem],_,rfl,?_,?_⟩
              · rw [HLX.out];exact ints_def HI9.out HD9.out _
              · exact ext_put HX9.out hwW2 _
            | false =>
              have HN:=hHd (hp.no rfl);have HS9:=hHd hp.st
              have hkn:k<c.clms.length:=by
                rcases Nat.lt_or_ge k c.clms.length with h|h
                · exact h
                · obtain rfl : k = c.clms.length := by omega
                  have:=HFULL.out;rw [HN.out] at this;cases this
              have HJ9:Hid (∀j,j<k+1→strikeS c.clms.length ok j [] 0=none):=hHd (fun j hj=>by
                by_cases e:j=k
                · subst e;exact HN.out
                · exact HJ.out j (by omega))
              clear hp;(go_wp2_with fail);go_roundw
              case rel=>exact⟨k+1,by omega,by go_num,HS9,HJ9⟩
              case measure=>simp [intOf];omega
        case hstop=>intro U cd W3 hU h;exact h.elim
  · have HN := hHd hE; have hb : (askD c true != 0) = true := by rw [bne_iff_ne]; exact hE
    have HNO2:=hHd (HNO.out hE);have HR:=hHd (HL0.out _ rfl hE);clear HNO HYE HL0 hE hm;unfold LvQ;rw [HR.out];generalize askD c true=r at*;obtain⟨a1,c1,a2,c2,a3,c3,a4,c4⟩:=A;unfold CaseA.v caseV at*;simp only at*;refine(callsIn_wide (n:=0)).1 (callsIn_of_wp_marks Tryz.func40 rfl trivial (wpIn_wide.2 ?_) rfl)
    simp only [Tryz.ntmps40,List.size_toArray,List.length_cons,List.length_nil,Nat.reduceAdd,Nat.reduceSub,Array.replicate_succ,Array.replicate_zero,List.push_toArray,List.append_toArray,List.nil_append,List.cons_append];(go_wp2_with fail);go_step3
    (go_wp2_with fail);(with_reducible refine(HNO2.out _ EX).mono ?_);rintro e w1 ⟨rfl,hx1⟩;have X1:Ext w w1:=EX;clear hx1;(go_wp2_with fail);(try rw [Exit.noGoto_ret])
    exact⟨.tuple #[.slice none 0 0,.int .i64 r],by simp [results,Tryz.results40,go_sem],_,rfl,nil_ints _,X1.alloc _⟩
end Go.Proofs.YtegkdnfeceomdaaGreat
namespace Go.Hs
open Go.RowKit Go.Proofs.YtegkdnfeceomdaaGreat
theorem sold_settle:settleE 50 [33,33,34]=0∧settleL 50 [33,33,34]= [16,17,17]:=⟨by kernel_rfl,by kernel_rfl⟩
theorem sold_play:playDE (soldC []) laterT=0:=by kernel_rfl
theorem sold_dmg:damD (soldC []) laterT=some ⟨50,60,90,0⟩:=by kernel_rfl
theorem sold_pays:payL ⟨50,60,90,0⟩ 2= [20,30]:=by kernel_rfl
theorem sold_bnds:bndE (soldC [])=0:=by kernel_rfl
theorem sold_list:bndsD (soldC []) 2= [((0,50),(0,30)),((0,50),(0,20))]:=by kernel_rfl
theorem sold_tot:totR (soldC [])=(40,50):=by kernel_rfl
theorem sold_first:fstE (soldC twoL)=0∧fstN (soldC twoL)=1:=⟨by kernel_rfl,by kernel_rfl⟩
theorem sold_leave:askD (soldC twoL) true=0∧leaveR (soldC twoL)= [1]:=⟨by kernel_rfl,by kernel_rfl⟩
end Go.Hs
