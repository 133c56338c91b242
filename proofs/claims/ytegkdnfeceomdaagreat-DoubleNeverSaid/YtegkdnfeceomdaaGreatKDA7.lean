/- Contracts of layer 1: what a Split does. Printed by gen_jl.py. -/
import Derived.Test.YtegkdnfeceomdaaGreatKDA6
set_option maxRecDepth 100000
set_option maxHeartbeats 16000000
set_option linter.unusedSimpArgs false
set_option linter.unusedVariables false
namespace Go.Hs
open Go.RowKit
theorem fd_store {P:Nat} {c0 c1 c2 c3:Value} {f:Fds} {w:World} (h:WkAt P c0 c1 c2 c3 f w) {i:Nat} (hi:i<10) (x:Fd):WkAt P c0 c1 c2 c3 (upd f i x) (((((w.setCell ⟨P,4+i*5,none⟩ (.bool x.there)).setCell ⟨P,4+i*5+1,none⟩ (.bool x.gone)).setCell ⟨P,4+i*5+2,none⟩ (.int .i64 x.owner)).setCell ⟨P,4+i*5+3,none⟩ (.int .i64 x.value)).setCell ⟨P,4+i*5+4,none⟩ (.int .i64 x.sown)):=by
 obtain⟨h0,h1,h2,h3,h4⟩:=h.fd i hi;refine h.put ⟨?_,?_,?_,?_,?_⟩ (fun o v ho e=> ?_) (fun o=> ?_)
 ·exact cell_ne (.inr (by omega)) (cell_ne (.inr (by omega)) (cell_ne (.inr (by omega)) (cell_ne (.inr (by omega)) (World.cell?_setCell_same _ _ _ h0))))
 ·exact cell_ne (.inr (by omega)) (cell_ne (.inr (by omega)) (cell_ne (.inr (by omega)) (World.cell?_setCell_same _ _ _ (cell_ne (.inr (by omega)) h1))))
 ·exact cell_ne (.inr (by omega)) (cell_ne (.inr (by omega)) (World.cell?_setCell_same _ _ _ (cell_ne (.inr (by omega)) (cell_ne (.inr (by omega)) h2))))
 ·exact cell_ne (.inr (by omega)) (World.cell?_setCell_same _ _ _ (cell_ne (.inr (by omega)) (cell_ne (.inr (by omega)) (cell_ne (.inr (by omega)) h3))))
 ·exact World.cell?_setCell_same _ _ _ (cell_ne (.inr (by omega)) (cell_ne (.inr (by omega)) (cell_ne (.inr (by omega)) (cell_ne (.inr (by omega)) h4))))
 ·exact cell_ne (.inr (by omega)) (cell_ne (.inr (by omega)) (cell_ne (.inr (by omega)) (cell_ne (.inr (by omega)) (cell_ne (.inr (by omega)) e))))
 ·rw [World.frozen?_setCell,World.frozen?_setCell,World.frozen?_setCell,World.frozen?_setCell,World.frozen?_setCell]
end Go.Hs
namespace Go.Proofs.YtegkdnfeceomdaaGreat
open Go.RowKit Go.Hs
attribute [local irreducible] World.setCell World.alloc
theorem split_p (b : Bk) (P : Nat) (c0 c1 c2 : Value) (a2 : Option Addr) (n2 q2 : Nat) (f : Fds) (i p : Nat) (en : Ent) (day : Int) (w : World) (h : WkAt P c0 c1 c2 (.slice a2 n2 q2) f w) (hi : i < n2)
    (hc:∃B off,a2=some ⟨B,off,none⟩∧Cell8 w B (off+i*8) en.c) (hp:p<10) (hpe:en.parcel=(p:Int))
    (hb:∀W,KP (fun j=>j=P) w W→BkV W (.agg #[c0,c1,c2,.slice a2 n2 q2]) b) (hn:i≤b.ents.length) (hm:numsTo b i<10) (hv:0≤(f p).value∧(f p).value≤1000) (ht:0≤en.part∧en.part≤1000):
    Calls Tryz.prog 185 #[.pointer (some ⟨P,0,none⟩),.int .i64 i,.int .i64 day] w fun e w'=>e= .returned (.bool ((f p).up&&decide (en.part<(f p).value)))∧WkAt P c0 c1 c2 (.slice a2 n2 q2) (upd (upd f p { f p with value:=(f p).value - en.part }) (numsTo b i) ⟨true,false,(f p).owner,en.part,(f p).sown⟩) w'∧KP (fun j=>j=P) w w':=by
  have HUP:Hid (∀W,Ext w W→Calls Tryz.prog 188 #[.pointer (some ⟨P,0,none⟩),.int .i64 p] W fun e w'=>e= .returned (.bool (f p).up)∧Ext W w'):=hHd (fun W hx=>up_p P p c0 c1 c2 _ f W (h.ext hx) hp);have HMD:Hid (∀W,KP (fun j=>j=P) w W→Calls Tryz.prog 189 #[.agg #[c0,c1,c2,.slice a2 n2 q2],.int .i64 i] W fun e w'=>e= .returned (.int .i64 (numsTo b i))∧Ext W w'):=hHd (fun W hk=>made_p b _ i W (hb W hk) hn);have HWK:Hid (∀W,Ext w W→WkAt P c0 c1 c2 (.slice a2 n2 q2) f W):=hHd (fun W hx=>h.ext hx);have q3:=h.c3;have hPl:=h.lt;have hfr:=h.fr;obtain⟨x0,x1,x2,x3,x4⟩:=h.fd p hp;obtain⟨B,off,rfl,m0,m1,m2,m3,m4,m5,m6,m7⟩:=hc;obtain⟨kd,pa,ot,fr,tt,pt,dl,dh⟩:=en;simp only [Ent.c] at*;subst hpe;have h0:(0:Int)≤(p:Int):=by omega
  have h1:(p:Int)<10:=by omega
  have h2:(0:Int)≤(i:Int):=by omega
  have h3:(i:Int)<(n2:Int):=by omega
  obtain⟨ub,hub⟩:∃ub,ub=(f p).up:=⟨_,rfl⟩;rw [←hub] at HUP⊢;obtain⟨mk,hmk⟩:∃mk,mk=numsTo b i:=⟨_,rfl⟩;rw [←hmk] at HMD hm⊢;obtain⟨va,hva⟩:∃va,va=(f p).value:=⟨_,rfl⟩;have HVA:=hHd hva;rw [←hva] at x3 hv⊢;obtain⟨ow,how⟩:∃ow,ow=(f p).owner:=⟨_,rfl⟩;have HOW:=hHd how;rw [←how] at x2⊢;obtain⟨so,hso⟩:∃so,so=(f p).sown:=⟨_,rfl⟩;have HSO:=hHd hso;rw [←hso] at x4⊢;have hw:IntKind.i64.wrap (va - pt)=va - pt:=IntWalk.i64_in _ (by omega);have h4:(0:Int)≤(mk:Int):=by omega
  have h5:(mk:Int)<10:=by omega
  clear h hub hmk hva how hso hb;go_enter Tryz.func185,Tryz.ntmps185
  (go_wp2_with fail);go_region;have Y:Ext w ((w.alloc (.cells #[.int .i64 kd,.int .i64 p,.int .i64 ot,.int .i64 fr,.int .i64 tt,.int .i64 pt,.int .i64 dl,.int .i64 dh] 125)).drew):=EX;have r0:((w.alloc (.cells #[.int .i64 kd,.int .i64 p,.int .i64 ot,.int .i64 fr,.int .i64 tt,.int .i64 pt,.int .i64 dl,.int .i64 dh] 125)).drew).cell? ⟨w.heap.size,0,none⟩=some (.int .i64 kd):=by simp [go_sem]
  have r1:((w.alloc (.cells #[.int .i64 kd,.int .i64 p,.int .i64 ot,.int .i64 fr,.int .i64 tt,.int .i64 pt,.int .i64 dl,.int .i64 dh] 125)).drew).cell? ⟨w.heap.size,1,none⟩=some (.int .i64 p):=by simp [go_sem]
  have r2:((w.alloc (.cells #[.int .i64 kd,.int .i64 p,.int .i64 ot,.int .i64 fr,.int .i64 tt,.int .i64 pt,.int .i64 dl,.int .i64 dh] 125)).drew).cell? ⟨w.heap.size,2,none⟩=some (.int .i64 ot):=by simp [go_sem]
  have r3:((w.alloc (.cells #[.int .i64 kd,.int .i64 p,.int .i64 ot,.int .i64 fr,.int .i64 tt,.int .i64 pt,.int .i64 dl,.int .i64 dh] 125)).drew).cell? ⟨w.heap.size,3,none⟩=some (.int .i64 fr):=by simp [go_sem]
  have r4:((w.alloc (.cells #[.int .i64 kd,.int .i64 p,.int .i64 ot,.int .i64 fr,.int .i64 tt,.int .i64 pt,.int .i64 dl,.int .i64 dh] 125)).drew).cell? ⟨w.heap.size,4,none⟩=some (.int .i64 tt):=by simp [go_sem]
  have r5:((w.alloc (.cells #[.int .i64 kd,.int .i64 p,.int .i64 ot,.int .i64 fr,.int .i64 tt,.int .i64 pt,.int .i64 dl,.int .i64 dh] 125)).drew).cell? ⟨w.heap.size,5,none⟩=some (.int .i64 pt):=by simp [go_sem]
  have r6:((w.alloc (.cells #[.int .i64 kd,.int .i64 p,.int .i64 ot,.int .i64 fr,.int .i64 tt,.int .i64 pt,.int .i64 dl,.int .i64 dh] 125)).drew).cell? ⟨w.heap.size,6,none⟩=some (.int .i64 dl):=by simp [go_sem]
  have r7:((w.alloc (.cells #[.int .i64 kd,.int .i64 p,.int .i64 ot,.int .i64 fr,.int .i64 tt,.int .i64 pt,.int .i64 dl,.int .i64 dh] 125)).drew).cell? ⟨w.heap.size,7,none⟩=some (.int .i64 dh):=by simp [go_sem]
  have z0:=Y.keep x0;have z1:=Y.keep x1;have z2:=Y.keep x2;have z3:=Y.keep x3;have z4:=Y.keep x4;clear x0 x1 x2 x3 x4 m0 m1 m2 m3 m4 m5 m6 m7 q3;generalize ((w.alloc (.cells #[.int .i64 kd,.int .i64 p,.int .i64 ot,.int .i64 fr,.int .i64 tt,.int .i64 pt,.int .i64 dl,.int .i64 dh] 125)).drew)=w1 at*;cases ub with
  | false =>
    (go_wp2_with fail);refine wp_region_quiet (C:=Ext w1) (by kernel_rfl) (by kernel_rfl) (Ext.drew EX) ?_
    rw [tl]
    repeat (first
      |go_big_quiet_skip
      | (go_big_quiet_want
         first
          |(go_big_quiet_op;go_big_quiet_on)
          | (apply Exists.intro
             refine⟨fun w' hxw=> ?_,?_⟩
             focus (have z0:=hxw.keep z0;have z1:=hxw.keep z1;have z2:=hxw.keep z2;have z3:=hxw.keep z3;have z4:=hxw.keep z4;have r0:=hxw.keep r0;have r1:=hxw.keep r1;have r2:=hxw.keep r2;have r3:=hxw.keep r3;have r4:=hxw.keep r4;have r5:=hxw.keep r5;have r6:=hxw.keep r6;have r7:=hxw.keep r7;go_simp;first|exact rfl|(with_reducible refine(HUP.out w' (Ext.trans Y hxw)).mono ?_;exact fun e w'' h=>⟨h.1,hxw.trans h.2⟩))
             simp only [Act.put,List.setIfInBounds_toArray,List.set_cons_zero,List.set_cons_succ];go_big_quiet_on)))
    refine wpQuiet_nil ?_
    intro w2 hx2
    have Y2:Ext w w2:=Y.trans hx2;have hw2:w.heap.size<w2.heap.size:=Nat.lt_of_lt_of_le (lt_of_cell r0) hx2.size;replace z0:=hx2.keep z0;replace z1:=hx2.keep z1;replace z2:=hx2.keep z2;replace z3:=hx2.keep z3;replace z4:=hx2.keep z4;replace r0:=hx2.keep r0;replace r1:=hx2.keep r1;replace r2:=hx2.keep r2;replace r3:=hx2.keep r3;replace r4:=hx2.keep r4;replace r5:=hx2.keep r5;replace r6:=hx2.keep r6;replace r7:=hx2.keep r7;have zf:∀o,w2.frozen? ⟨P,o,none⟩=false:=fun o=>(Y2.frozen hPl).trans (hfr o)
    clear hx2 Y;(go_wp2_with fail);go_region;have HK3:KP (fun j=>j=P) w2 (w2.setCell ⟨P,4+p*5+3,none⟩ (.int .i64 (va - pt))).drew:=(KP.setCell (p:=fun j=>j=P) (KP.refl _) rfl _).drew;have HW3:Hid (WkAt P c0 c1 c2 (.slice (some ⟨B,off,none⟩) n2 q2) (upd f p { f p with value:=va - pt }) (w2.setCell ⟨P,4+p*5+3,none⟩ (.int .i64 (va - pt))).drew):=hHd (((HWK.out _ Y2).value hp _).ext (Ext.refl _).drew);have r5':=HK3.keep (by intro e;have e':w.heap.size=P:=e;omega) r5;have hK:=Y2.kp.trans HK3;have HKW:=hHd hK;clear z0 z1 z2 z3 z4 r0 r1 r2 r3 r4 r5 r6 r7 zf HK3 hK;generalize (w2.setCell ⟨P,4+p*5+3,none⟩ (.int .i64 (va - pt))).drew=w3 at*;have HF3:Hid (((upd f p { f p with value:=va - pt }) p).owner=ow∧((upd f p { f p with value:=va - pt }) p).sown=so):=hHd (by unfold upd;rw [if_pos rfl];exact⟨HOW.out.symm,HSO.out.symm⟩);have HS5:Hid (∀w',KP (fun j=>j=P) w3 w'→w'.cell? ⟨w.heap.size,5,none⟩=some (.int .i64 pt)∧KP (fun j=>j=P) w3 w'):=hHd (fun w' hk=>⟨hk.keep (by intro e;have e':w.heap.size=P:=e;omega) r5',hk⟩);generalize hf3:(upd f p { f p with value:=va - pt })=f3 at*;have HF3E:=hHd hf3.symm;clear hf3;(go_wp2_with fail);refine wp_region_held_drew (S:=fun w'=>w'.cell? ⟨w.heap.size,5,none⟩=some (.int .i64 pt)∧KP (fun j=>j=P) w3 w') (by kernel_rfl) ?_ (fun hHeld=> ?_)
    focus ((try dsimp only);exact HS5.out _ (KP.refl _).drew)
    iterate 15 ((first|refine tk 0 (v:= ?_) (hi:=rfl) (hy:=Or.inl ⟨by rfl,?_⟩) (h:= ?_)|refine tk 1 (v:= ?_) (hi:=rfl) (hy:=Or.inl ⟨by rfl,?_⟩) (h:= ?_)|refine tk 2 (v:= ?_) (hi:=rfl) (hy:=Or.inl ⟨by rfl,?_⟩) (h:= ?_)|refine tk 3 (v:= ?_) (hi:=rfl) (hy:=Or.inl ⟨by rfl,?_⟩) (h:= ?_)|refine tk 5 (v:= ?_) (hi:=rfl) (hy:=Or.inl ⟨by rfl,?_⟩) (h:= ?_)|refine tk 7 (v:= ?_) (hi:=rfl) (hy:=Or.inl ⟨by rfl,?_⟩) (h:= ?_)|refine tk 8 (v:= ?_) (hi:=rfl) (hy:=Or.inl ⟨by rfl,?_⟩) (h:= ?_)|refine tk 9 (v:= ?_) (hi:=rfl) (hy:=Or.inl ⟨by rfl,?_⟩) (h:= ?_)|refine tk 11 (v:= ?_) (hi:=rfl) (hy:=Or.inl ⟨by rfl,?_⟩) (h:= ?_)|refine tk 12 (v:= ?_) (hi:=rfl) (hy:=Or.inl ⟨by rfl,?_⟩) (h:= ?_)|refine tk 13 (v:= ?_) (hi:=rfl) (hy:=Or.inl ⟨by rfl,?_⟩) (h:= ?_)|refine tk 14 (v:= ?_) (hi:=rfl) (hy:=Or.inl ⟨by rfl,?_⟩) (h:= ?_)|refine tk 15 (v:= ?_) (hi:=rfl) (hy:=Or.inl ⟨by rfl,?_⟩) (h:= ?_)|refine tk 18 (v:= ?_) (hi:=rfl) (hy:=Or.inl ⟨by rfl,?_⟩) (h:= ?_)|refine tk 19 (v:= ?_) (hi:=rfl) (hy:=Or.inl ⟨by rfl,?_⟩) (h:= ?_));rotate_left;(focus (intro w hSw;(try dsimp only at hSw);go_simp;try (first|(with_reducible rfl)|(with_reducible exact rfl))));(try simp only [Act.put,List.getElem_toArray,List.getElem_cons_succ,List.getElem_cons_zero,List.setIfInBounds_toArray,List.set_cons_zero,List.set_cons_succ]))
    refine wpAnyH_invP [50,52,56,62,63,66] [undef,undef,undef,undef,undef,undef] [true,true,true,true,false,true,false,true,true,true,false,true,true,true,true,true,false,false,true,true,false,false] [4,6,10,16,17,20,21] (fun l vs w'=>∃(bL bC bO bS bB bI bT:Bool),l= [true,true,true,true,bL,true,bC,true,true,true,bO,true,true,true,true,true,bS,bB,true,true,bI,bT]∧vs= [(bif bL then .agg #[c0,c1,c2,.slice (some ⟨B,off,none⟩) n2 q2] else undef),(bif bC then .int .i64 mk else undef),(bif bO then .int .i64 ow else undef),(bif bS then .int .i64 so else undef),(bif bB then .agg #[.bool true,.bool false,.int .i64 ow,.int .i64 pt,.int .i64 so] else undef),(bif bI then .pointer (some ⟨P,4+mk*5,none⟩) else undef)]∧(bC=true→bL=true)∧(bB=true→bO=true∧bS=true)∧(bI=true→bC=true)∧(bT=true→bB=true∧bI=true)∧WkAt P c0 c1 c2 (.slice (some ⟨B,off,none⟩) n2 q2) (bif bT then upd f3 mk (⟨true,false,ow,pt,so⟩:Hs.Fd) else f3) w'∧KP (fun j=>j=P) w3 w') (by kernel_rfl) (by rfl) (by decide) ?_ ?_ ?_ ?_
    focus exact⟨false,false,false,false,false,false,false,rfl,rfl,nofun,nofun,nofun,nofun,HW3.out.ext EX,(KP.refl _).drew⟩
    focus
      rintro l vs w' ⟨bL,bC,bO,bS,bB,bI,bT,rfl,rfl,-⟩ i hi;(rcases i with _|_|_|_|_|_|_|_|_|_|_|_|_|_|_|_|_|_|_|_|_|_|i)<;>first|(simp;done)|(exfalso;simp at hi;done)
    focus
      intro i hi
      simp only [List.mem_cons,List.not_mem_nil,or_false] at hi;rcases hi with rfl|rfl|rfl|rfl|rfl|rfl|rfl
      focus
        rintro l vs wa ⟨bL,bC,bO,bS,bB,bI,bT,rfl,rfl,i1,i2,i3,i4,hW,hK2⟩ hb' hd;obtain rfl:bL=false:=by simpa using hb'
        obtain rfl:bC=false:=by cases bC with|false=>rfl|true=>exact absurd (i1 rfl) (by simp)
        obtain rfl:bI=false:=by cases bI with|false=>rfl|true=>exact absurd (i3 rfl) (by simp)
        obtain rfl:bT=false:=by cases bT with|false=>rfl|true=>exact absurd (i4 rfl).2 (by simp)
        simp only [cond_false] at hW;have k0:=hW.c0;have k1:=hW.c1;have k2:=hW.c2;have k3:=hW.c3;refine⟨_,rfl,fun K hK=> ?_⟩
        (try simp only [Act.puts,Act.put,List.setIfInBounds_toArray,List.set_cons_zero,List.set_cons_succ])
        go_simp;refine hK.out [.agg #[c0,c1,c2,.slice (some ⟨B,off,none⟩) n2 q2],undef,(bif bO then .int .i64 ow else undef),(bif bS then .int .i64 so else undef),(bif bB then .agg #[.bool true,.bool false,.int .i64 ow,.int .i64 pt,.int .i64 so] else undef),undef] _ _ (by rfl) ?_ ?_
        focus exact HS5.out _ (hK2)
        focus exact⟨true,false,bO,bS,bB,false,false,rfl,rfl,nofun,i2,nofun,nofun,hW,hK2⟩
      focus
        rintro l vs wa ⟨bL,bC,bO,bS,bB,bI,bT,rfl,rfl,i1,i2,i3,i4,hW,hK2⟩ hb' hd;obtain rfl:bC=false:=by simpa using hb'
        obtain rfl:bL=true:=by have h0:=hd _ rfl;have h:=h0 ⟨4,.data⟩ (by simp) (by rfl);simpa using h
        obtain rfl:bI=false:=by cases bI with|false=>rfl|true=>exact absurd (i3 rfl) (by simp)
        obtain rfl:bT=false:=by cases bT with|false=>rfl|true=>exact absurd (i4 rfl).2 (by simp)
        simp only [cond_false] at hW;refine⟨_,rfl,fun K hK=> ?_⟩
        (try simp only [cond_true,cond_false])
        (try simp only [Act.puts,Act.put,List.setIfInBounds_toArray,List.set_cons_zero,List.set_cons_succ])
        go_simp;(with_reducible refine(HMD.out _ (HKW.out.trans hK2)).mono ?_);rintro e w6 ⟨rfl,hx6⟩;(try simp only [cond_true,cond_false])
        (try simp only [Act.puts,Act.put,List.setIfInBounds_toArray,List.set_cons_zero,List.set_cons_succ])
        (try go_simp)
        refine hK.out [.agg #[c0,c1,c2,.slice (some ⟨B,off,none⟩) n2 q2],.int .i64 mk,(bif bO then .int .i64 ow else undef),(bif bS then .int .i64 so else undef),(bif bB then .agg #[.bool true,.bool false,.int .i64 ow,.int .i64 pt,.int .i64 so] else undef),undef] _ _ (by rfl) ?_ ?_
        focus exact HS5.out _ (hK2.ext hx6)
        focus exact⟨true,true,bO,bS,bB,false,false,rfl,rfl,(fun _=>rfl),i2,nofun,nofun,(hW.ext hx6),(hK2.ext hx6)⟩
      focus
        rintro l vs wa ⟨bL,bC,bO,bS,bB,bI,bT,rfl,rfl,i1,i2,i3,i4,hW,hK2⟩ hb' hd;obtain rfl:bO=false:=by simpa using hb'
        obtain rfl:bB=false:=by cases bB with|false=>rfl|true=>exact absurd (i2 rfl).1 (by simp)
        obtain rfl:bT=false:=by cases bT with|false=>rfl|true=>exact absurd (i4 rfl).1 (by simp)
        simp only [cond_false] at hW;have k0:=(hW.fd p hp).2.2.1;rw [HF3.out.1] at k0;refine⟨_,rfl,fun K hK=> ?_⟩
        (try simp only [Act.puts,Act.put,List.setIfInBounds_toArray,List.set_cons_zero,List.set_cons_succ])
        go_simp;refine hK.out [(bif bL then .agg #[c0,c1,c2,.slice (some ⟨B,off,none⟩) n2 q2] else undef),(bif bC then .int .i64 mk else undef),.int .i64 ow,(bif bS then .int .i64 so else undef),undef,(bif bI then .pointer (some ⟨P,4+mk*5,none⟩) else undef)] _ _ (by rfl) ?_ ?_
        focus exact HS5.out _ (hK2)
        focus exact⟨bL,bC,true,bS,false,bI,false,rfl,rfl,i1,nofun,i3,nofun,hW,hK2⟩
      focus
        rintro l vs wa ⟨bL,bC,bO,bS,bB,bI,bT,rfl,rfl,i1,i2,i3,i4,hW,hK2⟩ hb' hd;obtain rfl:bS=false:=by simpa using hb'
        obtain rfl:bB=false:=by cases bB with|false=>rfl|true=>exact absurd (i2 rfl).2 (by simp)
        obtain rfl:bT=false:=by cases bT with|false=>rfl|true=>exact absurd (i4 rfl).1 (by simp)
        simp only [cond_false] at hW;have k0:=(hW.fd p hp).2.2.2.2;rw [HF3.out.2] at k0;refine⟨_,rfl,fun K hK=> ?_⟩
        (try simp only [Act.puts,Act.put,List.setIfInBounds_toArray,List.set_cons_zero,List.set_cons_succ])
        go_simp;refine hK.out [(bif bL then .agg #[c0,c1,c2,.slice (some ⟨B,off,none⟩) n2 q2] else undef),(bif bC then .int .i64 mk else undef),(bif bO then .int .i64 ow else undef),.int .i64 so,undef,(bif bI then .pointer (some ⟨P,4+mk*5,none⟩) else undef)] _ _ (by rfl) ?_ ?_
        focus exact HS5.out _ (hK2)
        focus exact⟨bL,bC,bO,true,false,bI,false,rfl,rfl,i1,nofun,i3,nofun,hW,hK2⟩
      focus
        rintro l vs wa ⟨bL,bC,bO,bS,bB,bI,bT,rfl,rfl,i1,i2,i3,i4,hW,hK2⟩ hb' hd;obtain rfl:bB=false:=by simpa using hb'
        obtain rfl:bO=true:=by have h0:=hd _ rfl;have h:=h0 ⟨10,.data⟩ (by simp) (by rfl);simpa using h
        obtain rfl:bS=true:=by have h0:=hd _ rfl;have h:=h0 ⟨16,.data⟩ (by simp) (by rfl);simpa using h
        obtain rfl:bT=false:=by cases bT with|false=>rfl|true=>exact absurd (i4 rfl).1 (by simp)
        simp only [cond_false] at hW;refine⟨_,rfl,fun K hK=> ?_⟩
        (try simp only [cond_true,cond_false])
        (try simp only [Act.puts,Act.put,List.setIfInBounds_toArray,List.set_cons_zero,List.set_cons_succ])
        go_simp;refine hK.out [(bif bL then .agg #[c0,c1,c2,.slice (some ⟨B,off,none⟩) n2 q2] else undef),(bif bC then .int .i64 mk else undef),.int .i64 ow,.int .i64 so,.agg #[.bool true,.bool false,.int .i64 ow,.int .i64 pt,.int .i64 so],(bif bI then .pointer (some ⟨P,4+mk*5,none⟩) else undef)] _ _ (by rfl) ?_ ?_
        focus exact HS5.out _ (hK2)
        focus exact⟨bL,bC,true,true,true,bI,false,rfl,rfl,i1,(fun _=>⟨rfl,rfl⟩),i3,nofun,hW,hK2⟩
      focus
        rintro l vs wa ⟨bL,bC,bO,bS,bB,bI,bT,rfl,rfl,i1,i2,i3,i4,hW,hK2⟩ hb' hd;obtain rfl:bI=false:=by simpa using hb'
        obtain rfl:bC=true:=by have h0:=hd _ rfl;have h:=h0 ⟨6,.data⟩ (by simp) (by rfl);simpa using h
        obtain rfl:bL=true:=i1 rfl;obtain rfl:bT=false:=by cases bT with|false=>rfl|true=>exact absurd (i4 rfl).2 (by simp)
        simp only [cond_false] at hW;refine⟨_,rfl,fun K hK=> ?_⟩
        (try simp only [cond_true,cond_false])
        (try simp only [Act.puts,Act.put,List.setIfInBounds_toArray,List.set_cons_zero,List.set_cons_succ])
        go_simp;refine hK.out [.agg #[c0,c1,c2,.slice (some ⟨B,off,none⟩) n2 q2],.int .i64 mk,(bif bO then .int .i64 ow else undef),(bif bS then .int .i64 so else undef),(bif bB then .agg #[.bool true,.bool false,.int .i64 ow,.int .i64 pt,.int .i64 so] else undef),.pointer (some ⟨P,4+mk*5,none⟩)] _ _ (by rfl) ?_ ?_
        focus exact HS5.out _ (hK2)
        focus exact⟨true,true,bO,bS,bB,true,false,rfl,rfl,(fun _=>rfl),i2,(fun _=>rfl),nofun,hW,hK2⟩
      focus
        rintro l vs wa ⟨bL,bC,bO,bS,bB,bI,bT,rfl,rfl,i1,i2,i3,i4,hW,hK2⟩ hb' hd;obtain rfl:bT=false:=by simpa using hb'
        obtain rfl:bB=true:=by have h0:=hd _ rfl;have h:=h0 ⟨17,.data⟩ (by simp) (by rfl);simpa using h
        obtain rfl:bI=true:=by have h0:=hd _ rfl;have h:=h0 ⟨20,.data⟩ (by simp) (by rfl);simpa using h
        simp only [cond_false] at hW;obtain⟨rfl,rfl⟩:=i2 rfl;obtain rfl:bC=true:=i3 rfl;obtain rfl:bL=true:=i1 rfl;obtain⟨k0,k1,k2,k3,k4⟩:=hW.fd mk hm;have kf:=hW.fr;refine⟨_,rfl,fun K hK=> ?_⟩
        (try simp only [cond_true,cond_false])
        (try simp only [Act.puts,Act.put,List.setIfInBounds_toArray,List.set_cons_zero,List.set_cons_succ])
        go_simp;refine hK.out [.agg #[c0,c1,c2,.slice (some ⟨B,off,none⟩) n2 q2],.int .i64 mk,.int .i64 ow,.int .i64 so,.agg #[.bool true,.bool false,.int .i64 ow,.int .i64 pt,.int .i64 so],.pointer (some ⟨P,4+mk*5,none⟩)] _ _ (by rfl) ?_ ?_
        focus exact HS5.out _ (KP.setCell (p:=fun j=>j=P) (KP.setCell (p:=fun j=>j=P) (KP.setCell (p:=fun j=>j=P) (KP.setCell (p:=fun j=>j=P) (KP.setCell (p:=fun j=>j=P) (hK2) rfl _) rfl _) rfl _) rfl _) rfl _)
        focus exact⟨true,true,true,true,true,true,true,rfl,rfl,(fun _=>rfl),(fun _=>⟨rfl,rfl⟩),(fun _=>rfl),(fun _=>⟨rfl,rfl⟩),(fd_store hW hm _),(KP.setCell (p:=fun j=>j=P) (KP.setCell (p:=fun j=>j=P) (KP.setCell (p:=fun j=>j=P) (KP.setCell (p:=fun j=>j=P) (KP.setCell (p:=fun j=>j=P) (hK2) rfl _) rfl _) rfl _) rfl _) rfl _)⟩
    focus
      rintro l vs wa ⟨bL,bC,bO,bS,bB,bI,bT,rfl,rfl,i1,i2,i3,i4,hW,hK2⟩ hr;obtain rfl:bL=true:=not_ready hr 4 _ rfl (by simp) rfl;obtain rfl:bO=true:=not_ready hr 10 _ rfl (by simp) rfl;obtain rfl:bS=true:=not_ready hr 16 _ rfl (by simp) rfl;obtain rfl:bC=true:=not_ready hr 6 _ rfl (by simp) rfl;obtain rfl:bB=true:=not_ready hr 17 _ rfl (by simp) rfl;obtain rfl:bI=true:=not_ready hr 20 _ rfl (by simp) rfl;obtain rfl:bT=true:=not_ready hr 21 _ rfl (by simp) rfl;clear hr i1 i2 i3 i4;simp only [cond_true] at hW;(try simp only [cond_true,cond_false])
      (try simp only [Act.puts,Act.put,List.setIfInBounds_toArray,List.set_cons_zero,List.set_cons_succ])
      (go_wp2_with fail);go_ret;have HE3:f3=upd f p ⟨(f p).there,(f p).gone,ow,va - pt,so⟩:=by rw [HF3E.out,HOW.out,HSO.out]
      rw [HE3] at hW;exact⟨rfl,hW,HKW.out.trans hK2⟩
  | true =>
    by_cases hq:pt<va
    · have hd0 : decide (pt < va) = true := decide_eq_true hq; (go_wp2_with fail); refine wp_region_quiet (C := Ext w1) (by kernel_rfl) (by kernel_rfl) (Ext.drew EX) ?_
      rw [tl]
      repeat (first
        |go_big_quiet_skip
        | (go_big_quiet_want
           first
            |(go_big_quiet_op;go_big_quiet_on)
            | (apply Exists.intro
               refine⟨fun w' hxw=> ?_,?_⟩
               focus (have z0:=hxw.keep z0;have z1:=hxw.keep z1;have z2:=hxw.keep z2;have z3:=hxw.keep z3;have z4:=hxw.keep z4;have r0:=hxw.keep r0;have r1:=hxw.keep r1;have r2:=hxw.keep r2;have r3:=hxw.keep r3;have r4:=hxw.keep r4;have r5:=hxw.keep r5;have r6:=hxw.keep r6;have r7:=hxw.keep r7;go_simp;first|exact rfl|(with_reducible refine(HUP.out w' (Ext.trans Y hxw)).mono ?_;exact fun e w'' h=>⟨h.1,hxw.trans h.2⟩))
               simp only [Act.put,List.setIfInBounds_toArray,List.set_cons_zero,List.set_cons_succ];go_big_quiet_on)))
      refine wpQuiet_nil ?_
      intro w2 hx2
      have Y2:Ext w w2:=Y.trans hx2;have hw2:w.heap.size<w2.heap.size:=Nat.lt_of_lt_of_le (lt_of_cell r0) hx2.size;replace z0:=hx2.keep z0;replace z1:=hx2.keep z1;replace z2:=hx2.keep z2;replace z3:=hx2.keep z3;replace z4:=hx2.keep z4;replace r0:=hx2.keep r0;replace r1:=hx2.keep r1;replace r2:=hx2.keep r2;replace r3:=hx2.keep r3;replace r4:=hx2.keep r4;replace r5:=hx2.keep r5;replace r6:=hx2.keep r6;replace r7:=hx2.keep r7;have zf:∀o,w2.frozen? ⟨P,o,none⟩=false:=fun o=>(Y2.frozen hPl).trans (hfr o)
      clear hx2 Y;(go_wp2_with fail);go_region;have HK3:KP (fun j=>j=P) w2 (w2.setCell ⟨P,4+p*5+3,none⟩ (.int .i64 (va - pt))).drew:=(KP.setCell (p:=fun j=>j=P) (KP.refl _) rfl _).drew;have HW3:Hid (WkAt P c0 c1 c2 (.slice (some ⟨B,off,none⟩) n2 q2) (upd f p { f p with value:=va - pt }) (w2.setCell ⟨P,4+p*5+3,none⟩ (.int .i64 (va - pt))).drew):=hHd (((HWK.out _ Y2).value hp _).ext (Ext.refl _).drew);have r5':=HK3.keep (by intro e;have e':w.heap.size=P:=e;omega) r5;have hK:=Y2.kp.trans HK3;have HKW:=hHd hK;clear z0 z1 z2 z3 z4 r0 r1 r2 r3 r4 r5 r6 r7 zf HK3 hK;generalize (w2.setCell ⟨P,4+p*5+3,none⟩ (.int .i64 (va - pt))).drew=w3 at*;have HF3:Hid (((upd f p { f p with value:=va - pt }) p).owner=ow∧((upd f p { f p with value:=va - pt }) p).sown=so):=hHd (by unfold upd;rw [if_pos rfl];exact⟨HOW.out.symm,HSO.out.symm⟩);have HS5:Hid (∀w',KP (fun j=>j=P) w3 w'→w'.cell? ⟨w.heap.size,5,none⟩=some (.int .i64 pt)∧KP (fun j=>j=P) w3 w'):=hHd (fun w' hk=>⟨hk.keep (by intro e;have e':w.heap.size=P:=e;omega) r5',hk⟩);generalize hf3:(upd f p { f p with value:=va - pt })=f3 at*;have HF3E:=hHd hf3.symm;clear hf3;(go_wp2_with fail);refine wp_region_held_drew (S:=fun w'=>w'.cell? ⟨w.heap.size,5,none⟩=some (.int .i64 pt)∧KP (fun j=>j=P) w3 w') (by kernel_rfl) ?_ (fun hHeld=> ?_)
      focus ((try dsimp only);exact HS5.out _ (KP.refl _).drew)
      iterate 15 ((first|refine tk 0 (v:= ?_) (hi:=rfl) (hy:=Or.inl ⟨by rfl,?_⟩) (h:= ?_)|refine tk 1 (v:= ?_) (hi:=rfl) (hy:=Or.inl ⟨by rfl,?_⟩) (h:= ?_)|refine tk 2 (v:= ?_) (hi:=rfl) (hy:=Or.inl ⟨by rfl,?_⟩) (h:= ?_)|refine tk 3 (v:= ?_) (hi:=rfl) (hy:=Or.inl ⟨by rfl,?_⟩) (h:= ?_)|refine tk 5 (v:= ?_) (hi:=rfl) (hy:=Or.inl ⟨by rfl,?_⟩) (h:= ?_)|refine tk 7 (v:= ?_) (hi:=rfl) (hy:=Or.inl ⟨by rfl,?_⟩) (h:= ?_)|refine tk 8 (v:= ?_) (hi:=rfl) (hy:=Or.inl ⟨by rfl,?_⟩) (h:= ?_)|refine tk 9 (v:= ?_) (hi:=rfl) (hy:=Or.inl ⟨by rfl,?_⟩) (h:= ?_)|refine tk 11 (v:= ?_) (hi:=rfl) (hy:=Or.inl ⟨by rfl,?_⟩) (h:= ?_)|refine tk 12 (v:= ?_) (hi:=rfl) (hy:=Or.inl ⟨by rfl,?_⟩) (h:= ?_)|refine tk 13 (v:= ?_) (hi:=rfl) (hy:=Or.inl ⟨by rfl,?_⟩) (h:= ?_)|refine tk 14 (v:= ?_) (hi:=rfl) (hy:=Or.inl ⟨by rfl,?_⟩) (h:= ?_)|refine tk 15 (v:= ?_) (hi:=rfl) (hy:=Or.inl ⟨by rfl,?_⟩) (h:= ?_)|refine tk 18 (v:= ?_) (hi:=rfl) (hy:=Or.inl ⟨by rfl,?_⟩) (h:= ?_)|refine tk 19 (v:= ?_) (hi:=rfl) (hy:=Or.inl ⟨by rfl,?_⟩) (h:= ?_));rotate_left;(focus (intro w hSw;(try dsimp only at hSw);go_simp;try (first|(with_reducible rfl)|(with_reducible exact rfl))));(try simp only [Act.put,List.getElem_toArray,List.getElem_cons_succ,List.getElem_cons_zero,List.setIfInBounds_toArray,List.set_cons_zero,List.set_cons_succ]))
      refine wpAnyH_invP [50,52,56,62,63,66] [undef,undef,undef,undef,undef,undef] [true,true,true,true,false,true,false,true,true,true,false,true,true,true,true,true,false,false,true,true,false,false] [4,6,10,16,17,20,21] (fun l vs w'=>∃(bL bC bO bS bB bI bT:Bool),l= [true,true,true,true,bL,true,bC,true,true,true,bO,true,true,true,true,true,bS,bB,true,true,bI,bT]∧vs= [(bif bL then .agg #[c0,c1,c2,.slice (some ⟨B,off,none⟩) n2 q2] else undef),(bif bC then .int .i64 mk else undef),(bif bO then .int .i64 ow else undef),(bif bS then .int .i64 so else undef),(bif bB then .agg #[.bool true,.bool false,.int .i64 ow,.int .i64 pt,.int .i64 so] else undef),(bif bI then .pointer (some ⟨P,4+mk*5,none⟩) else undef)]∧(bC=true→bL=true)∧(bB=true→bO=true∧bS=true)∧(bI=true→bC=true)∧(bT=true→bB=true∧bI=true)∧WkAt P c0 c1 c2 (.slice (some ⟨B,off,none⟩) n2 q2) (bif bT then upd f3 mk (⟨true,false,ow,pt,so⟩:Hs.Fd) else f3) w'∧KP (fun j=>j=P) w3 w') (by kernel_rfl) (by rfl) (by decide) ?_ ?_ ?_ ?_
      focus exact⟨false,false,false,false,false,false,false,rfl,rfl,nofun,nofun,nofun,nofun,HW3.out.ext EX,(KP.refl _).drew⟩
      focus
        rintro l vs w' ⟨bL,bC,bO,bS,bB,bI,bT,rfl,rfl,-⟩ i hi;(rcases i with _|_|_|_|_|_|_|_|_|_|_|_|_|_|_|_|_|_|_|_|_|_|i)<;>first|(simp;done)|(exfalso;simp at hi;done)
      focus
        intro i hi
        simp only [List.mem_cons,List.not_mem_nil,or_false] at hi;rcases hi with rfl|rfl|rfl|rfl|rfl|rfl|rfl
        focus
          rintro l vs wa ⟨bL,bC,bO,bS,bB,bI,bT,rfl,rfl,i1,i2,i3,i4,hW,hK2⟩ hb' hd;obtain rfl:bL=false:=by simpa using hb'
          obtain rfl:bC=false:=by cases bC with|false=>rfl|true=>exact absurd (i1 rfl) (by simp)
          obtain rfl:bI=false:=by cases bI with|false=>rfl|true=>exact absurd (i3 rfl) (by simp)
          obtain rfl:bT=false:=by cases bT with|false=>rfl|true=>exact absurd (i4 rfl).2 (by simp)
          simp only [cond_false] at hW;have k0:=hW.c0;have k1:=hW.c1;have k2:=hW.c2;have k3:=hW.c3;refine⟨_,rfl,fun K hK=> ?_⟩
          (try simp only [Act.puts,Act.put,List.setIfInBounds_toArray,List.set_cons_zero,List.set_cons_succ])
          go_simp;refine hK.out [.agg #[c0,c1,c2,.slice (some ⟨B,off,none⟩) n2 q2],undef,(bif bO then .int .i64 ow else undef),(bif bS then .int .i64 so else undef),(bif bB then .agg #[.bool true,.bool false,.int .i64 ow,.int .i64 pt,.int .i64 so] else undef),undef] _ _ (by rfl) ?_ ?_
          focus exact HS5.out _ (hK2)
          focus exact⟨true,false,bO,bS,bB,false,false,rfl,rfl,nofun,i2,nofun,nofun,hW,hK2⟩
        focus
          rintro l vs wa ⟨bL,bC,bO,bS,bB,bI,bT,rfl,rfl,i1,i2,i3,i4,hW,hK2⟩ hb' hd;obtain rfl:bC=false:=by simpa using hb'
          obtain rfl:bL=true:=by have h0:=hd _ rfl;have h:=h0 ⟨4,.data⟩ (by simp) (by rfl);simpa using h
          obtain rfl:bI=false:=by cases bI with|false=>rfl|true=>exact absurd (i3 rfl) (by simp)
          obtain rfl:bT=false:=by cases bT with|false=>rfl|true=>exact absurd (i4 rfl).2 (by simp)
          simp only [cond_false] at hW;refine⟨_,rfl,fun K hK=> ?_⟩
          (try simp only [cond_true,cond_false])
          (try simp only [Act.puts,Act.put,List.setIfInBounds_toArray,List.set_cons_zero,List.set_cons_succ])
          go_simp;(with_reducible refine(HMD.out _ (HKW.out.trans hK2)).mono ?_);rintro e w6 ⟨rfl,hx6⟩;(try simp only [cond_true,cond_false])
          (try simp only [Act.puts,Act.put,List.setIfInBounds_toArray,List.set_cons_zero,List.set_cons_succ])
          (try go_simp)
          refine hK.out [.agg #[c0,c1,c2,.slice (some ⟨B,off,none⟩) n2 q2],.int .i64 mk,(bif bO then .int .i64 ow else undef),(bif bS then .int .i64 so else undef),(bif bB then .agg #[.bool true,.bool false,.int .i64 ow,.int .i64 pt,.int .i64 so] else undef),undef] _ _ (by rfl) ?_ ?_
          focus exact HS5.out _ (hK2.ext hx6)
          focus exact⟨true,true,bO,bS,bB,false,false,rfl,rfl,(fun _=>rfl),i2,nofun,nofun,(hW.ext hx6),(hK2.ext hx6)⟩
        focus
          rintro l vs wa ⟨bL,bC,bO,bS,bB,bI,bT,rfl,rfl,i1,i2,i3,i4,hW,hK2⟩ hb' hd;obtain rfl:bO=false:=by simpa using hb'
          obtain rfl:bB=false:=by cases bB with|false=>rfl|true=>exact absurd (i2 rfl).1 (by simp)
          obtain rfl:bT=false:=by cases bT with|false=>rfl|true=>exact absurd (i4 rfl).1 (by simp)
          simp only [cond_false] at hW;have k0:=(hW.fd p hp).2.2.1;rw [HF3.out.1] at k0;refine⟨_,rfl,fun K hK=> ?_⟩
          (try simp only [Act.puts,Act.put,List.setIfInBounds_toArray,List.set_cons_zero,List.set_cons_succ])
          go_simp;refine hK.out [(bif bL then .agg #[c0,c1,c2,.slice (some ⟨B,off,none⟩) n2 q2] else undef),(bif bC then .int .i64 mk else undef),.int .i64 ow,(bif bS then .int .i64 so else undef),undef,(bif bI then .pointer (some ⟨P,4+mk*5,none⟩) else undef)] _ _ (by rfl) ?_ ?_
          focus exact HS5.out _ (hK2)
          focus exact⟨bL,bC,true,bS,false,bI,false,rfl,rfl,i1,nofun,i3,nofun,hW,hK2⟩
        focus
          rintro l vs wa ⟨bL,bC,bO,bS,bB,bI,bT,rfl,rfl,i1,i2,i3,i4,hW,hK2⟩ hb' hd;obtain rfl:bS=false:=by simpa using hb'
          obtain rfl:bB=false:=by cases bB with|false=>rfl|true=>exact absurd (i2 rfl).2 (by simp)
          obtain rfl:bT=false:=by cases bT with|false=>rfl|true=>exact absurd (i4 rfl).1 (by simp)
          simp only [cond_false] at hW;have k0:=(hW.fd p hp).2.2.2.2;rw [HF3.out.2] at k0;refine⟨_,rfl,fun K hK=> ?_⟩
          (try simp only [Act.puts,Act.put,List.setIfInBounds_toArray,List.set_cons_zero,List.set_cons_succ])
          go_simp;refine hK.out [(bif bL then .agg #[c0,c1,c2,.slice (some ⟨B,off,none⟩) n2 q2] else undef),(bif bC then .int .i64 mk else undef),(bif bO then .int .i64 ow else undef),.int .i64 so,undef,(bif bI then .pointer (some ⟨P,4+mk*5,none⟩) else undef)] _ _ (by rfl) ?_ ?_
          focus exact HS5.out _ (hK2)
          focus exact⟨bL,bC,bO,true,false,bI,false,rfl,rfl,i1,nofun,i3,nofun,hW,hK2⟩
        focus
          rintro l vs wa ⟨bL,bC,bO,bS,bB,bI,bT,rfl,rfl,i1,i2,i3,i4,hW,hK2⟩ hb' hd;obtain rfl:bB=false:=by simpa using hb'
          obtain rfl:bO=true:=by have h0:=hd _ rfl;have h:=h0 ⟨10,.data⟩ (by simp) (by rfl);simpa using h
          obtain rfl:bS=true:=by have h0:=hd _ rfl;have h:=h0 ⟨16,.data⟩ (by simp) (by rfl);simpa using h
          obtain rfl:bT=false:=by cases bT with|false=>rfl|true=>exact absurd (i4 rfl).1 (by simp)
          simp only [cond_false] at hW;refine⟨_,rfl,fun K hK=> ?_⟩
          (try simp only [cond_true,cond_false])
          (try simp only [Act.puts,Act.put,List.setIfInBounds_toArray,List.set_cons_zero,List.set_cons_succ])
          go_simp;refine hK.out [(bif bL then .agg #[c0,c1,c2,.slice (some ⟨B,off,none⟩) n2 q2] else undef),(bif bC then .int .i64 mk else undef),.int .i64 ow,.int .i64 so,.agg #[.bool true,.bool false,.int .i64 ow,.int .i64 pt,.int .i64 so],(bif bI then .pointer (some ⟨P,4+mk*5,none⟩) else undef)] _ _ (by rfl) ?_ ?_
          focus exact HS5.out _ (hK2)
          focus exact⟨bL,bC,true,true,true,bI,false,rfl,rfl,i1,(fun _=>⟨rfl,rfl⟩),i3,nofun,hW,hK2⟩
        focus
          rintro l vs wa ⟨bL,bC,bO,bS,bB,bI,bT,rfl,rfl,i1,i2,i3,i4,hW,hK2⟩ hb' hd;obtain rfl:bI=false:=by simpa using hb'
          obtain rfl:bC=true:=by have h0:=hd _ rfl;have h:=h0 ⟨6,.data⟩ (by simp) (by rfl);simpa using h
          obtain rfl:bL=true:=i1 rfl;obtain rfl:bT=false:=by cases bT with|false=>rfl|true=>exact absurd (i4 rfl).2 (by simp)
          simp only [cond_false] at hW;refine⟨_,rfl,fun K hK=> ?_⟩
          (try simp only [cond_true,cond_false])
          (try simp only [Act.puts,Act.put,List.setIfInBounds_toArray,List.set_cons_zero,List.set_cons_succ])
          go_simp;refine hK.out [.agg #[c0,c1,c2,.slice (some ⟨B,off,none⟩) n2 q2],.int .i64 mk,(bif bO then .int .i64 ow else undef),(bif bS then .int .i64 so else undef),(bif bB then .agg #[.bool true,.bool false,.int .i64 ow,.int .i64 pt,.int .i64 so] else undef),.pointer (some ⟨P,4+mk*5,none⟩)] _ _ (by rfl) ?_ ?_
          focus exact HS5.out _ (hK2)
          focus exact⟨true,true,bO,bS,bB,true,false,rfl,rfl,(fun _=>rfl),i2,(fun _=>rfl),nofun,hW,hK2⟩
        focus
          rintro l vs wa ⟨bL,bC,bO,bS,bB,bI,bT,rfl,rfl,i1,i2,i3,i4,hW,hK2⟩ hb' hd;obtain rfl:bT=false:=by simpa using hb'
          obtain rfl:bB=true:=by have h0:=hd _ rfl;have h:=h0 ⟨17,.data⟩ (by simp) (by rfl);simpa using h
          obtain rfl:bI=true:=by have h0:=hd _ rfl;have h:=h0 ⟨20,.data⟩ (by simp) (by rfl);simpa using h
          simp only [cond_false] at hW;obtain⟨rfl,rfl⟩:=i2 rfl;obtain rfl:bC=true:=i3 rfl;obtain rfl:bL=true:=i1 rfl;obtain⟨k0,k1,k2,k3,k4⟩:=hW.fd mk hm;have kf:=hW.fr;refine⟨_,rfl,fun K hK=> ?_⟩
          (try simp only [cond_true,cond_false])
          (try simp only [Act.puts,Act.put,List.setIfInBounds_toArray,List.set_cons_zero,List.set_cons_succ])
          go_simp;refine hK.out [.agg #[c0,c1,c2,.slice (some ⟨B,off,none⟩) n2 q2],.int .i64 mk,.int .i64 ow,.int .i64 so,.agg #[.bool true,.bool false,.int .i64 ow,.int .i64 pt,.int .i64 so],.pointer (some ⟨P,4+mk*5,none⟩)] _ _ (by rfl) ?_ ?_
          focus exact HS5.out _ (KP.setCell (p:=fun j=>j=P) (KP.setCell (p:=fun j=>j=P) (KP.setCell (p:=fun j=>j=P) (KP.setCell (p:=fun j=>j=P) (KP.setCell (p:=fun j=>j=P) (hK2) rfl _) rfl _) rfl _) rfl _) rfl _)
          focus exact⟨true,true,true,true,true,true,true,rfl,rfl,(fun _=>rfl),(fun _=>⟨rfl,rfl⟩),(fun _=>rfl),(fun _=>⟨rfl,rfl⟩),(fd_store hW hm _),(KP.setCell (p:=fun j=>j=P) (KP.setCell (p:=fun j=>j=P) (KP.setCell (p:=fun j=>j=P) (KP.setCell (p:=fun j=>j=P) (KP.setCell (p:=fun j=>j=P) (hK2) rfl _) rfl _) rfl _) rfl _) rfl _)⟩
      focus
        rintro l vs wa ⟨bL,bC,bO,bS,bB,bI,bT,rfl,rfl,i1,i2,i3,i4,hW,hK2⟩ hr;obtain rfl:bL=true:=not_ready hr 4 _ rfl (by simp) rfl;obtain rfl:bO=true:=not_ready hr 10 _ rfl (by simp) rfl;obtain rfl:bS=true:=not_ready hr 16 _ rfl (by simp) rfl;obtain rfl:bC=true:=not_ready hr 6 _ rfl (by simp) rfl;obtain rfl:bB=true:=not_ready hr 17 _ rfl (by simp) rfl;obtain rfl:bI=true:=not_ready hr 20 _ rfl (by simp) rfl;obtain rfl:bT=true:=not_ready hr 21 _ rfl (by simp) rfl;clear hr i1 i2 i3 i4;simp only [cond_true] at hW;(try simp only [cond_true,cond_false])
        (try simp only [Act.puts,Act.put,List.setIfInBounds_toArray,List.set_cons_zero,List.set_cons_succ])
        (go_wp2_with fail);go_ret;have HE3:f3=upd f p ⟨(f p).there,(f p).gone,ow,va - pt,so⟩:=by rw [HF3E.out,HOW.out,HSO.out]
        rw [HE3] at hW;exact⟨ret_bool (by simp [hq]),hW,HKW.out.trans hK2⟩
    · have hd0 : decide (pt < va) = false := decide_eq_false hq; (go_wp2_with fail); refine wp_region_quiet (C := Ext w1) (by kernel_rfl) (by kernel_rfl) (Ext.drew EX) ?_
      rw [tl]
      repeat (first
        |go_big_quiet_skip
        | (go_big_quiet_want
           first
            |(go_big_quiet_op;go_big_quiet_on)
            | (apply Exists.intro
               refine⟨fun w' hxw=> ?_,?_⟩
               focus (have z0:=hxw.keep z0;have z1:=hxw.keep z1;have z2:=hxw.keep z2;have z3:=hxw.keep z3;have z4:=hxw.keep z4;have r0:=hxw.keep r0;have r1:=hxw.keep r1;have r2:=hxw.keep r2;have r3:=hxw.keep r3;have r4:=hxw.keep r4;have r5:=hxw.keep r5;have r6:=hxw.keep r6;have r7:=hxw.keep r7;go_simp;first|exact rfl|(with_reducible refine(HUP.out w' (Ext.trans Y hxw)).mono ?_;exact fun e w'' h=>⟨h.1,hxw.trans h.2⟩))
               simp only [Act.put,List.setIfInBounds_toArray,List.set_cons_zero,List.set_cons_succ];go_big_quiet_on)))
      refine wpQuiet_nil ?_
      intro w2 hx2
      have Y2:Ext w w2:=Y.trans hx2;have hw2:w.heap.size<w2.heap.size:=Nat.lt_of_lt_of_le (lt_of_cell r0) hx2.size;replace z0:=hx2.keep z0;replace z1:=hx2.keep z1;replace z2:=hx2.keep z2;replace z3:=hx2.keep z3;replace z4:=hx2.keep z4;replace r0:=hx2.keep r0;replace r1:=hx2.keep r1;replace r2:=hx2.keep r2;replace r3:=hx2.keep r3;replace r4:=hx2.keep r4;replace r5:=hx2.keep r5;replace r6:=hx2.keep r6;replace r7:=hx2.keep r7;have zf:∀o,w2.frozen? ⟨P,o,none⟩=false:=fun o=>(Y2.frozen hPl).trans (hfr o)
      clear hx2 Y;(go_wp2_with fail);go_region;have HK3:KP (fun j=>j=P) w2 (w2.setCell ⟨P,4+p*5+3,none⟩ (.int .i64 (va - pt))).drew:=(KP.setCell (p:=fun j=>j=P) (KP.refl _) rfl _).drew;have HW3:Hid (WkAt P c0 c1 c2 (.slice (some ⟨B,off,none⟩) n2 q2) (upd f p { f p with value:=va - pt }) (w2.setCell ⟨P,4+p*5+3,none⟩ (.int .i64 (va - pt))).drew):=hHd (((HWK.out _ Y2).value hp _).ext (Ext.refl _).drew);have r5':=HK3.keep (by intro e;have e':w.heap.size=P:=e;omega) r5;have hK:=Y2.kp.trans HK3;have HKW:=hHd hK;clear z0 z1 z2 z3 z4 r0 r1 r2 r3 r4 r5 r6 r7 zf HK3 hK;generalize (w2.setCell ⟨P,4+p*5+3,none⟩ (.int .i64 (va - pt))).drew=w3 at*;have HF3:Hid (((upd f p { f p with value:=va - pt }) p).owner=ow∧((upd f p { f p with value:=va - pt }) p).sown=so):=hHd (by unfold upd;rw [if_pos rfl];exact⟨HOW.out.symm,HSO.out.symm⟩);have HS5:Hid (∀w',KP (fun j=>j=P) w3 w'→w'.cell? ⟨w.heap.size,5,none⟩=some (.int .i64 pt)∧KP (fun j=>j=P) w3 w'):=hHd (fun w' hk=>⟨hk.keep (by intro e;have e':w.heap.size=P:=e;omega) r5',hk⟩);generalize hf3:(upd f p { f p with value:=va - pt })=f3 at*;have HF3E:=hHd hf3.symm;clear hf3;(go_wp2_with fail);refine wp_region_held_drew (S:=fun w'=>w'.cell? ⟨w.heap.size,5,none⟩=some (.int .i64 pt)∧KP (fun j=>j=P) w3 w') (by kernel_rfl) ?_ (fun hHeld=> ?_)
      focus ((try dsimp only);exact HS5.out _ (KP.refl _).drew)
      iterate 15 ((first|refine tk 0 (v:= ?_) (hi:=rfl) (hy:=Or.inl ⟨by rfl,?_⟩) (h:= ?_)|refine tk 1 (v:= ?_) (hi:=rfl) (hy:=Or.inl ⟨by rfl,?_⟩) (h:= ?_)|refine tk 2 (v:= ?_) (hi:=rfl) (hy:=Or.inl ⟨by rfl,?_⟩) (h:= ?_)|refine tk 3 (v:= ?_) (hi:=rfl) (hy:=Or.inl ⟨by rfl,?_⟩) (h:= ?_)|refine tk 5 (v:= ?_) (hi:=rfl) (hy:=Or.inl ⟨by rfl,?_⟩) (h:= ?_)|refine tk 7 (v:= ?_) (hi:=rfl) (hy:=Or.inl ⟨by rfl,?_⟩) (h:= ?_)|refine tk 8 (v:= ?_) (hi:=rfl) (hy:=Or.inl ⟨by rfl,?_⟩) (h:= ?_)|refine tk 9 (v:= ?_) (hi:=rfl) (hy:=Or.inl ⟨by rfl,?_⟩) (h:= ?_)|refine tk 11 (v:= ?_) (hi:=rfl) (hy:=Or.inl ⟨by rfl,?_⟩) (h:= ?_)|refine tk 12 (v:= ?_) (hi:=rfl) (hy:=Or.inl ⟨by rfl,?_⟩) (h:= ?_)|refine tk 13 (v:= ?_) (hi:=rfl) (hy:=Or.inl ⟨by rfl,?_⟩) (h:= ?_)|refine tk 14 (v:= ?_) (hi:=rfl) (hy:=Or.inl ⟨by rfl,?_⟩) (h:= ?_)|refine tk 15 (v:= ?_) (hi:=rfl) (hy:=Or.inl ⟨by rfl,?_⟩) (h:= ?_)|refine tk 18 (v:= ?_) (hi:=rfl) (hy:=Or.inl ⟨by rfl,?_⟩) (h:= ?_)|refine tk 19 (v:= ?_) (hi:=rfl) (hy:=Or.inl ⟨by rfl,?_⟩) (h:= ?_));rotate_left;(focus (intro w hSw;(try dsimp only at hSw);go_simp;try (first|(with_reducible rfl)|(with_reducible exact rfl))));(try simp only [Act.put,List.getElem_toArray,List.getElem_cons_succ,List.getElem_cons_zero,List.setIfInBounds_toArray,List.set_cons_zero,List.set_cons_succ]))
      refine wpAnyH_invP [50,52,56,62,63,66] [undef,undef,undef,undef,undef,undef] [true,true,true,true,false,true,false,true,true,true,false,true,true,true,true,true,false,false,true,true,false,false] [4,6,10,16,17,20,21] (fun l vs w'=>∃(bL bC bO bS bB bI bT:Bool),l= [true,true,true,true,bL,true,bC,true,true,true,bO,true,true,true,true,true,bS,bB,true,true,bI,bT]∧vs= [(bif bL then .agg #[c0,c1,c2,.slice (some ⟨B,off,none⟩) n2 q2] else undef),(bif bC then .int .i64 mk else undef),(bif bO then .int .i64 ow else undef),(bif bS then .int .i64 so else undef),(bif bB then .agg #[.bool true,.bool false,.int .i64 ow,.int .i64 pt,.int .i64 so] else undef),(bif bI then .pointer (some ⟨P,4+mk*5,none⟩) else undef)]∧(bC=true→bL=true)∧(bB=true→bO=true∧bS=true)∧(bI=true→bC=true)∧(bT=true→bB=true∧bI=true)∧WkAt P c0 c1 c2 (.slice (some ⟨B,off,none⟩) n2 q2) (bif bT then upd f3 mk (⟨true,false,ow,pt,so⟩:Hs.Fd) else f3) w'∧KP (fun j=>j=P) w3 w') (by kernel_rfl) (by rfl) (by decide) ?_ ?_ ?_ ?_
      focus exact⟨false,false,false,false,false,false,false,rfl,rfl,nofun,nofun,nofun,nofun,HW3.out.ext EX,(KP.refl _).drew⟩
      focus
        rintro l vs w' ⟨bL,bC,bO,bS,bB,bI,bT,rfl,rfl,-⟩ i hi;(rcases i with _|_|_|_|_|_|_|_|_|_|_|_|_|_|_|_|_|_|_|_|_|_|i)<;>first|(simp;done)|(exfalso;simp at hi;done)
      focus
        intro i hi
        simp only [List.mem_cons,List.not_mem_nil,or_false] at hi;rcases hi with rfl|rfl|rfl|rfl|rfl|rfl|rfl
        focus
          rintro l vs wa ⟨bL,bC,bO,bS,bB,bI,bT,rfl,rfl,i1,i2,i3,i4,hW,hK2⟩ hb' hd;obtain rfl:bL=false:=by simpa using hb'
          obtain rfl:bC=false:=by cases bC with|false=>rfl|true=>exact absurd (i1 rfl) (by simp)
          obtain rfl:bI=false:=by cases bI with|false=>rfl|true=>exact absurd (i3 rfl) (by simp)
          obtain rfl:bT=false:=by cases bT with|false=>rfl|true=>exact absurd (i4 rfl).2 (by simp)
          simp only [cond_false] at hW;have k0:=hW.c0;have k1:=hW.c1;have k2:=hW.c2;have k3:=hW.c3;refine⟨_,rfl,fun K hK=> ?_⟩
          (try simp only [Act.puts,Act.put,List.setIfInBounds_toArray,List.set_cons_zero,List.set_cons_succ])
          go_simp;refine hK.out [.agg #[c0,c1,c2,.slice (some ⟨B,off,none⟩) n2 q2],undef,(bif bO then .int .i64 ow else undef),(bif bS then .int .i64 so else undef),(bif bB then .agg #[.bool true,.bool false,.int .i64 ow,.int .i64 pt,.int .i64 so] else undef),undef] _ _ (by rfl) ?_ ?_
          focus exact HS5.out _ (hK2)
          focus exact⟨true,false,bO,bS,bB,false,false,rfl,rfl,nofun,i2,nofun,nofun,hW,hK2⟩
        focus
          rintro l vs wa ⟨bL,bC,bO,bS,bB,bI,bT,rfl,rfl,i1,i2,i3,i4,hW,hK2⟩ hb' hd;obtain rfl:bC=false:=by simpa using hb'
          obtain rfl:bL=true:=by have h0:=hd _ rfl;have h:=h0 ⟨4,.data⟩ (by simp) (by rfl);simpa using h
          obtain rfl:bI=false:=by cases bI with|false=>rfl|true=>exact absurd (i3 rfl) (by simp)
          obtain rfl:bT=false:=by cases bT with|false=>rfl|true=>exact absurd (i4 rfl).2 (by simp)
          simp only [cond_false] at hW;refine⟨_,rfl,fun K hK=> ?_⟩
          (try simp only [cond_true,cond_false])
          (try simp only [Act.puts,Act.put,List.setIfInBounds_toArray,List.set_cons_zero,List.set_cons_succ])
          go_simp;(with_reducible refine(HMD.out _ (HKW.out.trans hK2)).mono ?_);rintro e w6 ⟨rfl,hx6⟩;(try simp only [cond_true,cond_false])
          (try simp only [Act.puts,Act.put,List.setIfInBounds_toArray,List.set_cons_zero,List.set_cons_succ])
          (try go_simp)
          refine hK.out [.agg #[c0,c1,c2,.slice (some ⟨B,off,none⟩) n2 q2],.int .i64 mk,(bif bO then .int .i64 ow else undef),(bif bS then .int .i64 so else undef),(bif bB then .agg #[.bool true,.bool false,.int .i64 ow,.int .i64 pt,.int .i64 so] else undef),undef] _ _ (by rfl) ?_ ?_
          focus exact HS5.out _ (hK2.ext hx6)
          focus exact⟨true,true,bO,bS,bB,false,false,rfl,rfl,(fun _=>rfl),i2,nofun,nofun,(hW.ext hx6),(hK2.ext hx6)⟩
        focus
          rintro l vs wa ⟨bL,bC,bO,bS,bB,bI,bT,rfl,rfl,i1,i2,i3,i4,hW,hK2⟩ hb' hd;obtain rfl:bO=false:=by simpa using hb'
          obtain rfl:bB=false:=by cases bB with|false=>rfl|true=>exact absurd (i2 rfl).1 (by simp)
          obtain rfl:bT=false:=by cases bT with|false=>rfl|true=>exact absurd (i4 rfl).1 (by simp)
          simp only [cond_false] at hW;have k0:=(hW.fd p hp).2.2.1;rw [HF3.out.1] at k0;refine⟨_,rfl,fun K hK=> ?_⟩
          (try simp only [Act.puts,Act.put,List.setIfInBounds_toArray,List.set_cons_zero,List.set_cons_succ])
          go_simp;refine hK.out [(bif bL then .agg #[c0,c1,c2,.slice (some ⟨B,off,none⟩) n2 q2] else undef),(bif bC then .int .i64 mk else undef),.int .i64 ow,(bif bS then .int .i64 so else undef),undef,(bif bI then .pointer (some ⟨P,4+mk*5,none⟩) else undef)] _ _ (by rfl) ?_ ?_
          focus exact HS5.out _ (hK2)
          focus exact⟨bL,bC,true,bS,false,bI,false,rfl,rfl,i1,nofun,i3,nofun,hW,hK2⟩
        focus
          rintro l vs wa ⟨bL,bC,bO,bS,bB,bI,bT,rfl,rfl,i1,i2,i3,i4,hW,hK2⟩ hb' hd;obtain rfl:bS=false:=by simpa using hb'
          obtain rfl:bB=false:=by cases bB with|false=>rfl|true=>exact absurd (i2 rfl).2 (by simp)
          obtain rfl:bT=false:=by cases bT with|false=>rfl|true=>exact absurd (i4 rfl).1 (by simp)
          simp only [cond_false] at hW;have k0:=(hW.fd p hp).2.2.2.2;rw [HF3.out.2] at k0;refine⟨_,rfl,fun K hK=> ?_⟩
          (try simp only [Act.puts,Act.put,List.setIfInBounds_toArray,List.set_cons_zero,List.set_cons_succ])
          go_simp;refine hK.out [(bif bL then .agg #[c0,c1,c2,.slice (some ⟨B,off,none⟩) n2 q2] else undef),(bif bC then .int .i64 mk else undef),(bif bO then .int .i64 ow else undef),.int .i64 so,undef,(bif bI then .pointer (some ⟨P,4+mk*5,none⟩) else undef)] _ _ (by rfl) ?_ ?_
          focus exact HS5.out _ (hK2)
          focus exact⟨bL,bC,bO,true,false,bI,false,rfl,rfl,i1,nofun,i3,nofun,hW,hK2⟩
        focus
          rintro l vs wa ⟨bL,bC,bO,bS,bB,bI,bT,rfl,rfl,i1,i2,i3,i4,hW,hK2⟩ hb' hd;obtain rfl:bB=false:=by simpa using hb'
          obtain rfl:bO=true:=by have h0:=hd _ rfl;have h:=h0 ⟨10,.data⟩ (by simp) (by rfl);simpa using h
          obtain rfl:bS=true:=by have h0:=hd _ rfl;have h:=h0 ⟨16,.data⟩ (by simp) (by rfl);simpa using h
          obtain rfl:bT=false:=by cases bT with|false=>rfl|true=>exact absurd (i4 rfl).1 (by simp)
          simp only [cond_false] at hW;refine⟨_,rfl,fun K hK=> ?_⟩
          (try simp only [cond_true,cond_false])
          (try simp only [Act.puts,Act.put,List.setIfInBounds_toArray,List.set_cons_zero,List.set_cons_succ])
          go_simp;refine hK.out [(bif bL then .agg #[c0,c1,c2,.slice (some ⟨B,off,none⟩) n2 q2] else undef),(bif bC then .int .i64 mk else undef),.int .i64 ow,.int .i64 so,.agg #[.bool true,.bool false,.int .i64 ow,.int .i64 pt,.int .i64 so],(bif bI then .pointer (some ⟨P,4+mk*5,none⟩) else undef)] _ _ (by rfl) ?_ ?_
          focus exact HS5.out _ (hK2)
          focus exact⟨bL,bC,true,true,true,bI,false,rfl,rfl,i1,(fun _=>⟨rfl,rfl⟩),i3,nofun,hW,hK2⟩
        focus
          rintro l vs wa ⟨bL,bC,bO,bS,bB,bI,bT,rfl,rfl,i1,i2,i3,i4,hW,hK2⟩ hb' hd;obtain rfl:bI=false:=by simpa using hb'
          obtain rfl:bC=true:=by have h0:=hd _ rfl;have h:=h0 ⟨6,.data⟩ (by simp) (by rfl);simpa using h
          obtain rfl:bL=true:=i1 rfl;obtain rfl:bT=false:=by cases bT with|false=>rfl|true=>exact absurd (i4 rfl).2 (by simp)
          simp only [cond_false] at hW;refine⟨_,rfl,fun K hK=> ?_⟩
          (try simp only [cond_true,cond_false])
          (try simp only [Act.puts,Act.put,List.setIfInBounds_toArray,List.set_cons_zero,List.set_cons_succ])
          go_simp;refine hK.out [.agg #[c0,c1,c2,.slice (some ⟨B,off,none⟩) n2 q2],.int .i64 mk,(bif bO then .int .i64 ow else undef),(bif bS then .int .i64 so else undef),(bif bB then .agg #[.bool true,.bool false,.int .i64 ow,.int .i64 pt,.int .i64 so] else undef),.pointer (some ⟨P,4+mk*5,none⟩)] _ _ (by rfl) ?_ ?_
          focus exact HS5.out _ (hK2)
          focus exact⟨true,true,bO,bS,bB,true,false,rfl,rfl,(fun _=>rfl),i2,(fun _=>rfl),nofun,hW,hK2⟩
        focus
          rintro l vs wa ⟨bL,bC,bO,bS,bB,bI,bT,rfl,rfl,i1,i2,i3,i4,hW,hK2⟩ hb' hd;obtain rfl:bT=false:=by simpa using hb'
          obtain rfl:bB=true:=by have h0:=hd _ rfl;have h:=h0 ⟨17,.data⟩ (by simp) (by rfl);simpa using h
          obtain rfl:bI=true:=by have h0:=hd _ rfl;have h:=h0 ⟨20,.data⟩ (by simp) (by rfl);simpa using h
          simp only [cond_false] at hW;obtain⟨rfl,rfl⟩:=i2 rfl;obtain rfl:bC=true:=i3 rfl;obtain rfl:bL=true:=i1 rfl;obtain⟨k0,k1,k2,k3,k4⟩:=hW.fd mk hm;have kf:=hW.fr;refine⟨_,rfl,fun K hK=> ?_⟩
          (try simp only [cond_true,cond_false])
          (try simp only [Act.puts,Act.put,List.setIfInBounds_toArray,List.set_cons_zero,List.set_cons_succ])
          go_simp;refine hK.out [.agg #[c0,c1,c2,.slice (some ⟨B,off,none⟩) n2 q2],.int .i64 mk,.int .i64 ow,.int .i64 so,.agg #[.bool true,.bool false,.int .i64 ow,.int .i64 pt,.int .i64 so],.pointer (some ⟨P,4+mk*5,none⟩)] _ _ (by rfl) ?_ ?_
          focus exact HS5.out _ (KP.setCell (p:=fun j=>j=P) (KP.setCell (p:=fun j=>j=P) (KP.setCell (p:=fun j=>j=P) (KP.setCell (p:=fun j=>j=P) (KP.setCell (p:=fun j=>j=P) (hK2) rfl _) rfl _) rfl _) rfl _) rfl _)
          focus exact⟨true,true,true,true,true,true,true,rfl,rfl,(fun _=>rfl),(fun _=>⟨rfl,rfl⟩),(fun _=>rfl),(fun _=>⟨rfl,rfl⟩),(fd_store hW hm _),(KP.setCell (p:=fun j=>j=P) (KP.setCell (p:=fun j=>j=P) (KP.setCell (p:=fun j=>j=P) (KP.setCell (p:=fun j=>j=P) (KP.setCell (p:=fun j=>j=P) (hK2) rfl _) rfl _) rfl _) rfl _) rfl _)⟩
      focus
        rintro l vs wa ⟨bL,bC,bO,bS,bB,bI,bT,rfl,rfl,i1,i2,i3,i4,hW,hK2⟩ hr;obtain rfl:bL=true:=not_ready hr 4 _ rfl (by simp) rfl;obtain rfl:bO=true:=not_ready hr 10 _ rfl (by simp) rfl;obtain rfl:bS=true:=not_ready hr 16 _ rfl (by simp) rfl;obtain rfl:bC=true:=not_ready hr 6 _ rfl (by simp) rfl;obtain rfl:bB=true:=not_ready hr 17 _ rfl (by simp) rfl;obtain rfl:bI=true:=not_ready hr 20 _ rfl (by simp) rfl;obtain rfl:bT=true:=not_ready hr 21 _ rfl (by simp) rfl;clear hr i1 i2 i3 i4;simp only [cond_true] at hW;(try simp only [cond_true,cond_false])
        (try simp only [Act.puts,Act.put,List.setIfInBounds_toArray,List.set_cons_zero,List.set_cons_succ])
        (go_wp2_with fail);go_ret;have HE3:f3=upd f p ⟨(f p).there,(f p).gone,ow,va - pt,so⟩:=by rw [HF3E.out,HOW.out,HSO.out]
        rw [HE3] at hW;exact⟨ret_bool (by simp [hq]),hW,HKW.out.trans hK2⟩
end Go.Proofs.YtegkdnfeceomdaaGreat
