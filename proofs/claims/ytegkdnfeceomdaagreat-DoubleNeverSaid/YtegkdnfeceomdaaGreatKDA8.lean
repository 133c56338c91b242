/- Bundled: what the texts JM JN JO JP say one after another. -/
import Derived.Test.YtegkdnfeceomdaaGreatKDA6
import Derived.Test.YtegkdnfeceomdaaGreatKDA7
import Derived.Deep.CutRange
import Derived.Deep.DeepCutAuto
import Derived.Laws.EntriesVeiled
set_option maxRecDepth 100000
set_option maxHeartbeats 16000000
set_option linter.unusedSimpArgs false
set_option linter.unusedVariables false
namespace Go.Proofs.YtegkdnfeceomdaaGreat
open Go.RowKit Go.Hs
attribute [local irreducible] World.setCell World.alloc
theorem swap_p (P : Nat) (c0 c1 c2 : Value) (a2 : Option Addr) (n2 q2 : Nat) (f : Fds) (i p o : Nat) (en : Ent) (day : Int) (w : World) (h : WkAt P c0 c1 c2 (.slice a2 n2 q2) f w) (hi : i < n2)
    (hc:∃B off,a2=some ⟨B,off,none⟩∧Cell8 w B (off+i*8) en.c) (hp:p<10) (hpe:en.parcel=(p:Int)) (ho:o<10) (hoe:en.other=(o:Int)) (hne:o≠p):
    Calls Tryz.prog 186 #[.pointer (some ⟨P,0,none⟩),.int .i64 i,.int .i64 day] w fun e w'=>e= .returned (.bool ((f p).up&&((f o).up&&decide ((f p).owner≠(f o).owner))))∧WkAt P c0 c1 c2 (.slice a2 n2 q2) (upd (upd f p { f p with owner:=(f o).owner }) o { f o with owner:=(f p).owner }) w'∧KP (fun j=>j=P) w w':=by
  have HUP:Hid (∀W,Ext w W→Calls Tryz.prog 188 #[.pointer (some ⟨P,0,none⟩),.int .i64 p] W fun e w'=>e= .returned (.bool (f p).up)∧Ext W w'):=hHd (fun W hx=>up_p P p c0 c1 c2 _ f W (h.ext hx) hp);have HUO:Hid (∀W,Ext w W→Calls Tryz.prog 188 #[.pointer (some ⟨P,0,none⟩),.int .i64 o] W fun e w'=>e= .returned (.bool (f o).up)∧Ext W w'):=hHd (fun W hx=>up_p P o c0 c1 c2 _ f W (h.ext hx) ho);have HWK:Hid (∀W,Ext w W→WkAt P c0 c1 c2 (.slice a2 n2 q2) f W):=hHd (fun W hx=>h.ext hx);have q3:=h.c3;have hPl:=h.lt;have hfr:=h.fr;obtain⟨-,-,x2,-,-⟩:=h.fd p hp;obtain⟨-,-,y2,-,-⟩:=h.fd o ho;have hpo:¬4+p*5+2=4+o*5+2:=by omega
  have hop:¬4+o*5+2=4+p*5+2:=by omega
  obtain⟨B,off,rfl,m0,m1,m2,m3,m4,m5,m6,m7⟩:=hc;obtain⟨kd,pa,ot,fr,tt,pt,dl,dh⟩:=en;simp only [Ent.c] at*;subst hpe;subst hoe;have h0:(0:Int)≤(p:Int):=by omega
  have h1:(p:Int)<10:=by omega
  have h2:(0:Int)≤(i:Int):=by omega
  have h3:(i:Int)<(n2:Int):=by omega
  have h4:(0:Int)≤(o:Int):=by omega
  have h5:(o:Int)<10:=by omega
  obtain⟨ub,hub⟩:∃ub,ub=(f p).up:=⟨_,rfl⟩;rw [←hub] at HUP⊢;obtain⟨uo,huo⟩:∃uo,uo=(f o).up:=⟨_,rfl⟩;rw [←huo] at HUO⊢;obtain⟨ow,how⟩:∃ow,ow=(f p).owner:=⟨_,rfl⟩;have HOW:=hHd how;rw [←how] at x2⊢;obtain⟨oo,hoo⟩:∃oo,oo=(f o).owner:=⟨_,rfl⟩;have HOO:=hHd hoo;rw [←hoo] at y2⊢;have HFO:Hid (∀x,upd f p x o=f o):=hHd (fun x=>by unfold upd;rw [if_neg hne]);clear h hub huo how hoo;go_enter Tryz.func186,Tryz.ntmps186
  (go_wp2_with fail);go_region;have Y:Ext w ((w.alloc (.cells #[.int .i64 kd,.int .i64 p,.int .i64 o,.int .i64 fr,.int .i64 tt,.int .i64 pt,.int .i64 dl,.int .i64 dh] 125)).drew):=EX;have r0:((w.alloc (.cells #[.int .i64 kd,.int .i64 p,.int .i64 o,.int .i64 fr,.int .i64 tt,.int .i64 pt,.int .i64 dl,.int .i64 dh] 125)).drew).cell? ⟨w.heap.size,0,none⟩=some (.int .i64 kd):=by simp [go_sem]
  have r1:((w.alloc (.cells #[.int .i64 kd,.int .i64 p,.int .i64 o,.int .i64 fr,.int .i64 tt,.int .i64 pt,.int .i64 dl,.int .i64 dh] 125)).drew).cell? ⟨w.heap.size,1,none⟩=some (.int .i64 p):=by simp [go_sem]
  have r2:((w.alloc (.cells #[.int .i64 kd,.int .i64 p,.int .i64 o,.int .i64 fr,.int .i64 tt,.int .i64 pt,.int .i64 dl,.int .i64 dh] 125)).drew).cell? ⟨w.heap.size,2,none⟩=some (.int .i64 o):=by simp [go_sem]
  have r3:((w.alloc (.cells #[.int .i64 kd,.int .i64 p,.int .i64 o,.int .i64 fr,.int .i64 tt,.int .i64 pt,.int .i64 dl,.int .i64 dh] 125)).drew).cell? ⟨w.heap.size,3,none⟩=some (.int .i64 fr):=by simp [go_sem]
  have r4:((w.alloc (.cells #[.int .i64 kd,.int .i64 p,.int .i64 o,.int .i64 fr,.int .i64 tt,.int .i64 pt,.int .i64 dl,.int .i64 dh] 125)).drew).cell? ⟨w.heap.size,4,none⟩=some (.int .i64 tt):=by simp [go_sem]
  have r5:((w.alloc (.cells #[.int .i64 kd,.int .i64 p,.int .i64 o,.int .i64 fr,.int .i64 tt,.int .i64 pt,.int .i64 dl,.int .i64 dh] 125)).drew).cell? ⟨w.heap.size,5,none⟩=some (.int .i64 pt):=by simp [go_sem]
  have r6:((w.alloc (.cells #[.int .i64 kd,.int .i64 p,.int .i64 o,.int .i64 fr,.int .i64 tt,.int .i64 pt,.int .i64 dl,.int .i64 dh] 125)).drew).cell? ⟨w.heap.size,6,none⟩=some (.int .i64 dl):=by simp [go_sem]
  have r7:((w.alloc (.cells #[.int .i64 kd,.int .i64 p,.int .i64 o,.int .i64 fr,.int .i64 tt,.int .i64 pt,.int .i64 dl,.int .i64 dh] 125)).drew).cell? ⟨w.heap.size,7,none⟩=some (.int .i64 dh):=by simp [go_sem]
  have z2:=Y.keep x2;replace y2:=Y.keep y2;clear x2 m0 m1 m2 m3 m4 m5 m6 m7 q3;generalize ((w.alloc (.cells #[.int .i64 kd,.int .i64 p,.int .i64 o,.int .i64 fr,.int .i64 tt,.int .i64 pt,.int .i64 dl,.int .i64 dh] 125)).drew)=w1 at*;cases ub with
  | false =>
    (go_wp2_with fail);refine wp_region_quiet (C:=Ext w1) (by kernel_rfl) (by kernel_rfl) (Ext.drew EX) ?_
    rw [tl]
    repeat (first
      |go_big_quiet_skip
      | (go_big_quiet_want
         first
          |(go_big_quiet_op;go_big_quiet_on)
          | (apply Exists.intro
             refine⟨fun w' hxw=> ?_,?_⟩
             focus (have z2:=hxw.keep z2;have y2:=hxw.keep y2;have r0:=hxw.keep r0;have r1:=hxw.keep r1;have r2:=hxw.keep r2;have r3:=hxw.keep r3;have r4:=hxw.keep r4;have r5:=hxw.keep r5;have r6:=hxw.keep r6;have r7:=hxw.keep r7;go_simp;first|exact rfl|(first|(with_reducible refine(HUP.out w' (Ext.trans Y hxw)).mono ?_;exact fun e w'' h=>⟨h.1,hxw.trans h.2⟩)|(with_reducible refine(HUO.out w' (Ext.trans Y hxw)).mono ?_;exact fun e w'' h=>⟨h.1,hxw.trans h.2⟩)))
             simp only [Act.put,List.setIfInBounds_toArray,List.set_cons_zero,List.set_cons_succ];go_big_quiet_on)))
    refine wpQuiet_nil ?_
    intro w2 hx2
    have Y2:Ext w w2:=Y.trans hx2;have hw2:w.heap.size<w2.heap.size:=Nat.lt_of_lt_of_le (lt_of_cell r0) hx2.size;replace z2:=hx2.keep z2;replace y2:=hx2.keep y2;replace r0:=hx2.keep r0;replace r1:=hx2.keep r1;replace r2:=hx2.keep r2;replace r3:=hx2.keep r3;replace r4:=hx2.keep r4;replace r5:=hx2.keep r5;replace r6:=hx2.keep r6;replace r7:=hx2.keep r7;have zf:∀o,w2.frozen? ⟨P,o,none⟩=false:=fun o=>(Y2.frozen hPl).trans (hfr o)
    clear hx2 Y;(go_wp2_with fail);go_region;(go_wp2_with fail);go_ret;refine⟨rfl,?_,((Y2.kp.setCell (p:=fun j=>j=P) rfl _).setCell (p:=fun j=>j=P) rfl _).drew⟩
    have h8:=(((HWK.out _ Y2).owner hp oo).owner ho ow).ext (Ext.refl _).drew;rw [HFO.out] at h8;exact h8
  | true =>
    cases uo with
    | false =>
      (go_wp2_with fail);refine wp_region_quiet (C:=Ext w1) (by kernel_rfl) (by kernel_rfl) (Ext.drew EX) ?_
      rw [tl]
      repeat (first
        |go_big_quiet_skip
        | (go_big_quiet_want
           first
            |(go_big_quiet_op;go_big_quiet_on)
            | (apply Exists.intro
               refine⟨fun w' hxw=> ?_,?_⟩
               focus (have z2:=hxw.keep z2;have y2:=hxw.keep y2;have r0:=hxw.keep r0;have r1:=hxw.keep r1;have r2:=hxw.keep r2;have r3:=hxw.keep r3;have r4:=hxw.keep r4;have r5:=hxw.keep r5;have r6:=hxw.keep r6;have r7:=hxw.keep r7;go_simp;first|exact rfl|(first|(with_reducible refine(HUP.out w' (Ext.trans Y hxw)).mono ?_;exact fun e w'' h=>⟨h.1,hxw.trans h.2⟩)|(with_reducible refine(HUO.out w' (Ext.trans Y hxw)).mono ?_;exact fun e w'' h=>⟨h.1,hxw.trans h.2⟩)))
               simp only [Act.put,List.setIfInBounds_toArray,List.set_cons_zero,List.set_cons_succ];go_big_quiet_on)))
      refine wpQuiet_nil ?_
      intro w2 hx2
      have Y2:Ext w w2:=Y.trans hx2;have hw2:w.heap.size<w2.heap.size:=Nat.lt_of_lt_of_le (lt_of_cell r0) hx2.size;replace z2:=hx2.keep z2;replace y2:=hx2.keep y2;replace r0:=hx2.keep r0;replace r1:=hx2.keep r1;replace r2:=hx2.keep r2;replace r3:=hx2.keep r3;replace r4:=hx2.keep r4;replace r5:=hx2.keep r5;replace r6:=hx2.keep r6;replace r7:=hx2.keep r7;have zf:∀o,w2.frozen? ⟨P,o,none⟩=false:=fun o=>(Y2.frozen hPl).trans (hfr o)
      clear hx2 Y;(go_wp2_with fail);go_region;(go_wp2_with fail);go_ret;refine⟨rfl,?_,((Y2.kp.setCell (p:=fun j=>j=P) rfl _).setCell (p:=fun j=>j=P) rfl _).drew⟩
      have h8:=(((HWK.out _ Y2).owner hp oo).owner ho ow).ext (Ext.refl _).drew;rw [HFO.out] at h8;exact h8
    | true =>
      by_cases hq:ow=oo
      · have hd0 : (ow != oo) = false := by simp [hq]
        have HQ:=hHd hq;clear hq;(go_wp2_with fail);refine wp_region_quiet (C:=Ext w1) (by kernel_rfl) (by kernel_rfl) (Ext.drew EX) ?_
        rw [tl]
        repeat (first
          |go_big_quiet_skip
          | (go_big_quiet_want
             first
              |(go_big_quiet_op;go_big_quiet_on)
              | (apply Exists.intro
                 refine⟨fun w' hxw=> ?_,?_⟩
                 focus (have z2:=hxw.keep z2;have y2:=hxw.keep y2;have r0:=hxw.keep r0;have r1:=hxw.keep r1;have r2:=hxw.keep r2;have r3:=hxw.keep r3;have r4:=hxw.keep r4;have r5:=hxw.keep r5;have r6:=hxw.keep r6;have r7:=hxw.keep r7;go_simp;first|exact rfl|(first|(with_reducible refine(HUP.out w' (Ext.trans Y hxw)).mono ?_;exact fun e w'' h=>⟨h.1,hxw.trans h.2⟩)|(with_reducible refine(HUO.out w' (Ext.trans Y hxw)).mono ?_;exact fun e w'' h=>⟨h.1,hxw.trans h.2⟩)))
                 simp only [Act.put,List.setIfInBounds_toArray,List.set_cons_zero,List.set_cons_succ];go_big_quiet_on)))
        refine wpQuiet_nil ?_
        intro w2 hx2
        have Y2:Ext w w2:=Y.trans hx2;have hw2:w.heap.size<w2.heap.size:=Nat.lt_of_lt_of_le (lt_of_cell r0) hx2.size;replace z2:=hx2.keep z2;replace y2:=hx2.keep y2;replace r0:=hx2.keep r0;replace r1:=hx2.keep r1;replace r2:=hx2.keep r2;replace r3:=hx2.keep r3;replace r4:=hx2.keep r4;replace r5:=hx2.keep r5;replace r6:=hx2.keep r6;replace r7:=hx2.keep r7;have zf:∀o,w2.frozen? ⟨P,o,none⟩=false:=fun o=>(Y2.frozen hPl).trans (hfr o)
        clear hx2 Y;(go_wp2_with fail);go_region;(go_wp2_with fail);go_ret;refine⟨ret_bool (by simp [HQ.out]),?_,((Y2.kp.setCell (p:=fun j=>j=P) rfl _).setCell (p:=fun j=>j=P) rfl _).drew⟩
        have h8:=(((HWK.out _ Y2).owner hp oo).owner ho ow).ext (Ext.refl _).drew;rw [HFO.out] at h8;exact h8
      · have hd0 : (ow != oo) = true := by simp [hq]
        (go_wp2_with fail);refine wp_region_quiet (C:=Ext w1) (by kernel_rfl) (by kernel_rfl) (Ext.drew EX) ?_
        rw [tl]
        repeat (first
          |go_big_quiet_skip
          | (go_big_quiet_want
             first
              |(go_big_quiet_op;go_big_quiet_on)
              | (apply Exists.intro
                 refine⟨fun w' hxw=> ?_,?_⟩
                 focus (have z2:=hxw.keep z2;have y2:=hxw.keep y2;have r0:=hxw.keep r0;have r1:=hxw.keep r1;have r2:=hxw.keep r2;have r3:=hxw.keep r3;have r4:=hxw.keep r4;have r5:=hxw.keep r5;have r6:=hxw.keep r6;have r7:=hxw.keep r7;go_simp;first|exact rfl|(first|(with_reducible refine(HUP.out w' (Ext.trans Y hxw)).mono ?_;exact fun e w'' h=>⟨h.1,hxw.trans h.2⟩)|(with_reducible refine(HUO.out w' (Ext.trans Y hxw)).mono ?_;exact fun e w'' h=>⟨h.1,hxw.trans h.2⟩)))
                 simp only [Act.put,List.setIfInBounds_toArray,List.set_cons_zero,List.set_cons_succ];go_big_quiet_on)))
        refine wpQuiet_nil ?_
        intro w2 hx2
        have Y2:Ext w w2:=Y.trans hx2;have hw2:w.heap.size<w2.heap.size:=Nat.lt_of_lt_of_le (lt_of_cell r0) hx2.size;replace z2:=hx2.keep z2;replace y2:=hx2.keep y2;replace r0:=hx2.keep r0;replace r1:=hx2.keep r1;replace r2:=hx2.keep r2;replace r3:=hx2.keep r3;replace r4:=hx2.keep r4;replace r5:=hx2.keep r5;replace r6:=hx2.keep r6;replace r7:=hx2.keep r7;have zf:∀o,w2.frozen? ⟨P,o,none⟩=false:=fun o=>(Y2.frozen hPl).trans (hfr o)
        clear hx2 Y;(go_wp2_with fail);go_region;(go_wp2_with fail);go_ret;refine⟨ret_bool (by simp [hq]),?_,((Y2.kp.setCell (p:=fun j=>j=P) rfl _).setCell (p:=fun j=>j=P) rfl _).drew⟩
        have h8:=(((HWK.out _ Y2).owner hp oo).owner ho ow).ext (Ext.refl _).drew;rw [HFO.out] at h8;exact h8
end Go.Proofs.YtegkdnfeceomdaaGreat
namespace Go.Hs
open Go.RowKit
def beginTo (b:Bk) (sown:List Int) (n:Nat):Fds:=fun i=>if i<n then ⟨true,false,(b.pars.getD i default).owner,(b.pars.getD i default).value,sown.getD i 0⟩ else Fd.zero
theorem beginTo_all (b:Bk) (sown:List Int):beginTo b sown b.pars.length=beginS b sown:=rfl
theorem beginTo_next {b:Bk} {sown:List Int} {k:Nat} (h:k<b.pars.length) (hs:k<sown.length):beginTo b sown (k+1)=upd (beginTo b sown k) k ⟨true,false,b.pars[k].owner,b.pars[k].value,sown[k]⟩:=by
 funext i
 unfold beginTo upd;dsimp only
 by_cases e:i=k
 ·subst e;rw [if_pos (by omega),if_pos rfl];simp [h,hs]
 ·rw [if_neg e]; by_cases l : i < k
  ·rw [if_pos (by omega),if_pos l]
  ·rw [if_neg (by omega),if_neg l]
end Go.Hs
namespace Go.Proofs.YtegkdnfeceomdaaGreat
open Go.RowKit Go.Hs
attribute [local irreducible] World.setCell World.alloc
theorem begin_p (b:Bk) (vs:Value) (sown:List Int) (a1 a2:Option Addr) (c1 c2:Nat) (w:World) (hp:Cells4 w a1 (b.pars.map Par.c)) (hs:IntsV w vs sown) (hl:b.pars.length≤4) (hn:sown.length=b.pars.length):
  Calls Tryz.prog 178 #[bkV a1 b.pars.length c1 a2 b.ents.length c2 b.last b.owners,vs] w fun e w'=>∃P,e= .returned (.pointer (some ⟨P,0,none⟩))∧w.heap.size≤P∧WkAt P (.int .i64 b.last) (.int .i64 b.owners) (.slice a1 b.pars.length c1) (.slice a2 b.ents.length c2) (beginS b sown) w'∧Ext w w':=by
 have HNX:Hid (∀k (h:k<b.pars.length) (hs:k<sown.length),beginTo b sown (k+1)=upd (beginTo b sown k) k ⟨true,false,b.pars[k].owner,b.pars[k].value,sown[k]⟩):=hHd (fun k h hs=>beginTo_next h hs);have HAL:Hid (beginTo b sown b.pars.length=beginS b sown):=rfl;have HZ0:Hid (beginTo b sown 0=fun _=>Fd.zero):=hHd (by funext i;unfold beginTo;rw [if_neg (by omega)]);generalize hbt:beginTo b sown=bt at*;clear hbt;generalize beginS b sown=bs at*;obtain⟨a3,c3,rfl,hs1,hs2,hsr⟩:=hs;have HSR:=hHd hsr;have HP:Hid (∀W,Ext w W→Cells4 W a1 (b.pars.map Par.c)):=hHd (fun W hx=>hp.ext hx);clear hsr hp;have HNL:=hHd hn;clear hn;unfold bkV;generalize b.ents.length=n2 at*;generalize b.last=last at*;generalize b.owners=ow at*;have hmm:= @run_makeMap Tryz.prog;go_enter Tryz.func178,Tryz.ntmps178
 (go_wp2_with fail);clear hmm;have X:Ext w (((w.alloc (.cells #[.int .i64 last,.int .i64 ow,.slice a1 b.pars.length c1,.slice a2 n2 c2] 52)).alloc (.map #[] 0)).alloc (.cells #[.int .i64 last,.int .i64 ow,.slice a1 b.pars.length c1,.slice a2 n2 c2,.bool false,.bool false,.int .i64 0,.int .i64 0,.int .i64 0,.bool false,.bool false,.int .i64 0,.int .i64 0,.int .i64 0,.bool false,.bool false,.int .i64 0,.int .i64 0,.int .i64 0,.bool false,.bool false,.int .i64 0,.int .i64 0,.int .i64 0,.bool false,.bool false,.int .i64 0,.int .i64 0,.int .i64 0,.bool false,.bool false,.int .i64 0,.int .i64 0,.int .i64 0,.bool false,.bool false,.int .i64 0,.int .i64 0,.int .i64 0,.bool false,.bool false,.int .i64 0,.int .i64 0,.int .i64 0,.bool false,.bool false,.int .i64 0,.int .i64 0,.int .i64 0,.bool false,.bool false,.int .i64 0,.int .i64 0,.int .i64 0,.map (some (w.heap.size+1))] 201)):=EX
 have HW0:Hid (WkAt (w.heap.size+1+1) (.int .i64 last) (.int .i64 ow) (.slice a1 b.pars.length c1) (.slice a2 n2 c2) (fun _=>Fd.zero) (((w.alloc (.cells #[.int .i64 last,.int .i64 ow,.slice a1 b.pars.length c1,.slice a2 n2 c2] 52)).alloc (.map #[] 0)).alloc (.cells #[.int .i64 last,.int .i64 ow,.slice a1 b.pars.length c1,.slice a2 n2 c2,.bool false,.bool false,.int .i64 0,.int .i64 0,.int .i64 0,.bool false,.bool false,.int .i64 0,.int .i64 0,.int .i64 0,.bool false,.bool false,.int .i64 0,.int .i64 0,.int .i64 0,.bool false,.bool false,.int .i64 0,.int .i64 0,.int .i64 0,.bool false,.bool false,.int .i64 0,.int .i64 0,.int .i64 0,.bool false,.bool false,.int .i64 0,.int .i64 0,.int .i64 0,.bool false,.bool false,.int .i64 0,.int .i64 0,.int .i64 0,.bool false,.bool false,.int .i64 0,.int .i64 0,.int .i64 0,.bool false,.bool false,.int .i64 0,.int .i64 0,.int .i64 0,.bool false,.bool false,.int .i64 0,.int .i64 0,.int .i64 0,.map (some (w.heap.size+1))] 201))):=hHd ⟨by simp [go_sem],by simp [go_sem],by simp [go_sem],by simp [go_sem],fun i hi=>by
  rcases i with _|_|_|_|_|_|_|_|_|_|i
  all_goals first|omega|exact⟨by simp [go_sem,Fd.zero],by simp [go_sem,Fd.zero],by simp [go_sem,Fd.zero],by simp [go_sem,Fd.zero],by simp [go_sem,Fd.zero]⟩,fun o=>by simp [go_sem]⟩
 generalize (((w.alloc (.cells #[.int .i64 last,.int .i64 ow,.slice a1 b.pars.length c1,.slice a2 n2 c2] 52)).alloc (.map #[] 0)).alloc (.cells #[.int .i64 last,.int .i64 ow,.slice a1 b.pars.length c1,.slice a2 n2 c2,.bool false,.bool false,.int .i64 0,.int .i64 0,.int .i64 0,.bool false,.bool false,.int .i64 0,.int .i64 0,.int .i64 0,.bool false,.bool false,.int .i64 0,.int .i64 0,.int .i64 0,.bool false,.bool false,.int .i64 0,.int .i64 0,.int .i64 0,.bool false,.bool false,.int .i64 0,.int .i64 0,.int .i64 0,.bool false,.bool false,.int .i64 0,.int .i64 0,.int .i64 0,.bool false,.bool false,.int .i64 0,.int .i64 0,.int .i64 0,.bool false,.bool false,.int .i64 0,.int .i64 0,.int .i64 0,.bool false,.bool false,.int .i64 0,.int .i64 0,.int .i64 0,.bool false,.bool false,.int .i64 0,.int .i64 0,.int .i64 0,.map (some (w.heap.size+1))] 201))=W at*;have hPw:w.heap.size≤w.heap.size+1+1:=by omega
 generalize w.heap.size+1+1=P at*;go_loopw [16] (fun s16 wr=>∃k:Nat,k≤b.pars.length∧s16= .int .i64 k∧Hid (WkAt P (.int .i64 last) (.int .i64 ow) (.slice a1 b.pars.length c1) (.slice a2 n2 c2) (bt k) wr)∧Ext w wr) (fun s _=>b.pars.length - (intOf s).toNat)
 case atStart=>exact⟨0,Nat.zero_le _,rfl,hHd (by rw [HZ0.out];exact HW0.out),X⟩
 case round=>
  obtain⟨k,hk,rfl,HW,hx⟩:=hrel;obtain⟨wo,rfl⟩:∃x,x=wr:=⟨_,rfl⟩;clear HW0 X;by_cases hlt:k<b.pars.length
  ·obtain ⟨b', off, rfl, hce⟩ := HP.out wo hx k (by simpa using hlt); have e1 : (b.pars.map Par.c)[k]'(by simpa using hlt) = (b.pars[k]).c := by simp
   rw [e1] at hce;have hks:k<sown.length:=by have:=HNL.out;omega
   obtain⟨b3,o3,rfl,hcs,-⟩:=HSR.out k hks;rw [Nat.mul_one] at hcs;have s0:=hx.keep hcs;have HN:=hHd (HNX.out k hlt hks);obtain⟨f0,f1,f2,f3,f4⟩:=HW.out.fd k (by omega);have hfr:=HW.out.fr;have hPl:=HW.out.lt;generalize sown[k]=sk at*;generalize b.pars[k]=pk at*;obtain⟨po,pv',sl,sh⟩:=pk;obtain⟨m0,m1,m2,m3⟩:=hce;simp only [Par.c] at m0 m1 m2 m3 HN;clear e1 hcs;have hk0:(0:Int)≤(k:Int):=by omega
   have hk1:(k:Int)<(b.pars.length:Int):=by omega
   have hk2:(k:Int)<(sown.length:Int):=by omega
   have hk3:(k:Int)<10:=by omega
   have y0:∀A,(wo.alloc A).cell? ⟨b3,o3+k,none⟩=some (.int .i64 sk):=fun A=>((Ext.refl wo).alloc A).keep s0
   have y1:∀A,(wo.alloc A).cell? ⟨P,4+k*5,none⟩=_:=fun A=>((Ext.refl wo).alloc A).keep f0
   have y2:∀A,(wo.alloc A).cell? ⟨P,4+k*5+1,none⟩=_:=fun A=>((Ext.refl wo).alloc A).keep f1
   have y3:∀A,(wo.alloc A).cell? ⟨P,4+k*5+2,none⟩=_:=fun A=>((Ext.refl wo).alloc A).keep f2
   have y4:∀A,(wo.alloc A).cell? ⟨P,4+k*5+3,none⟩=_:=fun A=>((Ext.refl wo).alloc A).keep f3
   have y5:∀A,(wo.alloc A).cell? ⟨P,4+k*5+4,none⟩=_:=fun A=>((Ext.refl wo).alloc A).keep f4
   have hPn:¬P=wo.heap.size:=by omega
   have HST:=hHd (fd_store HW.out (show k<10 by omega) (⟨true,false,po,pv',sk⟩:Hs.Fd));(go_wp2_with fail);go_region;(go_wp2_with fail);go_roundw
   case rel=>exact⟨k+1,by omega,by go_num,hHd (by rw [HN.out];exact(HST.out.ext ((Ext.refl _).alloc _)).ext (Ext.refl _).drew),Ext.drew (Ext.alloc ((((((hx.setCell hPw _).setCell hPw _).setCell hPw _).setCell hPw _).setCell hPw _)) _)⟩
   case measure=>simp [intOf];omega
  ·obtain rfl : k = b.pars.length := by omega
   (go_wp2_with fail);go_ret;exact⟨P,rfl,hPw,by rw [←HAL.out];exact HW.out,hx⟩
def actsV:Value:= .agg #[.func (.func 184) #[] #[],.func (.func 185) #[] #[],.func (.func 186) #[] #[],.func (.func 187) #[] #[]]
theorem acts_p (w:World):Calls Tryz.prog 179 #[] w fun e w'=>e= .returned actsV∧Ext w w':=by
 go_enter Tryz.func179,Tryz.ntmps179
 (go_wp2_with fail);exact bodyPost_ret (v:=actsV) (by simp [results,Tryz.results179,go_sem,actsV]) rfl ⟨rfl,EX⟩
theorem mem_take {xs:List Int} {n:Int} {k:Nat} (h:∀j (hj:j<xs.length),j<k→xs[j]≠n) (hk:k=xs.length):n∉xs:=by
 intro hm
 obtain⟨j,hj,e⟩:=List.mem_iff_getElem.1 hm;exact h j hj (by omega) e
theorem index_p (v:Value) (xs:List Int) (n:Int) (w:World) (hv:IntsV w v xs):
  Calls Tryz.prog 150 #[v,.int .i64 n] w fun e w'=>(∃k:Int,e= .returned (.int .i64 k)∧(0≤k↔n∈xs)∧ -1≤k)∧Ext w w':=by
 obtain⟨a,c,rfl,h1,h2,hr⟩:=hv;have HR:=hHd hr;clear hr;go_enter Tryz.func150,Tryz.ntmps150
 (go_wp2_with fail);go_loopw [8] (fun s8 wr=>∃k:Nat,k≤xs.length∧s8= .int .i64 k∧Hid (∀j (hj:j<xs.length),j<k→xs[j]≠n)∧wr=w) (fun s _=>xs.length - (intOf s).toNat)
 case atStart=>exact⟨0,Nat.zero_le _,rfl,hHd (fun j _ h=>by omega),rfl⟩
 case round=>
  obtain⟨k,hk,rfl,HJ,rfl⟩:=hrel;by_cases hlt:k<xs.length
  ·obtain ⟨b, off, rfl, hc, -⟩ := HR.out k hlt; rw [Nat.mul_one] at hc; have HX : Hid (xs[k] = xs[k]) := rfl; have hk0 : (0 : Int) ≤ (k : Int) := by omega
   have hk1:(k:Int)<(xs.length:Int):=by omega
   by_cases he:n=xs[k]
   ·have HM : Hid (n ∈ xs) := hHd (he ▸ List.getElem_mem hlt); have hd : (n == xs[k]) = true := by rw [beq_iff_eq]; exact he
    have HE:=hHd he;generalize xs[k]=x at*;clear he HJ;(go_wp2_with fail);go_ret;exact⟨⟨k,rfl,iff_of_true hk0 HM.out,by omega⟩,Ext.refl _⟩
   ·have hd : (n == xs[k]) = false := by rw [beq_eq_false_iff_ne]; exact he
    have HJ2:Hid (∀j (hj:j<xs.length),j<k+1→xs[j]≠n):=hHd (fun j hj h=>by
     by_cases e:j=k
     ·subst e;exact fun h=>he h.symm
     ·exact HJ.out j hj (by omega))
    generalize xs[k]=x at*;clear HJ HX;(go_wp2_with fail);go_roundw
    case rel=>exact⟨k+1,by omega,by go_num,HJ2,trivial⟩
    case measure=>simp [intOf];omega
  ·have HM : Hid (n ∉ xs) := hHd (mem_take HJ.out (by omega)); obtain rfl : k = xs.length := by omega
   clear HJ HR;(go_wp2_with fail);go_ret;exact⟨⟨-1,rfl,iff_of_false (by omega) HM.out,by omega⟩,Ext.refl _⟩
theorem contains_p (v:Value) (xs:List Int) (n:Int) (w:World) (hv:IntsV w v xs):
  Calls Tryz.prog 105 #[v,.int .i64 n] w fun e w'=>e= .returned (.bool (decide (n∈xs)))∧Ext w w':=by
 have HI:=hHd (index_p v xs n w hv);have HD:Hid (∀k:Int,(0≤k↔n∈xs)→decide (0≤k)=decide (n∈xs)):=hHd (fun k h=>by rw [decide_eq_decide];exact h);clear hv;go_enter Tryz.func105,Tryz.ntmps105
 (go_wp2_with fail);(refine HI.out.mono ?_)
 rintro e w1 ⟨⟨k,rfl,hk,-⟩,hx⟩;have HK:=hHd (HD.out k hk);clear hk;(go_wp2_with fail);go_ret;exact⟨ret_bool HK.out,hx⟩
end Go.Proofs.YtegkdnfeceomdaaGreat
namespace Go.Hs
open Go.RowKit
def FdsOK (f:Fds):Prop:=∀i,0≤(f i).value∧(f i).value≤1000
theorem FdsOK.upd {f:Fds} (h:FdsOK f) {i:Nat} {x:Hs.Fd} (hx:0≤x.value∧x.value≤1000):FdsOK (Hs.upd f i x):=fun j=>by
 unfold Hs.upd;split
 ·exact hx
 ·exact h j
theorem begin_ok {b:Bk} (hb:BkS b) (sown:List Int):FdsOK (beginS b sown):=fun i=>by
 unfold beginS;split
 ·rename_i h
  have e:b.pars.getD i default=b.pars[i]:=by simp [h]
  rw [e];have:=hb.par _ (List.getElem_mem h);simp only [parB,Bool.and_eq_true,inR_iff] at this;exact this.2.1
 ·simp [Fd.zero]
structure EntS (b:Bk) (e:Ent) (p:Nat):Prop where
 par:e.parcel=(p:Int)
 lt:p<10
 kind:e.kind=0∨e.kind=1∨e.kind=2∨e.kind=3
 part:e.kind=1→1≤e.part∧e.part≤1000
 other:e.kind=2→∃o:Nat,e.other=(o:Int)∧o<10∧o≠p
theorem nums_ten {b:Bk} (hb:BkS b) (n:Nat):numsTo b n≤10:=by
 have h1:=hb.pars;have h2:=hb.ents;unfold numsTo;have h3:=List.countP_le_length (p:=fun e:Ent=>decide (e.kind=1)) (l:=b.ents.take n);have h4:=List.length_take_le' (l:=b.ents) (i:=n);omega
theorem nums_nine {b:Bk} (hb:BkS b) {i:Nat} (hi:i<b.ents.length):numsTo b i<10:=by
 have h1:=hb.pars;have h2:=hb.ents;unfold numsTo;have h3:=List.countP_le_length (p:=fun e:Ent=>decide (e.kind=1)) (l:=b.ents.take i);have h4:(b.ents.take i).length≤i:=List.length_take_le ..;omega
theorem number_ok {b:Bk} (hb:BkS b) {n:Int} (h:numberB b n=true):∃p:Nat,n=(p:Int)∧p<10:=by
 have:=inR_iff.1 h;have h2:numsB b≤10:=nums_ten hb _;exact⟨n.toNat,by omega,by omega⟩
theorem ent_ok {b:Bk} (hb:BkS b) {e:Ent} (he:e∈b.ents):∃p,EntS b e p:=by
 have h:=hb.ent e he;simp only [entB,Bool.and_eq_true] at h;obtain⟨⟨h1,h2⟩,h3⟩:=h;obtain⟨p,hp,hp10⟩:=number_ok hb h1;unfold kindB at h3;by_cases k0:e.kind=0
 ·exact⟨p,hp,hp10,.inl k0,fun k=>by omega,fun k=>by omega⟩
 by_cases k1:e.kind=1
 ·rw [if_neg k0,if_pos k1] at h3;simp only [Bool.and_eq_true,inR_iff] at h3;exact⟨p,hp,hp10,.inr (.inl k1),fun _=>h3.2,fun k=>by omega⟩
 by_cases k2:e.kind=2
 ·rw [if_neg k0,if_neg k1,if_pos k2] at h3;simp only [Bool.and_eq_true,decide_eq_true_eq] at h3;obtain⟨o,ho,ho10⟩:=number_ok hb h3.2.1;exact⟨p,hp,hp10,.inr (.inr (.inl k2)),fun k=>by omega,fun _=>⟨o,ho,ho10,fun e=>h3.2.2 (by rw [ho,hp,e])⟩⟩
 by_cases k3:e.kind=3
 ·exact⟨p,hp,hp10,.inr (.inr (.inr k3)),fun k=>by omega,fun k=>by omega⟩
 ·rw [if_neg k0,if_neg k1,if_neg k2,if_neg k3] at h3;cases h3
theorem happen_ok {b:Bk} (hb:BkS b) {i:Nat} (hi:i<b.ents.length) {day:Int} {f g:Fds} (hf:FdsOK f) (h:happenS b i day f=some g):FdsOK g:=by
 obtain⟨p,he⟩:=ent_ok hb (List.getElem_mem hi);have e:b.ents.getD i default=b.ents[i]:=by simp [hi]
 unfold happenS at h;rw [e] at h;have hpt:=he.part;generalize b.ents[i]=en at*;dsimp only at h
 split at h
 ·split at h
  ·split at h
   ·cases h;exact hf.upd (hf en.parcel.toNat)
   ·cases h
  ·split at h
   ·rename_i k1
    split at h
    ·rename_i hv
     cases h
     have:=hpt k1;have hp:=hf en.parcel.toNat;exact(hf.upd (by dsimp only;omega)).upd (by dsimp only;omega)
    ·cases h
   ·split at h
    ·split at h
     ·cases h
      refine FdsOK.upd (FdsOK.upd hf ?_) ?_
      ·exact hf en.parcel.toNat
      ·exact hf en.other.toNat
     ·cases h
    ·split at h
     ·split at h
      ·cases h;exact hf.upd (hf en.parcel.toNat)
      ·cases h
     ·cases h
 ·cases h
end Go.Hs
namespace Go.Proofs.YtegkdnfeceomdaaGreat
open Go.RowKit Go.Hs
attribute [local irreducible] World.setCell World.alloc
def actId (k:Int):FuncId:=if k=0 then 184 else if k=1 then 185 else if k=2 then 186 else 187
def ActQ (b:Bk) (i:Nat) (day:Int) (P:Nat) (c0 c1 c2 c3:Value) (f:Fds) (w:World) (e:Ending) (w':World):Prop:=
 ∃f',e= .returned (.bool (happenS b i day f).isSome)∧(∀g,happenS b i day f=some g→f'=g)∧WkAt P c0 c1 c2 c3 f' w'∧KP (fun j=>j=P) w w'
theorem act_p (b:Bk) (hb:BkS b) (P:Nat) (c0 c1 c2:Value) (a2:Option Addr) (q2:Nat) (f:Fds) (i:Nat) (day:Int) (w:World) (h:WkAt P c0 c1 c2 (.slice a2 b.ents.length q2) f w) (hi:i<b.ents.length)
  (hc:∃B off,a2=some ⟨B,off,none⟩∧Cell8 w B (off+i*8) (b.ents[i]).c) (hbk:∀W,KP (fun j=>j=P) w W→BkV W (.agg #[c0,c1,c2,.slice a2 b.ents.length q2]) b) (hf:FdsOK f):
  Calls Tryz.prog (actId (b.ents[i]).kind) #[.pointer (some ⟨P,0,none⟩),.int .i64 i,.int .i64 day] w (ActQ b i day P c0 c1 c2 (.slice a2 b.ents.length q2) f w):=by
 obtain⟨p,he⟩:=ent_ok hb (List.getElem_mem hi);have e:b.ents.getD i default=b.ents[i]:=by simp [hi]
 have hm:=nums_nine hb hi;have hpt:(b.ents[i]).parcel.toNat=p:=by rw [he.par];rfl
 have hH:happenS b i day f=if (f p).up then
   if (b.ents[i]).kind=0 then (if (f p).owner=(b.ents[i]).frm then some (upd f p { f p with owner:=(b.ents[i]).to }) else none)
   else if (b.ents[i]).kind=1 then (if (b.ents[i]).part<(f p).value then some (upd (upd f p { f p with value:=(f p).value - (b.ents[i]).part }) (numsTo b i) ⟨true,false,(f p).owner,(b.ents[i]).part,(f p).sown⟩) else none)
   else if (b.ents[i]).kind=2 then (if (f (b.ents[i]).other.toNat).up&&decide ((f p).owner≠(f (b.ents[i]).other.toNat).owner) then some (upd (upd f p { f p with owner:=(f (b.ents[i]).other.toNat).owner }) (b.ents[i]).other.toNat { f (b.ents[i]).other.toNat with owner:=(f p).owner }) else none)
   else if (b.ents[i]).kind=3 then (if (f p).sown≤day then some (upd f p { f p with gone:=true }) else none)
   else none else none:=by
  unfold happenS;rw [e];dsimp only
  rw [hpt]
 rcases he.kind with k|k|k|k
 ·have hid : actId (b.ents[i]).kind = 184 := by rw [k]; rfl
  rw [hid];refine(sell_p P c0 c1 c2 a2 b.ents.length q2 f i p b.ents[i] day w h hi hc he.lt he.par).mono ?_
  rintro e' w' ⟨rfl,h1,h2⟩;rw [k] at hH;simp only [if_true] at hH;refine⟨_,?_,?_,h1,h2⟩
  ·rw [hH];cases (f p).up<;>by_cases hq:(f p).owner=(b.ents[i]).frm<;>simp [hq]
  ·intro g hg
   rw [hH] at hg;split at hg
   ·split at hg
    ·cases hg;rfl
    ·cases hg
   ·cases hg
 ·have hid : actId (b.ents[i]).kind = 185 := by rw [k]; rfl
  rw [hid];have hp1:=he.part k;refine(split_p b P c0 c1 c2 a2 b.ents.length q2 f i p b.ents[i] day w h hi hc he.lt he.par hbk (by omega) hm (hf p) (by omega)).mono ?_
  rintro e' w' ⟨rfl,h1,h2⟩;rw [k] at hH;simp only [show ¬(1:Int)=0 by decide,if_false,if_true] at hH;refine⟨_,?_,?_,h1,h2⟩
  ·rw [hH];cases (f p).up<;>by_cases hq:(b.ents[i]).part<(f p).value<;>simp [hq]
  ·intro g hg
   rw [hH] at hg;split at hg
   ·split at hg
    ·cases hg;rfl
    ·cases hg
   ·cases hg
 ·have hid : actId (b.ents[i]).kind = 186 := by rw [k]; rfl
  rw [hid];obtain⟨o,ho,ho10,hop⟩:=he.other k;have hot:(b.ents[i]).other.toNat=o:=by rw [ho];rfl
  refine(swap_p P c0 c1 c2 a2 b.ents.length q2 f i p o b.ents[i] day w h hi hc he.lt he.par ho10 ho hop).mono ?_
  rintro e' w' ⟨rfl,h1,h2⟩;rw [k,hot] at hH;simp only [show ¬(2:Int)=0 by decide,show ¬(2:Int)=1 by decide,if_false,if_true] at hH;refine⟨_,?_,?_,h1,h2⟩
  ·rw [hH];cases (f p).up<;>cases (f o).up<;>by_cases hq:(f p).owner=(f o).owner<;>simp [hq]
  ·intro g hg
   rw [hH] at hg;split at hg
   ·split at hg
    ·cases hg;rfl
    ·cases hg
   ·cases hg
 ·have hid : actId (b.ents[i]).kind = 187 := by rw [k]; rfl
  rw [hid];refine(harvest_p P c0 c1 c2 a2 b.ents.length q2 f i p b.ents[i] day w h hi hc he.lt he.par).mono ?_
  rintro e' w' ⟨rfl,h1,h2⟩;rw [k] at hH;simp only [show ¬(3:Int)=0 by decide,show ¬(3:Int)=1 by decide,show ¬(3:Int)=2 by decide,if_false,if_true] at hH;refine⟨_,?_,?_,h1,h2⟩
  ·rw [hH];cases (f p).up<;>by_cases hq:(f p).sown≤day<;>simp [hq]
  ·intro g hg
   rw [hH] at hg;split at hg
   ·split at hg
    ·cases hg;rfl
    ·cases hg
   ·cases hg
end Go.Proofs.YtegkdnfeceomdaaGreat
