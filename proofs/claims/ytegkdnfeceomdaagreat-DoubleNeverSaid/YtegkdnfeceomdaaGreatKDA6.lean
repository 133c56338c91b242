/- Bundled: what the texts JK OR say one after another. -/
import Derived.Test.YtegkdnfeceomdaaGreatKDA5
import Derived.Deep.RegionHeld3
set_option maxRecDepth 100000
set_option maxHeartbeats 16000000
set_option linter.unusedSimpArgs false
set_option linter.unusedVariables false
namespace Go.Proofs.YtegkdnfeceomdaaGreat
open Go.RowKit Go.Hs
attribute [local irreducible] World.setCell World.alloc
theorem sell_p (P : Nat) (c0 c1 c2 : Value) (a2 : Option Addr) (n2 q2 : Nat) (f : Fds) (i p : Nat) (en : Ent) (day : Int) (w : World) (h : WkAt P c0 c1 c2 (.slice a2 n2 q2) f w) (hi : i < n2)
    (hc:∃B off,a2=some ⟨B,off,none⟩∧Cell8 w B (off+i*8) en.c) (hp:p<10) (hpe:en.parcel=(p:Int)):
    Calls Tryz.prog 184 #[.pointer (some ⟨P,0,none⟩),.int .i64 i,.int .i64 day] w fun e w'=>e= .returned (.bool ((f p).up&&decide ((f p).owner=en.frm)))∧WkAt P c0 c1 c2 (.slice a2 n2 q2) (upd f p { f p with owner:=en.to }) w'∧KP (fun j=>j=P) w w':=by
  have HUP:Hid (∀W,Ext w W→Calls Tryz.prog 188 #[.pointer (some ⟨P,0,none⟩),.int .i64 p] W fun e w'=>e= .returned (.bool (f p).up)∧Ext W w'):=hHd (fun W hx=>up_p P p c0 c1 c2 _ f W (h.ext hx) hp);have HWK:Hid (∀W,Ext w W→WkAt P c0 c1 c2 (.slice a2 n2 q2) f W):=hHd (fun W hx=>h.ext hx);have q3:=h.c3;have hPl:=h.lt;have hfr:=h.fr;obtain⟨x0,x1,x2,x3,x4⟩:=h.fd p hp;obtain⟨B,off,rfl,m0,m1,m2,m3,m4,m5,m6,m7⟩:=hc;obtain⟨kd,pa,ot,fr,tt,pt,dl,dh⟩:=en;simp only [Ent.c] at*;subst hpe;have h0:(0:Int)≤(p:Int):=by omega
  have h1:(p:Int)<10:=by omega
  have h2:(0:Int)≤(i:Int):=by omega
  have h3:(i:Int)<(n2:Int):=by omega
  obtain⟨ub,hub⟩:∃ub,ub=(f p).up:=⟨_,rfl⟩;rw [←hub] at HUP⊢;obtain⟨ow,how⟩:∃ow,ow=(f p).owner:=⟨_,rfl⟩;rw [←how] at x2⊢;clear h hub how;go_enter Tryz.func184,Tryz.ntmps184
  (go_wp2_with fail);go_region;have Y:Ext w ((w.alloc (.cells #[.int .i64 kd,.int .i64 p,.int .i64 ot,.int .i64 fr,.int .i64 tt,.int .i64 pt,.int .i64 dl,.int .i64 dh] 125)).drew):=EX;have r0:((w.alloc (.cells #[.int .i64 kd,.int .i64 p,.int .i64 ot,.int .i64 fr,.int .i64 tt,.int .i64 pt,.int .i64 dl,.int .i64 dh] 125)).drew).cell? ⟨w.heap.size,0,none⟩=some (.int .i64 kd):=by simp [go_sem]
  have r1:((w.alloc (.cells #[.int .i64 kd,.int .i64 p,.int .i64 ot,.int .i64 fr,.int .i64 tt,.int .i64 pt,.int .i64 dl,.int .i64 dh] 125)).drew).cell? ⟨w.heap.size,1,none⟩=some (.int .i64 p):=by simp [go_sem]
  have r2:((w.alloc (.cells #[.int .i64 kd,.int .i64 p,.int .i64 ot,.int .i64 fr,.int .i64 tt,.int .i64 pt,.int .i64 dl,.int .i64 dh] 125)).drew).cell? ⟨w.heap.size,2,none⟩=some (.int .i64 ot):=by simp [go_sem]
  have r3:((w.alloc (.cells #[.int .i64 kd,.int .i64 p,.int .i64 ot,.int .i64 fr,.int .i64 tt,.int .i64 pt,.int .i64 dl,.int .i64 dh] 125)).drew).cell? ⟨w.heap.size,3,none⟩=some (.int .i64 fr):=by simp [go_sem]
  have r4:((w.alloc (.cells #[.int .i64 kd,.int .i64 p,.int .i64 ot,.int .i64 fr,.int .i64 tt,.int .i64 pt,.int .i64 dl,.int .i64 dh] 125)).drew).cell? ⟨w.heap.size,4,none⟩=some (.int .i64 tt):=by simp [go_sem]
  have r5:((w.alloc (.cells #[.int .i64 kd,.int .i64 p,.int .i64 ot,.int .i64 fr,.int .i64 tt,.int .i64 pt,.int .i64 dl,.int .i64 dh] 125)).drew).cell? ⟨w.heap.size,5,none⟩=some (.int .i64 pt):=by simp [go_sem]
  have r6:((w.alloc (.cells #[.int .i64 kd,.int .i64 p,.int .i64 ot,.int .i64 fr,.int .i64 tt,.int .i64 pt,.int .i64 dl,.int .i64 dh] 125)).drew).cell? ⟨w.heap.size,6,none⟩=some (.int .i64 dl):=by simp [go_sem]
  have r7:((w.alloc (.cells #[.int .i64 kd,.int .i64 p,.int .i64 ot,.int .i64 fr,.int .i64 tt,.int .i64 pt,.int .i64 dl,.int .i64 dh] 125)).drew).cell? ⟨w.heap.size,7,none⟩=some (.int .i64 dh):=by simp [go_sem]
  have z0:=Y.keep x0;have z1:=Y.keep x1;have z2:=Y.keep x2;have z3:=Y.keep x3;have z4:=Y.keep x4;clear x0 x1 x2 x3 x4 m0 m1 m2 m3 m4 m5 m6 m7 q3;generalize ((w.alloc (.cells #[.int .i64 kd,.int .i64 p,.int .i64 ot,.int .i64 fr,.int .i64 tt,.int .i64 pt,.int .i64 dl,.int .i64 dh] 125)).drew)=w1 at*;cases ub with
  | false =>
    (go_wp2_with fail);refine wp_region_quiet (C:=Ext w1) (by kernel_rfl) (by kernel_rfl) (Ext.drew EX) ?_
    rw [tl]
    repeat (first
      |go_big_quiet_skip
      | (go_big_quiet_want
         first
          |(go_big_quiet_op;go_big_quiet_on)
          | (apply Exists.intro
             refine⟨fun w' hxw=> ?_,?_⟩
             focus (have z0:=hxw.keep z0;have z1:=hxw.keep z1;have z2:=hxw.keep z2;have z3:=hxw.keep z3;have z4:=hxw.keep z4;have r0:=hxw.keep r0;have r1:=hxw.keep r1;have r2:=hxw.keep r2;have r3:=hxw.keep r3;have r4:=hxw.keep r4;have r5:=hxw.keep r5;have r6:=hxw.keep r6;have r7:=hxw.keep r7;go_simp;first|exact rfl|(with_reducible refine(HUP.out w' (Ext.trans Y hxw)).mono ?_;exact fun e w'' h=>⟨h.1,hxw.trans h.2⟩))
             simp only [Act.put,List.setIfInBounds_toArray,List.set_cons_zero,List.set_cons_succ];go_big_quiet_on)))
    refine wpQuiet_nil ?_
    intro w2 hx2
    have Y2:Ext w w2:=Y.trans hx2;have hw2:w.heap.size≤w2.heap.size:=Y2.size;replace z0:=hx2.keep z0;replace z1:=hx2.keep z1;replace z2:=hx2.keep z2;replace z3:=hx2.keep z3;replace z4:=hx2.keep z4;replace r0:=hx2.keep r0;replace r1:=hx2.keep r1;replace r2:=hx2.keep r2;replace r3:=hx2.keep r3;replace r4:=hx2.keep r4;replace r5:=hx2.keep r5;replace r6:=hx2.keep r6;replace r7:=hx2.keep r7;have zf:∀o,w2.frozen? ⟨P,o,none⟩=false:=fun o=>(Y2.frozen hPl).trans (hfr o)
    clear hx2 Y;(go_wp2_with fail);go_ret;exact⟨rfl,(HWK.out _ Y2).owner hp tt,Y2.kp.setCell (p:=fun j=>j=P) rfl _⟩
  | true =>
    by_cases he:ow=fr
    · have hd : (ow == fr) = true := by simp [he]
      (go_wp2_with fail);refine wp_region_quiet (C:=Ext w1) (by kernel_rfl) (by kernel_rfl) (Ext.drew EX) ?_
      rw [tl]
      repeat (first
        |go_big_quiet_skip
        | (go_big_quiet_want
           first
            |(go_big_quiet_op;go_big_quiet_on)
            | (apply Exists.intro
               refine⟨fun w' hxw=> ?_,?_⟩
               focus (have z0:=hxw.keep z0;have z1:=hxw.keep z1;have z2:=hxw.keep z2;have z3:=hxw.keep z3;have z4:=hxw.keep z4;have r0:=hxw.keep r0;have r1:=hxw.keep r1;have r2:=hxw.keep r2;have r3:=hxw.keep r3;have r4:=hxw.keep r4;have r5:=hxw.keep r5;have r6:=hxw.keep r6;have r7:=hxw.keep r7;go_simp;first|exact rfl|(with_reducible refine(HUP.out w' (Ext.trans Y hxw)).mono ?_;exact fun e w'' h=>⟨h.1,hxw.trans h.2⟩))
               simp only [Act.put,List.setIfInBounds_toArray,List.set_cons_zero,List.set_cons_succ];go_big_quiet_on)))
      refine wpQuiet_nil ?_
      intro w2 hx2
      have Y2:Ext w w2:=Y.trans hx2;have hw2:w.heap.size≤w2.heap.size:=Y2.size;replace z0:=hx2.keep z0;replace z1:=hx2.keep z1;replace z2:=hx2.keep z2;replace z3:=hx2.keep z3;replace z4:=hx2.keep z4;replace r0:=hx2.keep r0;replace r1:=hx2.keep r1;replace r2:=hx2.keep r2;replace r3:=hx2.keep r3;replace r4:=hx2.keep r4;replace r5:=hx2.keep r5;replace r6:=hx2.keep r6;replace r7:=hx2.keep r7;have zf:∀o,w2.frozen? ⟨P,o,none⟩=false:=fun o=>(Y2.frozen hPl).trans (hfr o)
      clear hx2 Y;(go_wp2_with fail);go_ret;exact⟨ret_bool (by simp [he]),(HWK.out _ Y2).owner hp tt,Y2.kp.setCell (p:=fun j=>j=P) rfl _⟩
    · have hd : (ow == fr) = false := by simp [he]
      (go_wp2_with fail);refine wp_region_quiet (C:=Ext w1) (by kernel_rfl) (by kernel_rfl) (Ext.drew EX) ?_
      rw [tl]
      repeat (first
        |go_big_quiet_skip
        | (go_big_quiet_want
           first
            |(go_big_quiet_op;go_big_quiet_on)
            | (apply Exists.intro
               refine⟨fun w' hxw=> ?_,?_⟩
               focus (have z0:=hxw.keep z0;have z1:=hxw.keep z1;have z2:=hxw.keep z2;have z3:=hxw.keep z3;have z4:=hxw.keep z4;have r0:=hxw.keep r0;have r1:=hxw.keep r1;have r2:=hxw.keep r2;have r3:=hxw.keep r3;have r4:=hxw.keep r4;have r5:=hxw.keep r5;have r6:=hxw.keep r6;have r7:=hxw.keep r7;go_simp;first|exact rfl|(with_reducible refine(HUP.out w' (Ext.trans Y hxw)).mono ?_;exact fun e w'' h=>⟨h.1,hxw.trans h.2⟩))
               simp only [Act.put,List.setIfInBounds_toArray,List.set_cons_zero,List.set_cons_succ];go_big_quiet_on)))
      refine wpQuiet_nil ?_
      intro w2 hx2
      have Y2:Ext w w2:=Y.trans hx2;have hw2:w.heap.size≤w2.heap.size:=Y2.size;replace z0:=hx2.keep z0;replace z1:=hx2.keep z1;replace z2:=hx2.keep z2;replace z3:=hx2.keep z3;replace z4:=hx2.keep z4;replace r0:=hx2.keep r0;replace r1:=hx2.keep r1;replace r2:=hx2.keep r2;replace r3:=hx2.keep r3;replace r4:=hx2.keep r4;replace r5:=hx2.keep r5;replace r6:=hx2.keep r6;replace r7:=hx2.keep r7;have zf:∀o,w2.frozen? ⟨P,o,none⟩=false:=fun o=>(Y2.frozen hPl).trans (hfr o)
      clear hx2 Y;(go_wp2_with fail);go_ret;exact⟨ret_bool (by simp [he]),(HWK.out _ Y2).owner hp tt,Y2.kp.setCell (p:=fun j=>j=P) rfl _⟩
theorem harvest_p (P:Nat) (c0 c1 c2:Value) (a2:Option Addr) (n2 q2:Nat) (f:Fds) (i p:Nat) (en:Ent) (day:Int) (w:World) (h:WkAt P c0 c1 c2 (.slice a2 n2 q2) f w) (hi:i<n2)
    (hc:∃B off,a2=some ⟨B,off,none⟩∧Cell8 w B (off+i*8) en.c) (hp:p<10) (hpe:en.parcel=(p:Int)):
    Calls Tryz.prog 187 #[.pointer (some ⟨P,0,none⟩),.int .i64 i,.int .i64 day] w fun e w'=>e= .returned (.bool ((f p).up&&decide ((f p).sown≤day)))∧WkAt P c0 c1 c2 (.slice a2 n2 q2) (upd f p { f p with gone:=true }) w'∧KP (fun j=>j=P) w w':=by
  have HUP:Hid (∀W,Ext w W→Calls Tryz.prog 188 #[.pointer (some ⟨P,0,none⟩),.int .i64 p] W fun e w'=>e= .returned (.bool (f p).up)∧Ext W w'):=hHd (fun W hx=>up_p P p c0 c1 c2 _ f W (h.ext hx) hp);have HWK:Hid (∀W,Ext w W→WkAt P c0 c1 c2 (.slice a2 n2 q2) f W):=hHd (fun W hx=>h.ext hx);have q3:=h.c3;have hPl:=h.lt;have hfr:=h.fr;obtain⟨x0,x1,x2,x3,x4⟩:=h.fd p hp;obtain⟨B,off,rfl,m0,m1,m2,m3,m4,m5,m6,m7⟩:=hc;obtain⟨kd,pa,ot,fr,tt,pt,dl,dh⟩:=en;simp only [Ent.c] at*;subst hpe;have h0:(0:Int)≤(p:Int):=by omega
  have h1:(p:Int)<10:=by omega
  have h2:(0:Int)≤(i:Int):=by omega
  have h3:(i:Int)<(n2:Int):=by omega
  obtain⟨ub,hub⟩:∃ub,ub=(f p).up:=⟨_,rfl⟩;rw [←hub] at HUP⊢;obtain⟨so,hso⟩:∃so,so=(f p).sown:=⟨_,rfl⟩;have HSO:=hHd hso;rw [←hso] at x4⊢;clear h hub hso;go_enter Tryz.func187,Tryz.ntmps187
  (go_wp2_with fail);go_region;have Y:Ext w w.drew:=(Ext.refl w).drew;replace x0:=Y.keep x0;replace x1:=Y.keep x1;replace x2:=Y.keep x2;replace x3:=Y.keep x3;replace x4:=Y.keep x4;replace m0:=Y.keep m0;replace m1:=Y.keep m1;replace m2:=Y.keep m2;replace m3:=Y.keep m3;replace m4:=Y.keep m4;replace m5:=Y.keep m5;replace m6:=Y.keep m6;replace m7:=Y.keep m7;replace q3:=Y.keep q3;generalize hwd:w.drew=w1 at*;clear hwd;cases ub with
  | false =>
    (go_wp2_with fail);(with_reducible refine(HUP.out _ Y).mono ?_);rintro e w2 ⟨rfl,hx⟩;have hy:Ext w1 w2:=EX;replace Y:=Y.trans hy;replace x0:=hy.keep x0;replace x1:=hy.keep x1;replace x2:=hy.keep x2;replace x3:=hy.keep x3;replace x4:=hy.keep x4;replace m0:=hy.keep m0;replace m1:=hy.keep m1;replace m2:=hy.keep m2;replace m3:=hy.keep m3;replace m4:=hy.keep m4;replace m5:=hy.keep m5;replace m6:=hy.keep m6;replace m7:=hy.keep m7;replace q3:=hy.keep q3;clear hx hy;have hw2:w.heap.size≤w2.heap.size:=Y.size;have zf:∀o,w2.frozen? ⟨P,o,none⟩=false:=fun o=>(Y.frozen hPl).trans (hfr o)
    (go_wp2_with fail);go_ret;exact⟨rfl,(by rw [HSO.out];exact(HWK.out _ Y).gone hp true),Y.kp.setCell (p:=fun j=>j=P) rfl _⟩
  | true =>
    by_cases he:so≤day
    · have hd : decide (so ≤ day) = true := decide_eq_true he; (go_wp2_with fail); (with_reducible refine (HUP.out _ Y).mono ?_); rintro e w2 ⟨rfl, hx⟩; have hy : Ext w1 w2 := EX; replace Y := Y.trans hy; replace x0 := hy.keep x0; replace x1 := hy.keep x1; replace x2 := hy.keep x2; replace x3 := hy.keep x3; replace x4 := hy.keep x4; replace m0 := hy.keep m0; replace m1 := hy.keep m1; replace m2 := hy.keep m2; replace m3 := hy.keep m3; replace m4 := hy.keep m4; replace m5 := hy.keep m5; replace m6 := hy.keep m6; replace m7 := hy.keep m7; replace q3 := hy.keep q3; clear hx hy; have hw2 : w.heap.size ≤ w2.heap.size := Y.size; have zf : ∀ o, w2.frozen? ⟨P, o, none⟩ = false := fun o => (Y.frozen hPl).trans (hfr o)
      (go_wp2_with fail);go_ret;exact⟨ret_bool (by simp [he]),(by rw [HSO.out];exact(HWK.out _ Y).gone hp true),Y.kp.setCell (p:=fun j=>j=P) rfl _⟩
    · have hd : decide (so ≤ day) = false := decide_eq_false he; (go_wp2_with fail); (with_reducible refine (HUP.out _ Y).mono ?_); rintro e w2 ⟨rfl, hx⟩; have hy : Ext w1 w2 := EX; replace Y := Y.trans hy; replace x0 := hy.keep x0; replace x1 := hy.keep x1; replace x2 := hy.keep x2; replace x3 := hy.keep x3; replace x4 := hy.keep x4; replace m0 := hy.keep m0; replace m1 := hy.keep m1; replace m2 := hy.keep m2; replace m3 := hy.keep m3; replace m4 := hy.keep m4; replace m5 := hy.keep m5; replace m6 := hy.keep m6; replace m7 := hy.keep m7; replace q3 := hy.keep q3; clear hx hy; have hw2 : w.heap.size ≤ w2.heap.size := Y.size; have zf : ∀ o, w2.frozen? ⟨P, o, none⟩ = false := fun o => (Y.frozen hPl).trans (hfr o)
      (go_wp2_with fail);go_ret;exact⟨ret_bool (by simp [he]),(by rw [HSO.out];exact(HWK.out _ Y).gone hp true),Y.kp.setCell (p:=fun j=>j=P) rfl _⟩
end Go.Proofs.YtegkdnfeceomdaaGreat
namespace Go.Hs
section
variable {P:Program} {ops:Array Oper} {Q:Exit→Act→World→Prop} {md:Region.Mode} {S:World→Prop}
theorem tk (i:Nat) {oi:Oper} {v:Value} {fuel:Nat} {listed:Array Bool} {a:Act} {w:World} (hf:Region.free md ops listed i=true:=by decide+kernel) (hr:(Region.ready md ops listed).contains i=true:=by decide+kernel) (hi:ops[i]?=some oi) (hs:Region.noSelect ops=true:=by kernel_rfl)
  (hQ:∀c a w,Q (.panic c) (a.put oi.dst v) w→Q (.panic c) a w:=by exact fun _ _ _ h=>h) (hy:YieldsIf P ops S oi v a) (hS:S w:=by assumption)
  (h:wpAnyH P md ops Q S fuel (listed.setIfInBounds i true) (a.put oi.dst v) w):wpAnyH P md ops Q S (fuel+1) listed a w:=wpAnyH_take hi hs hf hr hQ hy hS h
theorem rdy (rs:List Nat) {fuel:Nat} {listed:Array Bool} {a:Act} {w:World} (h:AllReadyH P md ops Q S fuel listed a w rs) (hr:Region.ready md ops listed=rs:=by decide+kernel) (hne:rs≠ []:=by simp):wpAnyH P md ops Q S (fuel+1) listed a w:=wpAnyH_ready hr hne h
end
end Go.Hs
