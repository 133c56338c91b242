/- Bundled: what the texts JF P AF OW say one after another. -/
import Derived.Test.YtegkdnfeceomdaaGreatKDA2
import Derived.Maps.AppendAt
set_option maxRecDepth 100000
set_option maxHeartbeats 16000000
set_option linter.unusedSimpArgs false
set_option linter.unusedVariables false
namespace Go.Proofs.YtegkdnfeceomdaaGreat
open Go.RowKit Go.Hs
attribute [local irreducible] World.setCell World.alloc
theorem entry_p (b : Bk) (v : Value) (e : Ent) (w : World) (hv : BkV w v b) (ho : 1 ≤ b.owners ∧ b.owners ≤ 4) :
    Calls Tryz.prog 134 #[v,e.c.val] w fun e' w'=>e'= .returned (.bool (entB b e))∧Ext w w':=by
  have HE:Hid (entB b e=((numberB b e.parcel&&daysB b e.dlo e.dhi)&&kindB b e)):=rfl;have H1:=hHd (fun W (hx:Ext w W)=>number_p b v e.parcel W (hv.ext hx));have H2:=hHd (fun W (hx:Ext w W)=>days_p b v e.dlo e.dhi W (hv.ext hx));have H3:=hHd (fun W (hx:Ext w W)=>owner_p b v e.frm W (hv.ext hx) ho);have H4:=hHd (fun W (hx:Ext w W)=>owner_p b v e.to W (hv.ext hx) ho);have H5:=hHd (within_p e.part 1 1000);have H6:=hHd (fun W (hx:Ext w W)=>number_p b v e.other W (hv.ext hx));have HK:Hid (kindB b e=if e.kind=0 then (decide (e.other=0)&&decide (e.part=0))&&(ownerB b e.frm&&(ownerB b e.to&&decide (e.frm≠e.to))) else if e.kind=1 then (decide (e.other=0)&&(decide (e.frm=0)&&decide (e.to=0)))&&inR e.part 1 1000 else if e.kind=2 then (decide (e.part=0)&&(decide (e.frm=0)&&decide (e.to=0)))&&(numberB b e.other&&decide (e.other≠e.parcel)) else if e.kind=3 then decide (e.other=0)&&(decide (e.part=0)&&(decide (e.frm=0)&&decide (e.to=0))) else false):=rfl;generalize entB b e=r at*;generalize kindB b e=kb at*;generalize numberB b e.parcel=b1 at*;generalize daysB b e.dlo e.dhi=b2 at*;generalize ownerB b e.frm=o1 at*;generalize ownerB b e.to=o2 at*;generalize inR e.part 1 1000=p1 at*;generalize numberB b e.other=n1' at*;obtain⟨a1,c1,a2,c2,rfl,hp,he,hp1,he1,hp2,he2⟩:=hv.open;clear hv hp he ho;unfold bkV at*;generalize b.pars.length=n1 at*;generalize b.ents.length=n2 at*;generalize b.last=last at*;generalize b.owners=owners at*;obtain⟨kd,pa,ot,fr,tt,pt,dl,dh⟩:=e;simp only [Ent.c] at*;have XX:Ext w w:=Ext.refl w;cases b1 with
  | false =>
    obtain rfl:r=false:=HE.out;clear HE HK;go_enter Tryz.func134,Tryz.ntmps134
    (go_wp2_with fail);(with_reducible refine(H1.out _ EX).mono ?_);rintro e w1 ⟨rfl,hx⟩;have hy:Ext w w1:=EX;have k0:=hx.keep (k:=w.heap.size) (o:=0) (v:= .int .i64 last) (by simp [go_sem]);have k1:=hx.keep (k:=w.heap.size) (o:=1) (v:= .int .i64 owners) (by simp [go_sem]);have k2:=hx.keep (k:=w.heap.size) (o:=2) (v:= .slice a1 n1 c1) (by simp [go_sem]);have k3:=hx.keep (k:=w.heap.size) (o:=3) (v:= .slice a2 n2 c2) (by simp [go_sem]);have r0:=hx.keep (k:=w.heap.size+1) (o:=0) (v:= .int .i64 kd) (by simp [go_sem]);have r1:=hx.keep (k:=w.heap.size+1) (o:=1) (v:= .int .i64 pa) (by simp [go_sem]);have r2:=hx.keep (k:=w.heap.size+1) (o:=2) (v:= .int .i64 ot) (by simp [go_sem]);have r3:=hx.keep (k:=w.heap.size+1) (o:=3) (v:= .int .i64 fr) (by simp [go_sem]);have r4:=hx.keep (k:=w.heap.size+1) (o:=4) (v:= .int .i64 tt) (by simp [go_sem]);have r5:=hx.keep (k:=w.heap.size+1) (o:=5) (v:= .int .i64 pt) (by simp [go_sem]);have r6:=hx.keep (k:=w.heap.size+1) (o:=6) (v:= .int .i64 dl) (by simp [go_sem]);have r7:=hx.keep (k:=w.heap.size+1) (o:=7) (v:= .int .i64 dh) (by simp [go_sem]);replace XX:=XX.trans hy;clear hx hy;(go_wp2_with fail);go_ret;exact⟨rfl,EX⟩
  | true =>
    cases b2 with
    | false =>
      obtain rfl:r=false:=HE.out;clear HE HK;go_enter Tryz.func134,Tryz.ntmps134
      (go_wp2_with fail);(with_reducible refine(H1.out _ EX).mono ?_);rintro e w1 ⟨rfl,hx⟩;have hy:Ext w w1:=EX;have k0:=hx.keep (k:=w.heap.size) (o:=0) (v:= .int .i64 last) (by simp [go_sem]);have k1:=hx.keep (k:=w.heap.size) (o:=1) (v:= .int .i64 owners) (by simp [go_sem]);have k2:=hx.keep (k:=w.heap.size) (o:=2) (v:= .slice a1 n1 c1) (by simp [go_sem]);have k3:=hx.keep (k:=w.heap.size) (o:=3) (v:= .slice a2 n2 c2) (by simp [go_sem]);have r0:=hx.keep (k:=w.heap.size+1) (o:=0) (v:= .int .i64 kd) (by simp [go_sem]);have r1:=hx.keep (k:=w.heap.size+1) (o:=1) (v:= .int .i64 pa) (by simp [go_sem]);have r2:=hx.keep (k:=w.heap.size+1) (o:=2) (v:= .int .i64 ot) (by simp [go_sem]);have r3:=hx.keep (k:=w.heap.size+1) (o:=3) (v:= .int .i64 fr) (by simp [go_sem]);have r4:=hx.keep (k:=w.heap.size+1) (o:=4) (v:= .int .i64 tt) (by simp [go_sem]);have r5:=hx.keep (k:=w.heap.size+1) (o:=5) (v:= .int .i64 pt) (by simp [go_sem]);have r6:=hx.keep (k:=w.heap.size+1) (o:=6) (v:= .int .i64 dl) (by simp [go_sem]);have r7:=hx.keep (k:=w.heap.size+1) (o:=7) (v:= .int .i64 dh) (by simp [go_sem]);replace XX:=XX.trans hy;clear hx hy;(go_wp2_with fail);(with_reducible refine(H2.out _ EX).mono ?_);rintro e w2 ⟨rfl,hx⟩;have hy:Ext w1 w2:=EX;replace XX:=XX.trans hy;replace k0:=hy.keep k0;try clear k0_a
      have k0_a:=fun o=>((Ext.refl w2).alloc o).keep k0
      replace k1:=hy.keep k1;try clear k1_a
      have k1_a:=fun o=>((Ext.refl w2).alloc o).keep k1
      replace k2:=hy.keep k2;try clear k2_a
      have k2_a:=fun o=>((Ext.refl w2).alloc o).keep k2
      replace k3:=hy.keep k3;try clear k3_a
      have k3_a:=fun o=>((Ext.refl w2).alloc o).keep k3
      replace r0:=hy.keep r0;try clear r0_a
      have r0_a:=fun o=>((Ext.refl w2).alloc o).keep r0
      replace r1:=hy.keep r1;try clear r1_a
      have r1_a:=fun o=>((Ext.refl w2).alloc o).keep r1
      replace r2:=hy.keep r2;try clear r2_a
      have r2_a:=fun o=>((Ext.refl w2).alloc o).keep r2
      replace r3:=hy.keep r3;try clear r3_a
      have r3_a:=fun o=>((Ext.refl w2).alloc o).keep r3
      replace r4:=hy.keep r4;try clear r4_a
      have r4_a:=fun o=>((Ext.refl w2).alloc o).keep r4
      replace r5:=hy.keep r5;try clear r5_a
      have r5_a:=fun o=>((Ext.refl w2).alloc o).keep r5
      replace r6:=hy.keep r6;try clear r6_a
      have r6_a:=fun o=>((Ext.refl w2).alloc o).keep r6
      replace r7:=hy.keep r7;try clear r7_a
      have r7_a:=fun o=>((Ext.refl w2).alloc o).keep r7
      clear hx hy;(go_wp2_with fail);go_ret;exact⟨rfl,EX⟩
    | true =>
      replace HE:Hid (r=kb):=hHd (by rw [HE.out];rfl);go_enter Tryz.func134,Tryz.ntmps134
      (go_wp2_with fail);(with_reducible refine(H1.out _ EX).mono ?_);rintro e w1 ⟨rfl,hx⟩;have hy:Ext w w1:=EX;have k0:=hx.keep (k:=w.heap.size) (o:=0) (v:= .int .i64 last) (by simp [go_sem]);have k1:=hx.keep (k:=w.heap.size) (o:=1) (v:= .int .i64 owners) (by simp [go_sem]);have k2:=hx.keep (k:=w.heap.size) (o:=2) (v:= .slice a1 n1 c1) (by simp [go_sem]);have k3:=hx.keep (k:=w.heap.size) (o:=3) (v:= .slice a2 n2 c2) (by simp [go_sem]);have r0:=hx.keep (k:=w.heap.size+1) (o:=0) (v:= .int .i64 kd) (by simp [go_sem]);have r1:=hx.keep (k:=w.heap.size+1) (o:=1) (v:= .int .i64 pa) (by simp [go_sem]);have r2:=hx.keep (k:=w.heap.size+1) (o:=2) (v:= .int .i64 ot) (by simp [go_sem]);have r3:=hx.keep (k:=w.heap.size+1) (o:=3) (v:= .int .i64 fr) (by simp [go_sem]);have r4:=hx.keep (k:=w.heap.size+1) (o:=4) (v:= .int .i64 tt) (by simp [go_sem]);have r5:=hx.keep (k:=w.heap.size+1) (o:=5) (v:= .int .i64 pt) (by simp [go_sem]);have r6:=hx.keep (k:=w.heap.size+1) (o:=6) (v:= .int .i64 dl) (by simp [go_sem]);have r7:=hx.keep (k:=w.heap.size+1) (o:=7) (v:= .int .i64 dh) (by simp [go_sem]);replace XX:=XX.trans hy;clear hx hy;(go_wp2_with fail);(with_reducible refine(H2.out _ EX).mono ?_);rintro e w2 ⟨rfl,hx⟩;have hy:Ext w1 w2:=EX;replace XX:=XX.trans hy;replace k0:=hy.keep k0;try clear k0_a
      have k0_a:=fun o=>((Ext.refl w2).alloc o).keep k0
      replace k1:=hy.keep k1;try clear k1_a
      have k1_a:=fun o=>((Ext.refl w2).alloc o).keep k1
      replace k2:=hy.keep k2;try clear k2_a
      have k2_a:=fun o=>((Ext.refl w2).alloc o).keep k2
      replace k3:=hy.keep k3;try clear k3_a
      have k3_a:=fun o=>((Ext.refl w2).alloc o).keep k3
      replace r0:=hy.keep r0;try clear r0_a
      have r0_a:=fun o=>((Ext.refl w2).alloc o).keep r0
      replace r1:=hy.keep r1;try clear r1_a
      have r1_a:=fun o=>((Ext.refl w2).alloc o).keep r1
      replace r2:=hy.keep r2;try clear r2_a
      have r2_a:=fun o=>((Ext.refl w2).alloc o).keep r2
      replace r3:=hy.keep r3;try clear r3_a
      have r3_a:=fun o=>((Ext.refl w2).alloc o).keep r3
      replace r4:=hy.keep r4;try clear r4_a
      have r4_a:=fun o=>((Ext.refl w2).alloc o).keep r4
      replace r5:=hy.keep r5;try clear r5_a
      have r5_a:=fun o=>((Ext.refl w2).alloc o).keep r5
      replace r6:=hy.keep r6;try clear r6_a
      have r6_a:=fun o=>((Ext.refl w2).alloc o).keep r6
      replace r7:=hy.keep r7;try clear r7_a
      have r7_a:=fun o=>((Ext.refl w2).alloc o).keep r7
      clear hx hy;by_cases h0:kd=0
      · skip
        obtain rfl:kd=0:=h0;obtain⟨q,hq⟩:∃q,q=(decide (ot=0)&&decide (pt=0)):=⟨_,rfl⟩;have HQ:Hid (kb=(q&&(o1&&(o2&&decide (fr≠tt))))):=hHd (by rw [HK.out,hq];try rfl);clear HK
        have hql:∀w,(binOp .eql 125 (.agg #[.int .i64 0,.int .i64 pa,.int .i64 ot,.int .i64 fr,.int .i64 tt,.int .i64 pt,.int .i64 dl,.int .i64 dh]) (.agg #[.int .i64 0,.int .i64 pa,.int .i64 0,.int .i64 fr,.int .i64 tt,.int .i64 0,.int .i64 dl,.int .i64 dh])).run Tryz.prog w= .ok (.bool q) w:=fun w=>by
          rw [eq_ent,hq];exact congrArg (fun z=>Result.ok (Value.bool z) w) (by rw [Bool.eq_iff_iff];simp only [decide_eq_true_eq,Bool.and_eq_true];constructor<;>intro hh<;>(first|omega|(simp_all;done)))
        clear hq;(go_wp2_with fail);go_region;cases q with
        | false =>
          have HR:Hid (r=false):=hHd (by rw [HE.out,HQ.out];rfl);obtain rfl:=HR.out;clear HR HE HQ;(go_wp2_with fail);go_ret;exact⟨rfl,EX⟩
        | true =>
          (go_wp2_with fail);(with_reducible refine(H3.out _ EX).mono ?_);rintro e w3 ⟨rfl,hx⟩;have hy:Ext w2 w3:=EX;replace XX:=XX.trans hy;replace k0:=hy.keep k0;try clear k0_a
          have k0_a:=fun o=>((Ext.refl w3).alloc o).keep k0
          replace k1:=hy.keep k1;try clear k1_a
          have k1_a:=fun o=>((Ext.refl w3).alloc o).keep k1
          replace k2:=hy.keep k2;try clear k2_a
          have k2_a:=fun o=>((Ext.refl w3).alloc o).keep k2
          replace k3:=hy.keep k3;try clear k3_a
          have k3_a:=fun o=>((Ext.refl w3).alloc o).keep k3
          replace r0:=hy.keep r0;try clear r0_a
          have r0_a:=fun o=>((Ext.refl w3).alloc o).keep r0
          replace r1:=hy.keep r1;try clear r1_a
          have r1_a:=fun o=>((Ext.refl w3).alloc o).keep r1
          replace r2:=hy.keep r2;try clear r2_a
          have r2_a:=fun o=>((Ext.refl w3).alloc o).keep r2
          replace r3:=hy.keep r3;try clear r3_a
          have r3_a:=fun o=>((Ext.refl w3).alloc o).keep r3
          replace r4:=hy.keep r4;try clear r4_a
          have r4_a:=fun o=>((Ext.refl w3).alloc o).keep r4
          replace r5:=hy.keep r5;try clear r5_a
          have r5_a:=fun o=>((Ext.refl w3).alloc o).keep r5
          replace r6:=hy.keep r6;try clear r6_a
          have r6_a:=fun o=>((Ext.refl w3).alloc o).keep r6
          replace r7:=hy.keep r7;try clear r7_a
          have r7_a:=fun o=>((Ext.refl w3).alloc o).keep r7
          clear hx hy;cases o1 with
          | false =>
            have HR:Hid (r=false):=hHd (by rw [HE.out,HQ.out];rfl);obtain rfl:=HR.out;clear HR HE HQ;(go_wp2_with fail);go_ret;exact⟨rfl,EX⟩
          | true =>
            (go_wp2_with fail);(with_reducible refine(H4.out _ EX).mono ?_);rintro e w4 ⟨rfl,hx⟩;have hy:Ext w3 w4:=EX;replace XX:=XX.trans hy;replace k0:=hy.keep k0;try clear k0_a
            have k0_a:=fun o=>((Ext.refl w4).alloc o).keep k0
            replace k1:=hy.keep k1;try clear k1_a
            have k1_a:=fun o=>((Ext.refl w4).alloc o).keep k1
            replace k2:=hy.keep k2;try clear k2_a
            have k2_a:=fun o=>((Ext.refl w4).alloc o).keep k2
            replace k3:=hy.keep k3;try clear k3_a
            have k3_a:=fun o=>((Ext.refl w4).alloc o).keep k3
            replace r0:=hy.keep r0;try clear r0_a
            have r0_a:=fun o=>((Ext.refl w4).alloc o).keep r0
            replace r1:=hy.keep r1;try clear r1_a
            have r1_a:=fun o=>((Ext.refl w4).alloc o).keep r1
            replace r2:=hy.keep r2;try clear r2_a
            have r2_a:=fun o=>((Ext.refl w4).alloc o).keep r2
            replace r3:=hy.keep r3;try clear r3_a
            have r3_a:=fun o=>((Ext.refl w4).alloc o).keep r3
            replace r4:=hy.keep r4;try clear r4_a
            have r4_a:=fun o=>((Ext.refl w4).alloc o).keep r4
            replace r5:=hy.keep r5;try clear r5_a
            have r5_a:=fun o=>((Ext.refl w4).alloc o).keep r5
            replace r6:=hy.keep r6;try clear r6_a
            have r6_a:=fun o=>((Ext.refl w4).alloc o).keep r6
            replace r7:=hy.keep r7;try clear r7_a
            have r7_a:=fun o=>((Ext.refl w4).alloc o).keep r7
            clear hx hy;cases o2 with
            | false =>
              have HR:Hid (r=false):=hHd (by rw [HE.out,HQ.out];rfl);obtain rfl:=HR.out;clear HR HE HQ;(go_wp2_with fail);go_ret;exact⟨rfl,EX⟩
            | true =>
              by_cases hne:fr=tt
              · have hd : (fr != tt) = false := by simp [hne]
                obtain rfl:r=false:=by rw [HE.out,HQ.out];simp [hne]
                clear HE HQ hne;(go_wp2_with fail);go_ret;exact⟨rfl,EX⟩
              · have hd : (fr != tt) = true := by simp [hne]
                obtain rfl:r=true:=by rw [HE.out,HQ.out];simp [hne]
                clear HE HQ hne;(go_wp2_with fail);go_ret;exact⟨rfl,EX⟩
      · by_cases h1 : kd = 1
        · skip
          obtain rfl:kd=1:=h1;obtain⟨q,hq⟩:∃q,q=(decide (ot=0)&&(decide (fr=0)&&decide (tt=0))):=⟨_,rfl⟩;have HQ:Hid (kb=(q&&(p1))):=hHd (by rw [HK.out,hq];try rfl);clear HK
          have hql:∀w,(binOp .eql 125 (.agg #[.int .i64 1,.int .i64 pa,.int .i64 ot,.int .i64 fr,.int .i64 tt,.int .i64 pt,.int .i64 dl,.int .i64 dh]) (.agg #[.int .i64 1,.int .i64 pa,.int .i64 0,.int .i64 0,.int .i64 0,.int .i64 pt,.int .i64 dl,.int .i64 dh])).run Tryz.prog w= .ok (.bool q) w:=fun w=>by
            rw [eq_ent,hq];exact congrArg (fun z=>Result.ok (Value.bool z) w) (by rw [Bool.eq_iff_iff];simp only [decide_eq_true_eq,Bool.and_eq_true];constructor<;>intro hh<;>(first|omega|(simp_all;done)))
          clear hq;cases q with
          | false =>
            have HR:Hid (r=false):=hHd (by rw [HE.out,HQ.out];rfl);obtain rfl:=HR.out;clear HR HE HQ;(go_wp2_with fail);go_ret;exact⟨rfl,EX⟩
          | true =>
            (go_wp2_with fail);(with_reducible refine(H5.out _).mono ?_);rintro e w3 ⟨rfl,hx⟩;have hy:Ext w2 w3:=EX;replace XX:=XX.trans hy;replace k0:=hy.keep k0;try clear k0_a
            have k0_a:=fun o=>((Ext.refl w3).alloc o).keep k0
            replace k1:=hy.keep k1;try clear k1_a
            have k1_a:=fun o=>((Ext.refl w3).alloc o).keep k1
            replace k2:=hy.keep k2;try clear k2_a
            have k2_a:=fun o=>((Ext.refl w3).alloc o).keep k2
            replace k3:=hy.keep k3;try clear k3_a
            have k3_a:=fun o=>((Ext.refl w3).alloc o).keep k3
            replace r0:=hy.keep r0;try clear r0_a
            have r0_a:=fun o=>((Ext.refl w3).alloc o).keep r0
            replace r1:=hy.keep r1;try clear r1_a
            have r1_a:=fun o=>((Ext.refl w3).alloc o).keep r1
            replace r2:=hy.keep r2;try clear r2_a
            have r2_a:=fun o=>((Ext.refl w3).alloc o).keep r2
            replace r3:=hy.keep r3;try clear r3_a
            have r3_a:=fun o=>((Ext.refl w3).alloc o).keep r3
            replace r4:=hy.keep r4;try clear r4_a
            have r4_a:=fun o=>((Ext.refl w3).alloc o).keep r4
            replace r5:=hy.keep r5;try clear r5_a
            have r5_a:=fun o=>((Ext.refl w3).alloc o).keep r5
            replace r6:=hy.keep r6;try clear r6_a
            have r6_a:=fun o=>((Ext.refl w3).alloc o).keep r6
            replace r7:=hy.keep r7;try clear r7_a
            have r7_a:=fun o=>((Ext.refl w3).alloc o).keep r7
            clear hx hy;cases p1 with
            | false =>
              have HR:Hid (r=false):=hHd (by rw [HE.out,HQ.out];rfl);obtain rfl:=HR.out;clear HR HE HQ;(go_wp2_with fail);go_ret;exact⟨rfl,EX⟩
            | true =>
              have HR:Hid (r=true):=hHd (by rw [HE.out,HQ.out];rfl);obtain rfl:=HR.out;clear HR HE HQ;(go_wp2_with fail);go_ret;exact⟨rfl,EX⟩
        · by_cases h2 : kd = 2
          · skip
            obtain rfl:kd=2:=h2;obtain⟨q,hq⟩:∃q,q=(decide (pt=0)&&(decide (fr=0)&&decide (tt=0))):=⟨_,rfl⟩;have HQ:Hid (kb=(q&&(n1'&&decide (ot≠pa)))):=hHd (by rw [HK.out,hq];try rfl);clear HK
            have hql:∀w,(binOp .eql 125 (.agg #[.int .i64 2,.int .i64 pa,.int .i64 ot,.int .i64 fr,.int .i64 tt,.int .i64 pt,.int .i64 dl,.int .i64 dh]) (.agg #[.int .i64 2,.int .i64 pa,.int .i64 ot,.int .i64 0,.int .i64 0,.int .i64 0,.int .i64 dl,.int .i64 dh])).run Tryz.prog w= .ok (.bool q) w:=fun w=>by
              rw [eq_ent,hq];exact congrArg (fun z=>Result.ok (Value.bool z) w) (by rw [Bool.eq_iff_iff];simp only [decide_eq_true_eq,Bool.and_eq_true];constructor<;>intro hh<;>(first|omega|(simp_all;done)))
            clear hq;cases q with
            | false =>
              have HR:Hid (r=false):=hHd (by rw [HE.out,HQ.out];rfl);obtain rfl:=HR.out;clear HR HE HQ;(go_wp2_with fail);go_ret;exact⟨rfl,EX⟩
            | true =>
              (go_wp2_with fail);(with_reducible refine(H6.out _ EX).mono ?_);rintro e w3 ⟨rfl,hx⟩;have hy:Ext w2 w3:=EX;replace XX:=XX.trans hy;replace k0:=hy.keep k0;try clear k0_a
              have k0_a:=fun o=>((Ext.refl w3).alloc o).keep k0
              replace k1:=hy.keep k1;try clear k1_a
              have k1_a:=fun o=>((Ext.refl w3).alloc o).keep k1
              replace k2:=hy.keep k2;try clear k2_a
              have k2_a:=fun o=>((Ext.refl w3).alloc o).keep k2
              replace k3:=hy.keep k3;try clear k3_a
              have k3_a:=fun o=>((Ext.refl w3).alloc o).keep k3
              replace r0:=hy.keep r0;try clear r0_a
              have r0_a:=fun o=>((Ext.refl w3).alloc o).keep r0
              replace r1:=hy.keep r1;try clear r1_a
              have r1_a:=fun o=>((Ext.refl w3).alloc o).keep r1
              replace r2:=hy.keep r2;try clear r2_a
              have r2_a:=fun o=>((Ext.refl w3).alloc o).keep r2
              replace r3:=hy.keep r3;try clear r3_a
              have r3_a:=fun o=>((Ext.refl w3).alloc o).keep r3
              replace r4:=hy.keep r4;try clear r4_a
              have r4_a:=fun o=>((Ext.refl w3).alloc o).keep r4
              replace r5:=hy.keep r5;try clear r5_a
              have r5_a:=fun o=>((Ext.refl w3).alloc o).keep r5
              replace r6:=hy.keep r6;try clear r6_a
              have r6_a:=fun o=>((Ext.refl w3).alloc o).keep r6
              replace r7:=hy.keep r7;try clear r7_a
              have r7_a:=fun o=>((Ext.refl w3).alloc o).keep r7
              clear hx hy;cases n1' with
              | false =>
                have HR:Hid (r=false):=hHd (by rw [HE.out,HQ.out];rfl);obtain rfl:=HR.out;clear HR HE HQ;(go_wp2_with fail);go_ret;exact⟨rfl,EX⟩
              | true =>
                by_cases hne:ot=pa
                · have hd : (ot != pa) = false := by simp [hne]
                  obtain rfl:r=false:=by rw [HE.out,HQ.out];simp [hne]
                  clear HE HQ hne;(go_wp2_with fail);go_ret;exact⟨rfl,EX⟩
                · have hd : (ot != pa) = true := by simp [hne]
                  obtain rfl:r=true:=by rw [HE.out,HQ.out];simp [hne]
                  clear HE HQ hne;(go_wp2_with fail);go_ret;exact⟨rfl,EX⟩
          · by_cases h3 : kd = 3
            · replace HK : Hid (kb = ((decide (ot = 0) && (decide (pt = 0) && (decide (fr = 0) && decide (tt = 0)))) && true)) := hHd (by rw [HK.out, h3, Bool.and_true]; try rfl); obtain rfl : kd = 3 := h3; obtain ⟨q, hq⟩ : ∃ q, q = (decide (ot = 0) && (decide (pt = 0) && (decide (fr = 0) && decide (tt = 0)))) := ⟨_, rfl⟩; have HQ : Hid (kb = (q && (true))) := hHd (by rw [HK.out, hq]; try rfl); clear HK
              have hql:∀w,(binOp .eql 125 (.agg #[.int .i64 3,.int .i64 pa,.int .i64 ot,.int .i64 fr,.int .i64 tt,.int .i64 pt,.int .i64 dl,.int .i64 dh]) (.agg #[.int .i64 3,.int .i64 pa,.int .i64 0,.int .i64 0,.int .i64 0,.int .i64 0,.int .i64 dl,.int .i64 dh])).run Tryz.prog w= .ok (.bool q) w:=fun w=>by
                rw [eq_ent,hq];exact congrArg (fun z=>Result.ok (Value.bool z) w) (by rw [Bool.eq_iff_iff];simp only [decide_eq_true_eq,Bool.and_eq_true];constructor<;>intro hh<;>(first|omega|(simp_all;done)))
              clear hq;cases q with
              | false =>
                have HR:Hid (r=false):=hHd (by rw [HE.out,HQ.out];rfl);obtain rfl:=HR.out;clear HR HE HQ;(go_wp2_with fail);go_ret;exact⟨rfl,EX⟩
              | true =>
                have HR:Hid (r=true):=hHd (by rw [HE.out,HQ.out];rfl);obtain rfl:=HR.out;clear HR HE HQ;(go_wp2_with fail);go_ret;exact⟨rfl,EX⟩
            · obtain rfl : r = false := by rw [HE.out, HK.out]; simp [h0, h1, h2, h3]
              clear HE HK;have e0:(kd==0)=false:=by simp [h0]
              have e1:(kd==1)=false:=by simp [h1]
              have e2:(kd==2)=false:=by simp [h2]
              have e3:(kd==3)=false:=by simp [h3]
              (go_wp2_with fail);go_ret;exact⟨rfl,EX⟩
end Go.Proofs.YtegkdnfeceomdaaGreat
namespace Go.Hs
open Go.RowKit
def KC (w w':World):Prop:=∀k o v,w.cell? ⟨k,o,none⟩=some v→w'.cell? ⟨k,o,none⟩=some v
theorem Ext.kc {w w':World} (h:Ext w w'):KC w w':=fun _ _ _ hc=>h.keep hc
theorem KC.refl (w:World):KC w w:=fun _ _ _ h=>h
theorem KC.trans {a b c:World} (h:KC a b) (k:KC b c):KC a c:=fun _ _ _ x=>k _ _ _ (h _ _ _ x)
theorem IntAt.kc {w w':World} (h:KC w w') (b o:Nat) (x:Int) (hi:IntAt w b o x):IntAt w' b o x:=⟨h _ _ _ hi.1,hi.2⟩
theorem IntsV.kc {w w':World} {v:Value} {xs:List Int} (h:KC w w') (k:IntsV w v xs):IntsV w' v xs:=SliceV.ext (IntAt.kc h) k
theorem IntsAt.kc {w w':World} (h:KC w w') (b o:Nat) (xs:List Int) (k:IntsAt w b o xs):IntsAt w' b o xs:=let ⟨v,h1,h2⟩:=k;⟨v,h _ _ _ h1,h2.kc h⟩
theorem Ints2V.kc {w w':World} {v:Value} {xs:List (List Int)} (h:KC w w') (k:Ints2V w v xs):Ints2V w' v xs:=SliceV.ext (IntsAt.kc h) k
theorem Ints2At.kc {w w':World} (h:KC w w') (b o:Nat) (xs:List (List Int)) (k:Ints2At w b o xs):Ints2At w' b o xs:=let ⟨v,h1,h2⟩:=k;⟨v,h _ _ _ h1,h2.kc h⟩
theorem Ints3V.kc {w w':World} {v:Value} {xs:List (List (List Int))} (h:KC w w') (k:Ints3V w v xs):Ints3V w' v xs:=SliceV.ext (Ints2At.kc h) k
theorem TarC.kc {w w':World} {c3 c4 c5:Value} {t:Tar} (h:KC w w') (k:TarC w c3 c4 c5 t):TarC w' c3 c4 c5 t:=⟨k.f,k.l,k.weeks.kc h,k.counts.kc h,k.rates.kc h⟩
theorem TarAt.kc {w w':World} (h:KC w w') (b o:Nat) (t:Tar) (k:TarAt w b o t):TarAt w' b o t:=by
 obtain⟨c3,c4,c5,h0,h1,h2,h3,h4,h5,hc⟩:=k;exact⟨c3,c4,c5,h _ _ _ h0,h _ _ _ h1,h _ _ _ h2,h _ _ _ h3,h _ _ _ h4,h _ _ _ h5,hc.kc h⟩
theorem TarsV.kc {w w':World} {v:Value} {xs:List Tar} (h:KC w w') (k:TarsV w v xs):TarsV w' v xs:=SliceV.ext (TarAt.kc h) k
structure ExtBut (r:Nat) (w w':World):Prop where
 os:w'.os=w.os
 tape:w'.tape=w.tape
 output:w'.output=w.output
 size:w.heap.size≤w'.heap.size
 block:∀k,k<w.heap.size→k≠r→w'.heap[k]?=w.heap[k]?
theorem Ext.but {w w':World} (h:Ext w w') (r:Nat):ExtBut r w w':=⟨h.os,h.tape,h.output,h.size,fun k hk _=>h.block k hk⟩
theorem ExtBut.refl (r:Nat) (w:World):ExtBut r w w:=(Ext.refl w).but r
theorem ExtBut.trans {r:Nat} {a b c:World} (h:ExtBut r a b) (k:ExtBut r b c):ExtBut r a c:=
 ⟨k.os.trans h.os,k.tape.trans h.tape,k.output.trans h.output,Nat.le_trans h.size k.size,fun i hi hr=>(k.block i (Nat.lt_of_lt_of_le hi h.size) hr).trans (h.block i hi hr)⟩
theorem ExtBut.drew {r:Nat} {a b:World} (h:ExtBut r a b):ExtBut r a b.drew:=⟨h.os,h.tape,h.output,h.size,h.block⟩
theorem ExtBut.drewN {r:Nat} {a b:World} (h:ExtBut r a b) (n:Nat):ExtBut r a (b.drewN n):=⟨h.os,h.tape,h.output,h.size,h.block⟩
theorem ExtBut.ext {r:Nat} {a b c:World} (h:Ext a b) (hr:a.heap.size≤r) (k:ExtBut r b c):Ext a c:=
 ⟨k.os.trans h.os,k.tape.trans h.tape,k.output.trans h.output,Nat.le_trans h.size k.size,fun i hi=>(k.block i (Nat.lt_of_lt_of_le hi h.size) (by omega)).trans (h.block i hi)⟩
def NoCells (w:World) (r:Nat):Prop:=∀o,w.cell? ⟨r,o,none⟩=none
theorem ExtBut.kc {r:Nat} {w w':World} (h:ExtBut r w w') (hn:NoCells w r):KC w w':=fun k o v hc=>by
 have hk:k<w.heap.size:=lt_of_cell (a:=⟨k,o,none⟩) hc;have hr:k≠r:=by rintro rfl;rw [hn o] at hc;cases hc
 rw [World.cell?_of_block (w:=w) (a:=⟨k,o,none⟩) (h.block k hk hr)];exact hc
def payI (va ps:Int):Int:=va*ps / 100
def mask (p:Nat→Bool) (w:World):World:= { w with heap:=w.heap.mapIdx (fun i o=>if p i then .map #[] 0 else o) }
theorem mask_cell (p:Nat→Bool) (w:World) (b o:Nat):(mask p w).cell? ⟨b,o,none⟩=if p b then none else w.cell? ⟨b,o,none⟩:=by
 unfold World.cell? mask;simp only [Array.getElem?_mapIdx];cases h:w.heap[b]? with
 |none=>simp
 |some x=>cases hp:p b<;>simp
theorem mask_kc {p q:Nat→Bool} {w w':World} (hq:∀k,k<w.heap.size→p k=false→q k=false) (h:∀k,k<w.heap.size→p k=false→w'.heap[k]?=w.heap[k]?):KC (mask p w) (mask q w'):=by
  intro k o v hc
  rw [mask_cell] at hc⊢;cases hp:p k with
  |true=>rw [hp] at hc;simp at hc
  | false =>
    rw [hp] at hc;simp only [Bool.false_eq_true,if_false] at hc;have hk:k<w.heap.size:=lt_of_cell (a:=⟨k,o,none⟩) hc;rw [hq k hk hp];simp only [Bool.false_eq_true,if_false];rw [World.cell?_of_block (w:=w) (h k hk hp)];exact hc
theorem Ext.mask {p q:Nat→Bool} {w w':World} (h:Ext w w') (hq:∀k,k<w.heap.size→p k=false→q k=false):KC (mask p w) (mask q w'):=mask_kc hq (fun _ hk _=>h.heap hk)
theorem grown_ext {W w w':World} {o:Option Nat} (h:Ext W w) (hg:w.grownBy w' o) (ho:∀g,o=some g→W.heap.size≤g):Ext W w':=
 ⟨hg.os.trans h.os,hg.tape.trans h.tape,hg.output.trans h.output,Nat.le_trans h.size hg.size,fun i hi=>(hg.block i (Nat.lt_of_lt_of_le hi h.size) (fun e=>by have:=ho i e.symm;omega)).trans (h.block i hi)⟩
theorem own_open {w:World} {B e k n:Nat} {v:Value} {us:List Value} (h:w.ownsRow B e k v n us):
  (v= .slice none 0 0∧n=0)∨∃g cap,v= .slice (some ⟨g,0,none⟩) n cap∧B≤g∧g<w.heap.size∧n≤cap∧∀j u,us[j]?=some u→w.cell? ⟨g,j,none⟩=some u:=by
 have hc:=fun g=>h.cells (g:=g)
 rcases h.2 with h0|⟨g,cap,cur,rfl,hb,hg,hn,-,-,-⟩
 ·exact .inl h0
 ·refine .inr ⟨g, cap, rfl, hb, (Array.getElem?_eq_some_iff.1 hg).1, hn, fun j u hu => ?_⟩
  have:=hc g rfl j u hu
  have e:(⟨g,0,none⟩:Addr).add j=⟨g,j,none⟩:=by
   unfold Addr.add;split
   ·rename_i h;subst h;rfl
   ·simp
  rw [e] at this;exact this
theorem own_lt {w:World} {B e k n:Nat} {v:Value} {us:List Value} (h:w.ownsRow B e k v n us) {g:Nat} (hg:v.ownBlock=some g):B≤g∧g<w.heap.size:=by
 rcases own_open h with ⟨rfl,-⟩|⟨g',cap,rfl,hb,hl,-,-⟩
 ·simp [Value.ownBlock] at hg
 ·simp [Value.ownBlock] at hg
  subst hg;exact⟨hb,hl⟩
theorem own_keep {w w':World} {B e k n:Nat} {v:Value} {us:List Value} (h:w.ownsRow B e k v n us) (hk:∀g,v.ownBlock=some g→w'.heap[g]?=w.heap[g]?):w'.ownsRow B e k v n us:=by
 refine⟨h.1,?_⟩
 rcases h.2 with h0|⟨g,cap,cur,rfl,hb,hg,rest⟩
 ·exact .inl h0
 ·exact .inr ⟨g,cap,cur,rfl,hb,by rw [hk g rfl];exact hg,rest⟩
def cov (p:Nat→Bool) (v:Value):Nat→Bool:=fun k=>p k||(v.ownBlock==some k)
theorem cov_no {p:Nat→Bool} {v:Value} {k:Nat} :cov p v k=false↔p k=false∧v.ownBlock≠some k:=by
 unfold cov;simp
def Build1 {α:Type} (S:World→Value→α→Prop) (p:Nat→Bool) (B e:Nat) (w:World) (v:Value) (xs:List α):Prop:=
 ∃us:List Value,us.length=xs.length∧w.ownsRow B e 1 v xs.length us∧(∀k,v.ownBlock=some k→p k=false)∧∀i (h1:i<us.length) (h2:i<xs.length),S (mask (cov p v) w) us[i] xs[i]
section
variable {α:Type} {S:World→Value→α→Prop} (hS:∀ {w w':World} {v:Value} {x:α},KC w w'→S w v x→S w' v x) {p:Nat→Bool} {B e:Nat}
theorem Build1.nil (w:World):Build1 S p B e w (.slice none 0 0) []:=⟨[],rfl,World.ownsRow_nil _ _ _ _,fun _ h=>by simp [Value.ownBlock] at h,fun i h=>absurd h (Nat.not_lt_zero _)⟩
include hS in
theorem Build1.keep {w w':World} {v:Value} {xs:List α} (h:Build1 S p B e w v xs) (hk:∀k,k<w.heap.size→p k=false→w'.heap[k]?=w.heap[k]?):Build1 S p B e w' v xs:=by
 obtain⟨us,hl,ho,hp,hs⟩:=h;refine⟨us,hl,own_keep ho (fun g hg=>hk g (own_lt ho hg).2 (hp g hg)),hp,fun i h1 h2=>hS (mask_kc (fun _ _ h=>h) (fun k hk' hc=>hk k hk' (cov_no.1 hc).1)) (hs i h1 h2)⟩
include hS in
theorem Build1.next {w w':World} {v v' u:Value} {xs:List α} {y:α} {us:List Value} (hl:us.length=xs.length) (hp:∀k,v.ownBlock=some k→p k=false)
  (hs:∀i (h1:i<us.length) (h2:i<xs.length),S (mask (cov p v) w) us[i] xs[i]) (hu:S (mask (cov p v) w) u y) (ho:w'.ownsRow B e 1 v' (xs.length+1) (us++ [u])) (hg:w.grownBy w' v.ownBlock)
  (hat:v'.ownBlock=v.ownBlock∨v'.ownBlock=some w.heap.size) (hpw:p w.heap.size=false):Build1 S p B e w' v' (xs++ [y]):=by
 have hkc:KC (mask (cov p v) w) (mask (cov p v') w'):=by
  refine mask_kc (fun k hk hc=> ?_) (fun k hk hc=>hg.block k hk (fun e=>(cov_no.1 hc).2 e.symm))
  obtain⟨h1,h2⟩:=cov_no.1 hc;refine cov_no.2 ⟨h1,?_⟩
  rcases hat with h|h
  ·rw [h];exact h2
  ·rw [h];intro e;cases e;omega
 refine⟨us++ [u],by simp [hl],by simpa using ho,fun k hk=> ?_,fun i h1 h2=> ?_⟩
 ·rcases hat with h | h
  ·exact hp k (h ▸ hk)
  ·rw [h] at hk;cases hk;exact hpw
 ·by_cases hi : i < us.length
  ·rw [List.getElem_append_left hi,List.getElem_append_left (by omega)];exact hS hkc (hs i hi (by omega))
  ·have e1 : i = us.length := by simp at h1; omega
   subst e1;have e2:(us++ [u])[us.length]=u:=by simp
   have e3:(xs++ [y])[us.length]=y:=by simp [hl]
   rw [e2,e3];exact hS hkc hu
include hS in
theorem Build1.slice {w:World} {v:Value} {xs:List α} (h:Build1 S p B e w v xs) (hlen:xs.length≤1000):SliceV (fun w b o x=>∃v,w.cell? ⟨b,o,none⟩=some v∧S w v x) 1 (mask p w) v xs:=by
 obtain⟨us,hl,ho,hp,hs⟩:=h;rcases own_open ho with ⟨rfl,h0⟩|⟨g,cap,rfl,-,hg,hn,hc⟩
 ·have e:xs= []:=List.eq_nil_of_length_eq_zero h0;subst e;exact⟨none,0,rfl,Nat.le_refl _,by simp,fun i h=>absurd h (Nat.not_lt_zero _)⟩
 ·refine ⟨_, cap, rfl, hn, by omega, fun i hi => ⟨g, 0, rfl, us[i]'(by omega), ?_, ?_⟩⟩
  ·rw [mask_cell,hp g rfl];simp only [Bool.false_eq_true,if_false];have:=hc i (us[i]'(by omega)) (by simp);simpa using this
  ·exact hS (mask_kc (fun k _ hc=>(cov_no.1 hc).1) (fun _ _ _=>rfl)) (hs i (by omega) hi)
end
end Go.Hs
namespace Go.Proofs.YtegkdnfeceomdaaGreat
open Go.RowKit Go.Hs
attribute [local irreducible] World.setCell World.alloc
theorem add_none' (b o n:Nat):(⟨b,o,none⟩:Addr).add n=⟨b,o+n,none⟩:=by
 unfold Addr.add;split
 ·rename_i h;subst h;rfl
 ·rfl
theorem run_append_none {P:Program} (w:World) (t ty e:TypeId) (i:TypeInfo) (ht:P.underlying t=some (.slice e)) (hi:P.info? e=some i) (base b:Option Addr) (sLen sCap c:Nat) (hle:sLen≤sCap):
  (Builtin.append_ #[t,t] ty #[.slice base sLen sCap,.slice b 0 c]).run P w= .ok (.slice base sLen sCap) w:=by
 cases base<;>cases b<;>simp [Builtin.append_,run_underlying ht,sizeOf,typeInfo,hi,Builtin.lenOf,hle,Builtin.firstCells,loadCells,loadCellsFrom,storeCells]
theorem wpList_append_none {P:Program} {w:World} {ops:Array Oper} {rest:List Oper} {o:Oper} {a:Act} {Q:Exit→Act→World→Prop} (hgd:o.guard=none) (s x:Operand) (t:TypeId)
  (ho:o.op= .call { callee:= .builtin .append,args:= #[s,x],argTypes:= #[t,t] }) (e:TypeId) (i:TypeInfo) (ht:P.underlying t=some (.slice e)) (hi:P.info? e=some i)
  (base b:Option Addr) (sLen sCap c:Nat) (hle:sLen≤sCap) (hs:a.eval s= .slice base sLen sCap) (hx:a.eval x= .slice b 0 c)
  (h:wpList P ops Q rest (a.put o.dst (.slice base sLen sCap)) w):wpList P ops Q (o::rest) a w:=
 wpList_plain hgd fun _ hK=>by
  have hr:=run_append_none (P:=P) w t o.type e i ht hi base b sLen sCap c hle;unfold Oper.wp execOp;simp only [ho,resolve,invoke,builtin,Sem.run_bind,Sem.run_pure,Result.andThen_ok,List.map_toArray,List.map_cons,List.map_nil,hs,hx,hr];exact hK _ _ h
theorem info_int:(Tryz.prog.info? 3).map (fun i=>(i.zero,i.size,i.bytes))=some (some (.int .i64 0),1,8):=by kernel_rfl
end Go.Proofs.YtegkdnfeceomdaaGreat
namespace Go.Hs
open Go.RowKit
theorem flat_at {α:Type} {C:α→List Value} {k:Nat} (hC:∀x,(C x).length=k) (xs:List α) (i j:Nat) (h:i<xs.length) (hj:j<k):(xs.flatMap C)[i*k+j]?=(C xs[i])[j]?:=by
  induction xs generalizing i with
  |nil=>simp at h
  | cons x r ih =>
    cases i with
    |zero=>rw [Nat.zero_mul,Nat.zero_add,List.flatMap_cons,List.getElem?_append_left (by rw [hC];exact hj)];rfl
    | succ i =>
      have e:(i+1)*k=i*k+k:=Nat.succ_mul i k;rw [List.flatMap_cons,List.getElem?_append_right (by rw [hC];omega),hC,show (i+1)*k+j - k=i*k+j by omega,ih i (by simpa using h)];simp
def Own {α:Type} (k:Nat) (C:α→List Value) (B e:Nat) (w:World) (v:Value) (xs:List α):Prop:=w.ownsRow B e k v xs.length (xs.flatMap C)
section
variable {α:Type} {k:Nat} {C:α→List Value} {B e:Nat} {w w':World} {v v':Value} {xs:List α}
theorem Own.nil (w:World):Own k C B e w (.slice none 0 0) []:=World.ownsRow_nil _ _ _ _
theorem Own.keep (h:Own k C B e w v xs) (hk:∀g,v.ownBlock=some g→w'.heap[g]?=w.heap[g]?):Own k C B e w' v xs:=own_keep h hk
theorem Own.ext (h:Own k C B e w v xs) (hx:Ext w w'):Own k C B e w' v xs:=own_keep h (fun _ hg=>hx.heap (own_lt h hg).2)
theorem Own.next {y:α} {n:Nat} {us:List Value} (ho:w'.ownsRow B e k v' n us) (hn:n=xs.length+1) (hu:us=xs.flatMap C++C y):Own k C B e w' v' (xs++ [y]):=by
 subst hn hu;unfold Own;simpa using ho
theorem Own.at (hC:∀x,(C x).length=k) {a:Option Addr} {n q:Nat} (h:Own k C B e w (.slice a n q) xs) {i:Nat} (hi:i<xs.length):∃g,a=some ⟨g,0,none⟩∧B≤g∧g<w.heap.size∧∀(j:Nat) (u:Value),(C xs[i])[j]?=some u→w.cell? ⟨g,i*k+j,none⟩=some u:=by
 rcases own_open h with ⟨-,h0⟩|⟨g,cap,he,hb,hg,hn,hc⟩
 ·omega
 ·simp only [Value.slice.injEq] at he; obtain ⟨rfl, -, -⟩ := he; refine ⟨g, rfl, hb, hg, fun j u hu => hc _ _ ?_⟩
  have hj:j<k:=by
   rcases Nat.lt_or_ge j k with h|h
   ·exact h
   ·rw [List.getElem?_eq_none (by rw [hC];exact h)] at hu;cases hu
  rw [flat_at hC xs i j hi hj];exact hu
theorem Own.len {a:Option Addr} {n q:Nat} (h:Own k C B e w (.slice a n q) xs):n=xs.length∧n≤q:=by
 rcases own_open h with ⟨he,h0⟩|⟨g,cap,he,-,-,hn,-⟩
 ·simp only [Value.slice.injEq] at he;obtain⟨-,rfl,rfl⟩:=he;exact⟨h0.symm,Nat.le_refl _⟩
 ·simp only [Value.slice.injEq] at he;obtain⟨-,rfl,rfl⟩:=he;exact⟨rfl,hn⟩
theorem Own.base {D:Nat} (h:Own k C B e w v xs) (hd:D≤B):Own k C D e w v xs:=by
 unfold Hs.Own at h⊢;refine⟨h.1,?_⟩
 rcases h.2 with h|⟨g,cap,cur,h1,h2,h3⟩
 ·exact .inl h
 ·exact .inr ⟨g,cap,cur,h1,Nat.le_trans hd h2,h3⟩
end
theorem cells_two {w wa:World} {b:Nat} {x y:Value} {t:TypeId} (h:Ext (w.alloc (.cells #[x,y] t)) wa) (hb:b=w.heap.size):∀j u,([x,y]:List Value)[j]?=some u→wa.cell? ((⟨b,0,none⟩:Addr).add j)=some u:=by
 subst hb;intro j u hj
 have e:∀j,(⟨w.heap.size,0,none⟩:Addr).add j=⟨w.heap.size,j,none⟩:=fun j=>by unfold Addr.add;split<;>simp_all
 rw [e];rcases j with _|_|j
 ·cases hj;exact h.keep (by simp [go_sem])
 ·cases hj;exact h.keep (by simp [go_sem])
 ·simp at hj
end Go.Hs
