/- Bundled: what the texts HC HJ say one after another. -/
import Derived.Test.YtegkdnfeceomdaaGreatKDA2
import Derived.Test.YtegkdnfeceomdaaGreatKDA5
import Derived.BigRegion
import Derived.BigQuiet
import Derived.Deep.Quiet
import Derived.Deep.QuietTactic
import Derived.Test.YtegkdnfeceomdaaGreatKDA4
import Derived.Test.YtegkdnfeceomdaaGreatKDA6
import Derived.Test.YtegkdnfeceomdaaGreatKDA8
import Derived.Test.YtegkdnfeceomdaaGreatKDA17
import Derived.Laws.MakeOwn
import Derived.Test.YtegkdnfeceomdaaGreatKDA26
set_option maxRecDepth 100000
set_option maxHeartbeats 16000000
set_option linter.unusedSimpArgs false
set_option linter.unusedVariables false
namespace Go.Hs
open Go.RowKit
theorem daysB_eq (b:Bk) (lo hi:Int):daysB b lo hi=(decide (0≤lo)&&(decide (lo≤hi)&&decide (hi≤b.last))):=by
 rw [Bool.eq_iff_iff,daysB_iff];simp
def kindR (b:Bk) (e:Ent):Bool:=
 if e.kind=0 then ownerB b e.frm&&(ownerB b e.to&&(decide (e.frm≠e.to)&&(decide (e.part=0)&&decide (e.other=0))))
 else if e.kind=1 then (decide (e.frm=0)&&decide (e.to=0))&&(decide (e.other=0)&&inR e.part 1 1000)
 else if e.kind=2 then (decide (e.frm=0)&&decide (e.to=0))&&(decide (e.part=0)&&(numberB b e.other&&decide (e.other≠e.parcel)))
 else if e.kind=3 then (decide (e.frm=0)&&decide (e.to=0))&&(decide (e.part=0)&&decide (e.other=0))
 else false
theorem kindR_eq (b:Bk) (e:Ent):kindB b e=kindR b e:=by
 unfold kindB kindR;split
 ·cases ownerB b e.frm<;>cases ownerB b e.to<;>cases decide (e.frm≠e.to)<;>cases decide (e.part=0)<;>cases decide (e.other=0)<;>rfl
 ·split
  ·cases decide (e.frm=0)<;>cases decide (e.to=0)<;>cases inR e.part 1 1000<;>cases decide (e.other=0)<;>rfl
  ·split
   ·cases decide (e.frm=0)<;>cases decide (e.to=0)<;>cases decide (e.part=0)<;>cases numberB b e.other<;>cases decide (e.other≠e.parcel)<;>rfl
   ·split
    ·cases decide (e.frm=0)<;>cases decide (e.to=0)<;>cases decide (e.part=0)<;>cases decide (e.other=0)<;>rfl
    ·rfl
end Go.Hs
namespace Go.Proofs.YtegkdnfeceomdaaGreat
open Go.RowKit Go.Hs
attribute [local irreducible] World.setCell World.alloc
theorem In_h (n lo hi : Int) (w : World) :
    Calls Tryz.prog 21 #[.int .i64 n,.int .i64 lo,.int .i64 hi] w fun e w'=>e= .returned (.bool (inR n lo hi))∧Ext w w':=by
  by_cases h:lo≤n
  · go_enter Tryz.func21, Tryz.ntmps21
    go_wp2
    go_ret;exact⟨ret_bool (by simp [inR,h]),Ext.refl _⟩
  · go_enter Tryz.func21, Tryz.ntmps21
    go_wp2
    go_ret
    exact ⟨ret_bool (by have : ¬ lo ≤ n := by omega
                        simp [inR,this]),Ext.refl _⟩
theorem IsDays_h (b:Bk) (v:Value) (lo hi:Int) (w:World) (hv:BkV w v b):
  Calls Tryz.prog 158 #[v,.agg #[.int .i64 lo,.int .i64 hi]] w fun e w'=>e= .returned (.bool (daysB b lo hi))∧Ext w w':=by
 obtain⟨a1,c1,a2,c2,rfl,hp,he,hp1,he1,hp2,he2⟩:=hv.open;have HE:=hHd (daysB_eq b lo hi);clear hv hp he;generalize daysB b lo hi=r at*;unfold bkV at*;generalize b.pars.length=n1 at*;generalize b.ents.length=n2 at*;generalize b.last=last at*;generalize b.owners=owners at*;by_cases h1:0≤lo
 ·by_cases h2 : lo ≤ hi
  ·by_cases h3 : hi ≤ last
   ·have HR : Hid (r = true) := hHd (by rw [HE.out]; simp [h1, h2, h3]); clear HE; go_enter Tryz.func158, Tryz.ntmps158
    (go_wp2_with fail);go_ret;exact⟨ret_bool HR.out.symm,EX⟩
   ·have HR : Hid (r = false) := hHd (by rw [HE.out]; simp [h3]); clear HE; go_enter Tryz.func158, Tryz.ntmps158
    (go_wp2_with fail);go_ret;exact⟨ret_bool HR.out.symm,EX⟩
  ·have HR : Hid (r = false) := hHd (by rw [HE.out]; simp [h2]); clear HE; go_enter Tryz.func158, Tryz.ntmps158
   (go_wp2_with fail);go_ret;exact⟨ret_bool HR.out.symm,EX⟩
 ·have HR : Hid (r = false) := hHd (by rw [HE.out]; simp [h1]); clear HE; go_enter Tryz.func158, Tryz.ntmps158
  (go_wp2_with fail);go_ret;exact⟨ret_bool HR.out.symm,EX⟩
theorem Numbers_h (b:Bk) (v:Value) (n:Nat) (w:World) (hv:BkV w v b) (hn:n≤b.ents.length):
  Calls Tryz.prog 160 #[v,.int .i64 n] w fun e w'=>e= .returned (.int .i64 (numsTo b n))∧Ext w w':=by
 obtain⟨a1,c1,a2,c2,rfl,hp,he,hp1,he1,hp2,he2⟩:=hv.open;clear hv hp;have HC:Hid (∀W,Ext w W→Cells8 W a2 (b.ents.map Ent.c)):=hHd (fun W hx=>he.ext hx);have HY:=hHd (fun k h hk=>numsTo_yes (b:=b) (k:=k) h hk);have HN:=hHd (fun k h hk=>numsTo_no (b:=b) (k:=k) h hk);have HL:=hHd (numsTo_le b);have HZ:Hid (numsTo b 0=b.pars.length):=hHd (by simp [numsTo]);clear he;unfold bkV;generalize b.last=last at*;generalize b.owners=owners at*;go_enter Tryz.func160,Tryz.ntmps160
 (go_wp2_with fail);have HQ:Hid (∀W,Ext (w.alloc (.cells #[.int .i64 last,.int .i64 owners,.slice a1 b.pars.length c1,.slice a2 b.ents.length c2] 35)) W→W.cell? ⟨w.heap.size,3,none⟩=some (.slice a2 b.ents.length c2)∧Ext w W):=hHd (fun W hx=>⟨hx.keep (by simp [go_sem]),Ext.trans EX hx⟩);generalize (w.alloc (.cells #[.int .i64 last,.int .i64 owners,.slice a1 b.pars.length c1,.slice a2 b.ents.length c2] 35))=W0 at*;go_loopw [5,6] (fun s3 s12 wr=>∃k:Nat,k≤n∧s12= .int .i64 k∧s3= .int .i64 (numsTo b k)∧Ext W0 wr) (fun _ s _=>n - (intOf s).toNat)
 case atStart=>exact⟨0,Nat.zero_le _,rfl,by rw [HZ.out],Ext.refl _⟩
 case round=>
  obtain⟨k,hk,rfl,rfl,hx⟩:=hrel;obtain⟨wo,rfl⟩:∃x,x=wr:=⟨_,rfl⟩;by_cases hlt:k<n
  ·have hlb : k < b.ents.length := by omega
   have q3:=(HQ.out wo hx).1;obtain⟨b',off,rfl,hce⟩:=HC.out wo (HQ.out wo hx).2 k (by simpa using hlb);have e1:(b.ents.map Ent.c)[k]'(by simpa using hlb)=(b.ents[k]).c:=by simp
   rw [e1] at hce;obtain⟨m0,m1,m2,m3,m4,m5,m6,m7⟩:=hce;simp only [Ent.c] at m0 m1 m2 m3 m4 m5 m6 m7;clear e1;have hle:=HL.out k;have hk0:(0:Int)≤(k:Int):=by omega
   have hk1:(k:Int)<(b.ents.length:Int):=by omega
   have hk2:(k:Int)<(n:Int):=by omega
   have hw:IntKind.i64.wrap ((numsTo b k:Int)+1)=(numsTo b k:Int)+1:=IntWalk.i64_in _ (by omega);by_cases hq:b.ents[k].kind=1
   ·have HS := hHd (HY.out k hlb hq); have hd : (b.ents[k].kind == 1) = true := by rw [beq_iff_eq]; exact hq
    rw [hq] at m0;clear hq hd;(go_wp2_with fail);go_roundw
    case rel=>exact⟨k+1,by omega,by go_num,by rw [HS.out];go_num,hx⟩
    case measure=>simp [intOf];omega
   ·have HS := hHd (HN.out k hlb hq); have hd : (b.ents[k].kind == 1) = false := by rw [beq_eq_false_iff_ne]; exact hq
    (go_wp2_with fail);go_roundw
    case rel=>exact⟨k+1,by omega,by go_num,by rw [HS.out],hx⟩
    case measure=>simp [intOf];omega
  ·obtain rfl : k = n := by omega
   (go_wp2_with fail);go_ret;exact⟨rfl,(HQ.out wo hx).2⟩
theorem Every_h (b:Bk) (v:Value) (w:World) (hv:BkV w v b):
  Calls Tryz.prog 123 #[v] w fun e w'=>e= .returned (.int .i64 (numsB b))∧Ext w w':=by
 have HN:=hHd (fun W (hx:Ext w W)=>Numbers_h b v b.ents.length W (hv.ext hx) (Nat.le_refl _));have HE:Hid (numsB b=numsTo b b.ents.length):=rfl;generalize numsB b=r at*;generalize numsTo b b.ents.length=r2 at*;obtain rfl:=HE.out;clear HE;obtain⟨a1,c1,a2,c2,rfl,hp,he,hp1,he1,hp2,he2⟩:=hv.open;clear hv hp he;unfold bkV at*;generalize b.pars.length=n1 at*;generalize b.ents.length=n2 at*;generalize b.last=last at*;generalize b.owners=owners at*;go_enter Tryz.func123,Tryz.ntmps123
 (go_wp2_with fail);(with_reducible refine(HN.out _ EX).mono ?_);rintro e w1 ⟨rfl,hx1⟩;(go_wp2_with fail);go_ret;exact⟨rfl,EX⟩
theorem IsEntry_h (b : Bk) (v : Value) (e : Ent) (w : World) (hv : BkV w v b) (ho : 1 ≤ b.owners ∧ b.owners ≤ 4) :
    Calls Tryz.prog 159 #[v,e.c.val] w fun e' w'=>e'= .returned (.bool (entB b e))∧Ext w w':=by
  have HE:Hid (entB b e=((numberB b e.parcel&&daysB b e.dlo e.dhi)&&kindB b e)):=rfl;have HK:=hHd (kindR_eq b e);rw [show kindR b e=(if e.kind=0 then ownerB b e.frm&&(ownerB b e.to&&(decide (e.frm≠e.to)&&(decide (e.part=0)&&decide (e.other=0)))) else if e.kind=1 then (decide (e.frm=0)&&decide (e.to=0))&&(decide (e.other=0)&&inR e.part 1 1000) else if e.kind=2 then (decide (e.frm=0)&&decide (e.to=0))&&(decide (e.part=0)&&(numberB b e.other&&decide (e.other≠e.parcel))) else if e.kind=3 then (decide (e.frm=0)&&decide (e.to=0))&&(decide (e.part=0)&&decide (e.other=0)) else false) from rfl] at HK;have H1:=hHd (fun W (hx:Ext w W)=>IsDays_h b v e.dlo e.dhi W (hv.ext hx));have H2:=hHd (fun W (hx:Ext w W)=>Every_h b v W (hv.ext hx));have H3:Hid (∀W,Calls Tryz.prog 21 #[.int .i64 e.parcel,.int .i64 0,.int .i64 ((numsB b:Int) - 1)] W fun e' w'=>e'= .returned (.bool (numberB b e.parcel))∧Ext W w'):=hHd (In_h e.parcel 0 ((numsB b:Int) - 1));have H4:Hid (∀W,Calls Tryz.prog 21 #[.int .i64 e.frm,.int .i64 0,.int .i64 (b.owners - 1)] W fun e' w'=>e'= .returned (.bool (ownerB b e.frm))∧Ext W w'):=hHd (In_h e.frm 0 (b.owners - 1));have H5:Hid (∀W,Calls Tryz.prog 21 #[.int .i64 e.to,.int .i64 0,.int .i64 (b.owners - 1)] W fun e' w'=>e'= .returned (.bool (ownerB b e.to))∧Ext W w'):=hHd (In_h e.to 0 (b.owners - 1));have H6:=hHd (In_h e.part 1 1000);have H7:Hid (∀W,Calls Tryz.prog 21 #[.int .i64 e.other,.int .i64 0,.int .i64 ((numsB b:Int) - 1)] W fun e' w'=>e'= .returned (.bool (numberB b e.other))∧Ext W w'):=hHd (In_h e.other 0 ((numsB b:Int) - 1));have hle:numsB b≤b.pars.length+b.ents.length:=numsTo_le b _;generalize entB b e=r at*;generalize kindB b e=kb at*;generalize numberB b e.parcel=b1 at*;generalize daysB b e.dlo e.dhi=b2 at*;generalize ownerB b e.frm=o1 at*;generalize ownerB b e.to=o2 at*
  generalize inR e.part 1 1000=p1 at*;generalize numberB b e.other=n1' at*;generalize numsB b=nn at*;obtain⟨a1,c1,a2,c2,rfl,hp,he,hp1,he1,hp2,he2⟩:=hv.open;have hwn:IntKind.i64.wrap ((nn:Int) - 1)=(nn:Int) - 1:=IntWalk.i64_in _ (by omega);have hwo:IntKind.i64.wrap (b.owners - 1)=b.owners - 1:=IntWalk.i64_in _ (by omega);clear hv hp he ho hle hp1 he1 hp2 he2;unfold bkV at*;generalize b.pars.length=n1 at*;generalize b.ents.length=n2 at*;generalize b.last=last at*;generalize b.owners=owners at*;obtain⟨kd,pa,ot,fr,tt,pt,dl,dh⟩:=e;simp only at*;obtain⟨z1,hz1⟩:∃q:Bool,decide (fr=0)=q:=⟨_,rfl⟩;have gz1:(fr==0)=z1:=by rw [←hz1,Bool.eq_iff_iff];simp
  rw [hz1] at HK;clear hz1;obtain⟨z2,hz2⟩:∃q:Bool,decide (tt=0)=q:=⟨_,rfl⟩;have gz2:(tt==0)=z2:=by rw [←hz2,Bool.eq_iff_iff];simp
  rw [hz2] at HK;clear hz2;obtain⟨z3,hz3⟩:∃q:Bool,decide (ot=0)=q:=⟨_,rfl⟩;have gz3:(ot==0)=z3:=by rw [←hz3,Bool.eq_iff_iff];simp
  rw [hz3] at HK;clear hz3;obtain⟨z4,hz4⟩:∃q:Bool,decide (pt=0)=q:=⟨_,rfl⟩;have gz4:(pt==0)=z4:=by rw [←hz4,Bool.eq_iff_iff];simp
  rw [hz4] at HK;clear hz4;obtain⟨z5,hz5⟩:∃q:Bool,decide (fr≠tt)=q:=⟨_,rfl⟩;have gz5:(fr !=tt)=z5:=by rw [←hz5,Bool.eq_iff_iff];simp
  rw [hz5] at HK;clear hz5;obtain⟨z6,hz6⟩:∃q:Bool,decide (ot≠pa)=q:=⟨_,rfl⟩;have gz6:(ot !=pa)=z6:=by rw [←hz6,Bool.eq_iff_iff];simp
  rw [hz6] at HK;clear hz6;cases b2 with
  | false =>
    obtain rfl:r=false:=by rw [HE.out,Bool.and_false,Bool.false_and]
    clear HE HK;go_enter Tryz.func159,Tryz.ntmps159
    (go_wp2_with fail);obtain⟨W,hW,X,HS,HSf,HSz⟩:=bx4_8 w 35 (.int .i64 last) (.int .i64 owners) (.slice a1 n1 c1) (.slice a2 n2 c2) 217 (.int .i64 kd) (.int .i64 pa) (.int .i64 ot) (.int .i64 fr) (.int .i64 tt) (.int .i64 pt) (.int .i64 dl) (.int .i64 dh);rw [hW];clear hW;refine wp_region_quiet (C:=Ext W) (by kernel_rfl) (by kernel_rfl) (Ext.drew EX) ?_
    rw [tl]
    repeat (first
      |go_big_quiet_skip
      | (go_big_quiet_want
         first
          |(go_big_quiet_op;go_big_quiet_on)
          | (apply Exists.intro
             refine⟨fun w' hxw=> ?_,?_⟩
             focus (obtain⟨⟨q0,q1,q2,q3,q4,q5,q6,q7,q8,q9,q10,q11⟩,-⟩:=HS.out w' hxw;go_simp;first|exact rfl|(first|(go_at_call 158;(with_reducible refine(H1.out w' (X.trans hxw)).mono ?_;exact fun e w'' h=>⟨h.1,hxw.trans h.2⟩))|(go_at_call 123;(with_reducible refine(H2.out w' (X.trans hxw)).mono ?_;exact fun e w'' h=>⟨h.1,hxw.trans h.2⟩))|(go_at_call 21;first|(with_reducible refine(H3.out w').mono ?_;exact fun e w'' h=>⟨h.1,hxw.trans h.2⟩)|(with_reducible refine(H7.out w').mono ?_;exact fun e w'' h=>⟨h.1,hxw.trans h.2⟩))))
             simp only [Act.put,List.setIfInBounds_toArray,List.set_cons_zero,List.set_cons_succ];go_big_quiet_on)))
    refine wpQuiet_nil ?_
    intro w2 hx2
    (go_wp2_with fail);go_ret;exact⟨rfl,by have:=X.trans hx2;exact EX⟩
  | true =>
    cases b1 with
    | false =>
      obtain rfl:r=false:=HE.out;clear HE HK;go_enter Tryz.func159,Tryz.ntmps159
      (go_wp2_with fail);obtain⟨W,hW,X,HS,HSf,HSz⟩:=bx4_8 w 35 (.int .i64 last) (.int .i64 owners) (.slice a1 n1 c1) (.slice a2 n2 c2) 217 (.int .i64 kd) (.int .i64 pa) (.int .i64 ot) (.int .i64 fr) (.int .i64 tt) (.int .i64 pt) (.int .i64 dl) (.int .i64 dh);rw [hW];clear hW;refine wp_region_quiet (C:=Ext W) (by kernel_rfl) (by kernel_rfl) (Ext.drew EX) ?_
      rw [tl]
      repeat (first
        |go_big_quiet_skip
        | (go_big_quiet_want
           first
            |(go_big_quiet_op;go_big_quiet_on)
            | (apply Exists.intro
               refine⟨fun w' hxw=> ?_,?_⟩
               focus (obtain⟨⟨q0,q1,q2,q3,q4,q5,q6,q7,q8,q9,q10,q11⟩,-⟩:=HS.out w' hxw;go_simp;first|exact rfl|(first|(go_at_call 158;(with_reducible refine(H1.out w' (X.trans hxw)).mono ?_;exact fun e w'' h=>⟨h.1,hxw.trans h.2⟩))|(go_at_call 123;(with_reducible refine(H2.out w' (X.trans hxw)).mono ?_;exact fun e w'' h=>⟨h.1,hxw.trans h.2⟩))|(go_at_call 21;first|(with_reducible refine(H3.out w').mono ?_;exact fun e w'' h=>⟨h.1,hxw.trans h.2⟩)|(with_reducible refine(H7.out w').mono ?_;exact fun e w'' h=>⟨h.1,hxw.trans h.2⟩))))
               simp only [Act.put,List.setIfInBounds_toArray,List.set_cons_zero,List.set_cons_succ];go_big_quiet_on)))
      refine wpQuiet_nil ?_
      intro w2 hx2
      (go_wp2_with fail);go_ret;exact⟨rfl,by have:=X.trans hx2;exact EX⟩
    | true =>
      replace HE:Hid (r=kb):=hHd (by rw [HE.out];rfl);go_enter Tryz.func159,Tryz.ntmps159
      (go_wp2_with fail);obtain⟨W,hW,X,HS,HSf,HSz⟩:=bx4_8 w 35 (.int .i64 last) (.int .i64 owners) (.slice a1 n1 c1) (.slice a2 n2 c2) 217 (.int .i64 kd) (.int .i64 pa) (.int .i64 ot) (.int .i64 fr) (.int .i64 tt) (.int .i64 pt) (.int .i64 dl) (.int .i64 dh);rw [hW];clear hW;refine wp_region_quiet (C:=Ext W) (by kernel_rfl) (by kernel_rfl) (Ext.drew EX) ?_
      rw [tl]
      repeat (first
        |go_big_quiet_skip
        | (go_big_quiet_want
           first
            |(go_big_quiet_op;go_big_quiet_on)
            | (apply Exists.intro
               refine⟨fun w' hxw=> ?_,?_⟩
               focus (obtain⟨⟨q0,q1,q2,q3,q4,q5,q6,q7,q8,q9,q10,q11⟩,-⟩:=HS.out w' hxw;go_simp;first|exact rfl|(first|(go_at_call 158;(with_reducible refine(H1.out w' (X.trans hxw)).mono ?_;exact fun e w'' h=>⟨h.1,hxw.trans h.2⟩))|(go_at_call 123;(with_reducible refine(H2.out w' (X.trans hxw)).mono ?_;exact fun e w'' h=>⟨h.1,hxw.trans h.2⟩))|(go_at_call 21;first|(with_reducible refine(H3.out w').mono ?_;exact fun e w'' h=>⟨h.1,hxw.trans h.2⟩)|(with_reducible refine(H7.out w').mono ?_;exact fun e w'' h=>⟨h.1,hxw.trans h.2⟩))))
               simp only [Act.put,List.setIfInBounds_toArray,List.set_cons_zero,List.set_cons_succ];go_big_quiet_on)))
      refine wpQuiet_nil ?_
      intro w2 hx2
      have XX:Ext W w2:=hx2;obtain⟨⟨q0,q1,q2,q3,q4,q5,q6,q7,q8,q9,q10,q11⟩,-⟩:=HS.out w2 XX;clear hx2;cases z1 with
      | false =>
        by_cases h0:kd=0
        · skip
          obtain rfl:kd=0:=h0;have HQ:Hid (kb=(o1&&(o2&&(z5&&(z4&&z3))))):=hHd (by rw [HK.out];rfl);clear HK;(go_wp2_with fail);(with_reducible refine(H4.out _).mono ?_);rintro e w3 ⟨rfl,hx⟩;replace XX:=XX.trans hx;clear q0 q1 q2 q3 q4 q5 q6 q7 q8 q9 q10 q11;obtain⟨⟨q0,q1,q2,q3,q4,q5,q6,q7,q8,q9,q10,q11⟩,-⟩:=HS.out _ XX;clear hx;cases o1 with
          | false =>
            obtain rfl:r=false:=by rw [HE.out,HQ.out];first|rfl|simp
            clear HE HQ;(go_wp2_with fail);go_ret;exact⟨rfl,by have:=X.trans XX;exact EX⟩
          | true =>
            (go_wp2_with fail);(with_reducible refine(H5.out _).mono ?_);rintro e w4 ⟨rfl,hx⟩;replace XX:=XX.trans hx;clear q0 q1 q2 q3 q4 q5 q6 q7 q8 q9 q10 q11;obtain⟨⟨q0,q1,q2,q3,q4,q5,q6,q7,q8,q9,q10,q11⟩,-⟩:=HS.out _ XX;clear hx;cases o2 with
            | false =>
              obtain rfl:r=false:=by rw [HE.out,HQ.out];first|rfl|simp
              clear HE HQ;(go_wp2_with fail);go_ret;exact⟨rfl,by have:=X.trans XX;exact EX⟩
            | true =>
              cases z5 with
              | false =>
                obtain rfl:r=false:=by rw [HE.out,HQ.out];first|rfl|simp
                clear HE HQ;(go_wp2_with fail);go_ret;exact⟨rfl,by have:=X.trans XX;exact EX⟩
              | true =>
                cases z4 with
                | false =>
                  obtain rfl:r=false:=by rw [HE.out,HQ.out];first|rfl|simp
                  clear HE HQ;(go_wp2_with fail);go_ret;exact⟨rfl,by have:=X.trans XX;exact EX⟩
                | true =>
                  cases z3 with
                  | false =>
                    obtain rfl:r=false:=by rw [HE.out,HQ.out];first|rfl|simp
                    clear HE HQ;(go_wp2_with fail);go_ret;exact⟨rfl,by have:=X.trans XX;exact EX⟩
                  | true =>
                    obtain rfl:r=true:=by rw [HE.out,HQ.out];first|rfl|simp
                    clear HE HQ;(go_wp2_with fail);go_ret;exact⟨rfl,by have:=X.trans XX;exact EX⟩
        · by_cases h1 : kd = 1
          · have e0 : (kd == 0) = false := by simp [h0]
            subst h1;have h1:(1:Int)=1:=rfl;have HQ:Hid (kb=((false&&z2)&&(z3&&p1))):=hHd (by rw [HK.out];rfl);clear HK;obtain rfl:r=false:=by rw [HE.out,HQ.out];first|rfl|simp
            clear HE HQ;(go_wp2_with fail);go_ret;exact⟨rfl,by have:=X.trans XX;exact EX⟩
          · by_cases h2 : kd = 2
            · skip
              subst h2;have HQ:Hid (kb=((false&&z2)&&(z4&&(n1'&&z6)))):=hHd (by rw [HK.out];rfl);clear HK;obtain rfl:r=false:=by rw [HE.out,HQ.out];first|rfl|simp
              clear HE HQ;(go_wp2_with fail);clear q0 q1 q2 q3 q4 q5 q6 q7 q8 q9 q10 q11;refine wp_region_quiet (C:=Ext w2) (by kernel_rfl) (by kernel_rfl) (Ext.drew EX) ?_
              rw [tl]
              repeat (first
                |go_big_quiet_skip
                | (go_big_quiet_want
                   first
                    |(go_big_quiet_op;go_big_quiet_on)
                    | (apply Exists.intro
                       refine⟨fun w' hxw=> ?_,?_⟩
                       focus (obtain⟨⟨q0,q1,q2,q3,q4,q5,q6,q7,q8,q9,q10,q11⟩,-⟩:=HS.out w' (XX.trans hxw);go_simp;first|exact rfl|(first|(go_at_call 158;(with_reducible refine(H1.out w' ((X.trans XX).trans hxw)).mono ?_;exact fun e w'' h=>⟨h.1,hxw.trans h.2⟩))|(go_at_call 123;(with_reducible refine(H2.out w' ((X.trans XX).trans hxw)).mono ?_;exact fun e w'' h=>⟨h.1,hxw.trans h.2⟩))|(go_at_call 21;first|(with_reducible refine(H3.out w').mono ?_;exact fun e w'' h=>⟨h.1,hxw.trans h.2⟩)|(with_reducible refine(H7.out w').mono ?_;exact fun e w'' h=>⟨h.1,hxw.trans h.2⟩))))
                       simp only [Act.put,List.setIfInBounds_toArray,List.set_cons_zero,List.set_cons_succ];go_big_quiet_on)))
              refine wpQuiet_nil ?_
              intro w2 hx2
              replace XX:=XX.trans hx2;clear hx2;(go_wp2_with fail);go_ret;exact⟨rfl,by have:=X.trans XX;exact EX⟩
            · by_cases h3 : kd = 3
              · skip
                subst h3;have HQ:Hid (kb=((false&&z2)&&(z4&&z3))):=hHd (by rw [HK.out];rfl);clear HK;obtain rfl:r=false:=by rw [HE.out,HQ.out];first|rfl|simp
                clear HE HQ;(go_wp2_with fail);go_ret;exact⟨rfl,by have:=X.trans XX;exact EX⟩
              · obtain rfl : r = false := by rw [HE.out, HK.out]; simp [h0, h1, h2, h3]
                clear HE HK;have e0:(kd==0)=false:=by simp [h0]
                have e1:(kd==1)=false:=by simp [h1]
                have e2:(kd==2)=false:=by simp [h2]
                have e3:(kd==3)=false:=by simp [h3]
                (go_wp2_with fail);go_ret;exact⟨rfl,by have:=X.trans XX;exact EX⟩
      | true =>
        by_cases h0:kd=0
        · skip
          obtain rfl:kd=0:=h0;have HQ:Hid (kb=(o1&&(o2&&(z5&&(z4&&z3))))):=hHd (by rw [HK.out];rfl);clear HK;(go_wp2_with fail);(with_reducible refine(H4.out _).mono ?_);rintro e w3 ⟨rfl,hx⟩;replace XX:=XX.trans hx;clear q0 q1 q2 q3 q4 q5 q6 q7 q8 q9 q10 q11;obtain⟨⟨q0,q1,q2,q3,q4,q5,q6,q7,q8,q9,q10,q11⟩,-⟩:=HS.out _ XX;clear hx;cases o1 with
          | false =>
            obtain rfl:r=false:=by rw [HE.out,HQ.out];first|rfl|simp
            clear HE HQ;(go_wp2_with fail);go_ret;exact⟨rfl,by have:=X.trans XX;exact EX⟩
          | true =>
            (go_wp2_with fail);(with_reducible refine(H5.out _).mono ?_);rintro e w4 ⟨rfl,hx⟩;replace XX:=XX.trans hx;clear q0 q1 q2 q3 q4 q5 q6 q7 q8 q9 q10 q11;obtain⟨⟨q0,q1,q2,q3,q4,q5,q6,q7,q8,q9,q10,q11⟩,-⟩:=HS.out _ XX;clear hx;cases o2 with
            | false =>
              obtain rfl:r=false:=by rw [HE.out,HQ.out];first|rfl|simp
              clear HE HQ;(go_wp2_with fail);go_ret;exact⟨rfl,by have:=X.trans XX;exact EX⟩
            | true =>
              cases z5 with
              | false =>
                obtain rfl:r=false:=by rw [HE.out,HQ.out];first|rfl|simp
                clear HE HQ;(go_wp2_with fail);go_ret;exact⟨rfl,by have:=X.trans XX;exact EX⟩
              | true =>
                cases z4 with
                | false =>
                  obtain rfl:r=false:=by rw [HE.out,HQ.out];first|rfl|simp
                  clear HE HQ;(go_wp2_with fail);go_ret;exact⟨rfl,by have:=X.trans XX;exact EX⟩
                | true =>
                  cases z3 with
                  | false =>
                    obtain rfl:r=false:=by rw [HE.out,HQ.out];first|rfl|simp
                    clear HE HQ;(go_wp2_with fail);go_ret;exact⟨rfl,by have:=X.trans XX;exact EX⟩
                  | true =>
                    obtain rfl:r=true:=by rw [HE.out,HQ.out];first|rfl|simp
                    clear HE HQ;(go_wp2_with fail);go_ret;exact⟨rfl,by have:=X.trans XX;exact EX⟩
        · by_cases h1 : kd = 1
          · have e0 : (kd == 0) = false := by simp [h0]
            subst h1;have h1:(1:Int)=1:=rfl;have HQ:Hid (kb=((true&&z2)&&(z3&&p1))):=hHd (by rw [HK.out];rfl);clear HK;cases z2 with
            | false =>
              obtain rfl:r=false:=by rw [HE.out,HQ.out];first|rfl|simp
              clear HE HQ;(go_wp2_with fail);go_ret;exact⟨rfl,by have:=X.trans XX;exact EX⟩
            | true =>
              cases z3 with
              | false =>
                obtain rfl:r=false:=by rw [HE.out,HQ.out];first|rfl|simp
                clear HE HQ;(go_wp2_with fail);go_ret;exact⟨rfl,by have:=X.trans XX;exact EX⟩
              | true =>
                (go_wp2_with fail);(with_reducible refine(H6.out _).mono ?_);rintro e w3 ⟨rfl,hx⟩;replace XX:=XX.trans hx;clear q0 q1 q2 q3 q4 q5 q6 q7 q8 q9 q10 q11;obtain⟨⟨q0,q1,q2,q3,q4,q5,q6,q7,q8,q9,q10,q11⟩,-⟩:=HS.out _ XX;clear hx;cases p1 with
                | false =>
                  obtain rfl:r=false:=by rw [HE.out,HQ.out];first|rfl|simp
                  clear HE HQ;(go_wp2_with fail);go_ret;exact⟨rfl,by have:=X.trans XX;exact EX⟩
                | true =>
                  obtain rfl:r=true:=by rw [HE.out,HQ.out];first|rfl|simp
                  clear HE HQ;(go_wp2_with fail);go_ret;exact⟨rfl,by have:=X.trans XX;exact EX⟩
          · by_cases h2 : kd = 2
            · skip
              subst h2;have HQ:Hid (kb=((true&&z2)&&(z4&&(n1'&&z6)))):=hHd (by rw [HK.out];rfl);clear HK;cases z2 with
              | false =>
                obtain rfl:r=false:=by rw [HE.out,HQ.out];first|rfl|simp
                clear HE HQ;(go_wp2_with fail);clear q0 q1 q2 q3 q4 q5 q6 q7 q8 q9 q10 q11;refine wp_region_quiet (C:=Ext w2) (by kernel_rfl) (by kernel_rfl) (Ext.drew EX) ?_
                rw [tl]
                repeat (first
                  |go_big_quiet_skip
                  | (go_big_quiet_want
                     first
                      |(go_big_quiet_op;go_big_quiet_on)
                      | (apply Exists.intro
                         refine⟨fun w' hxw=> ?_,?_⟩
                         focus (obtain⟨⟨q0,q1,q2,q3,q4,q5,q6,q7,q8,q9,q10,q11⟩,-⟩:=HS.out w' (XX.trans hxw);go_simp;first|exact rfl|(first|(go_at_call 158;(with_reducible refine(H1.out w' ((X.trans XX).trans hxw)).mono ?_;exact fun e w'' h=>⟨h.1,hxw.trans h.2⟩))|(go_at_call 123;(with_reducible refine(H2.out w' ((X.trans XX).trans hxw)).mono ?_;exact fun e w'' h=>⟨h.1,hxw.trans h.2⟩))|(go_at_call 21;first|(with_reducible refine(H3.out w').mono ?_;exact fun e w'' h=>⟨h.1,hxw.trans h.2⟩)|(with_reducible refine(H7.out w').mono ?_;exact fun e w'' h=>⟨h.1,hxw.trans h.2⟩))))
                         simp only [Act.put,List.setIfInBounds_toArray,List.set_cons_zero,List.set_cons_succ];go_big_quiet_on)))
                refine wpQuiet_nil ?_
                intro w2 hx2
                replace XX:=XX.trans hx2;clear hx2;(go_wp2_with fail);go_ret;exact⟨rfl,by have:=X.trans XX;exact EX⟩
              | true =>
                cases z4 with
                | false =>
                  obtain rfl:r=false:=by rw [HE.out,HQ.out];first|rfl|simp
                  clear HE HQ;(go_wp2_with fail);clear q0 q1 q2 q3 q4 q5 q6 q7 q8 q9 q10 q11;refine wp_region_quiet (C:=Ext w2) (by kernel_rfl) (by kernel_rfl) (Ext.drew EX) ?_
                  rw [tl]
                  repeat (first
                    |go_big_quiet_skip
                    | (go_big_quiet_want
                       first
                        |(go_big_quiet_op;go_big_quiet_on)
                        | (apply Exists.intro
                           refine⟨fun w' hxw=> ?_,?_⟩
                           focus (obtain⟨⟨q0,q1,q2,q3,q4,q5,q6,q7,q8,q9,q10,q11⟩,-⟩:=HS.out w' (XX.trans hxw);go_simp;first|exact rfl|(first|(go_at_call 158;(with_reducible refine(H1.out w' ((X.trans XX).trans hxw)).mono ?_;exact fun e w'' h=>⟨h.1,hxw.trans h.2⟩))|(go_at_call 123;(with_reducible refine(H2.out w' ((X.trans XX).trans hxw)).mono ?_;exact fun e w'' h=>⟨h.1,hxw.trans h.2⟩))|(go_at_call 21;first|(with_reducible refine(H3.out w').mono ?_;exact fun e w'' h=>⟨h.1,hxw.trans h.2⟩)|(with_reducible refine(H7.out w').mono ?_;exact fun e w'' h=>⟨h.1,hxw.trans h.2⟩))))
                           simp only [Act.put,List.setIfInBounds_toArray,List.set_cons_zero,List.set_cons_succ];go_big_quiet_on)))
                  refine wpQuiet_nil ?_
                  intro w2 hx2
                  replace XX:=XX.trans hx2;clear hx2;(go_wp2_with fail);go_ret;exact⟨rfl,by have:=X.trans XX;exact EX⟩
                | true =>
                  cases n1' with
                  | false =>
                    obtain rfl:r=false:=by rw [HE.out,HQ.out];first|rfl|simp
                    clear HE HQ;(go_wp2_with fail);clear q0 q1 q2 q3 q4 q5 q6 q7 q8 q9 q10 q11;refine wp_region_quiet (C:=Ext w2) (by kernel_rfl) (by kernel_rfl) (Ext.drew EX) ?_
                    rw [tl]
                    repeat (first
                      |go_big_quiet_skip
                      | (go_big_quiet_want
                         first
                          |(go_big_quiet_op;go_big_quiet_on)
                          | (apply Exists.intro
                             refine⟨fun w' hxw=> ?_,?_⟩
                             focus (obtain⟨⟨q0,q1,q2,q3,q4,q5,q6,q7,q8,q9,q10,q11⟩,-⟩:=HS.out w' (XX.trans hxw);go_simp;first|exact rfl|(first|(go_at_call 158;(with_reducible refine(H1.out w' ((X.trans XX).trans hxw)).mono ?_;exact fun e w'' h=>⟨h.1,hxw.trans h.2⟩))|(go_at_call 123;(with_reducible refine(H2.out w' ((X.trans XX).trans hxw)).mono ?_;exact fun e w'' h=>⟨h.1,hxw.trans h.2⟩))|(go_at_call 21;first|(with_reducible refine(H3.out w').mono ?_;exact fun e w'' h=>⟨h.1,hxw.trans h.2⟩)|(with_reducible refine(H7.out w').mono ?_;exact fun e w'' h=>⟨h.1,hxw.trans h.2⟩))))
                             simp only [Act.put,List.setIfInBounds_toArray,List.set_cons_zero,List.set_cons_succ];go_big_quiet_on)))
                    refine wpQuiet_nil ?_
                    intro w2 hx2
                    replace XX:=XX.trans hx2;clear hx2;(go_wp2_with fail);go_ret;exact⟨rfl,by have:=X.trans XX;exact EX⟩
                  | true =>
                    cases z6 with
                    | false =>
                      obtain rfl:r=false:=by rw [HE.out,HQ.out];first|rfl|simp
                      clear HE HQ;(go_wp2_with fail);clear q0 q1 q2 q3 q4 q5 q6 q7 q8 q9 q10 q11;refine wp_region_quiet (C:=Ext w2) (by kernel_rfl) (by kernel_rfl) (Ext.drew EX) ?_
                      rw [tl]
                      repeat (first
                        |go_big_quiet_skip
                        | (go_big_quiet_want
                           first
                            |(go_big_quiet_op;go_big_quiet_on)
                            | (apply Exists.intro
                               refine⟨fun w' hxw=> ?_,?_⟩
                               focus (obtain⟨⟨q0,q1,q2,q3,q4,q5,q6,q7,q8,q9,q10,q11⟩,-⟩:=HS.out w' (XX.trans hxw);go_simp;first|exact rfl|(first|(go_at_call 158;(with_reducible refine(H1.out w' ((X.trans XX).trans hxw)).mono ?_;exact fun e w'' h=>⟨h.1,hxw.trans h.2⟩))|(go_at_call 123;(with_reducible refine(H2.out w' ((X.trans XX).trans hxw)).mono ?_;exact fun e w'' h=>⟨h.1,hxw.trans h.2⟩))|(go_at_call 21;first|(with_reducible refine(H3.out w').mono ?_;exact fun e w'' h=>⟨h.1,hxw.trans h.2⟩)|(with_reducible refine(H7.out w').mono ?_;exact fun e w'' h=>⟨h.1,hxw.trans h.2⟩))))
                               simp only [Act.put,List.setIfInBounds_toArray,List.set_cons_zero,List.set_cons_succ];go_big_quiet_on)))
                      refine wpQuiet_nil ?_
                      intro w2 hx2
                      replace XX:=XX.trans hx2;clear hx2;(go_wp2_with fail);go_ret;exact⟨rfl,by have:=X.trans XX;exact EX⟩
                    | true =>
                      obtain rfl:r=true:=by rw [HE.out,HQ.out];first|rfl|simp
                      clear HE HQ;(go_wp2_with fail);clear q0 q1 q2 q3 q4 q5 q6 q7 q8 q9 q10 q11;refine wp_region_quiet (C:=Ext w2) (by kernel_rfl) (by kernel_rfl) (Ext.drew EX) ?_
                      rw [tl]
                      repeat (first
                        |go_big_quiet_skip
                        | (go_big_quiet_want
                           first
                            |(go_big_quiet_op;go_big_quiet_on)
                            | (apply Exists.intro
                               refine⟨fun w' hxw=> ?_,?_⟩
                               focus (obtain⟨⟨q0,q1,q2,q3,q4,q5,q6,q7,q8,q9,q10,q11⟩,-⟩:=HS.out w' (XX.trans hxw);go_simp;first|exact rfl|(first|(go_at_call 158;(with_reducible refine(H1.out w' ((X.trans XX).trans hxw)).mono ?_;exact fun e w'' h=>⟨h.1,hxw.trans h.2⟩))|(go_at_call 123;(with_reducible refine(H2.out w' ((X.trans XX).trans hxw)).mono ?_;exact fun e w'' h=>⟨h.1,hxw.trans h.2⟩))|(go_at_call 21;first|(with_reducible refine(H3.out w').mono ?_;exact fun e w'' h=>⟨h.1,hxw.trans h.2⟩)|(with_reducible refine(H7.out w').mono ?_;exact fun e w'' h=>⟨h.1,hxw.trans h.2⟩))))
                               simp only [Act.put,List.setIfInBounds_toArray,List.set_cons_zero,List.set_cons_succ];go_big_quiet_on)))
                      refine wpQuiet_nil ?_
                      intro w2 hx2
                      replace XX:=XX.trans hx2;clear hx2;(go_wp2_with fail);go_ret;exact⟨rfl,by have:=X.trans XX;exact EX⟩
            · by_cases h3 : kd = 3
              · skip
                subst h3;have HQ:Hid (kb=((true&&z2)&&(z4&&z3))):=hHd (by rw [HK.out];rfl);clear HK;cases z2 with
                | false =>
                  obtain rfl:r=false:=by rw [HE.out,HQ.out];first|rfl|simp
                  clear HE HQ;(go_wp2_with fail);go_ret;exact⟨rfl,by have:=X.trans XX;exact EX⟩
                | true =>
                  cases z4 with
                  | false =>
                    obtain rfl:r=false:=by rw [HE.out,HQ.out];first|rfl|simp
                    clear HE HQ;(go_wp2_with fail);go_ret;exact⟨rfl,by have:=X.trans XX;exact EX⟩
                  | true =>
                    cases z3 with
                    | false =>
                      obtain rfl:r=false:=by rw [HE.out,HQ.out];first|rfl|simp
                      clear HE HQ;(go_wp2_with fail);go_ret;exact⟨rfl,by have:=X.trans XX;exact EX⟩
                    | true =>
                      obtain rfl:r=true:=by rw [HE.out,HQ.out];first|rfl|simp
                      clear HE HQ;(go_wp2_with fail);go_ret;exact⟨rfl,by have:=X.trans XX;exact EX⟩
              · obtain rfl : r = false := by rw [HE.out, HK.out]; simp [h0, h1, h2, h3]
                clear HE HK;have e0:(kd==0)=false:=by simp [h0]
                have e1:(kd==1)=false:=by simp [h1]
                have e2:(kd==2)=false:=by simp [h2]
                have e3:(kd==3)=false:=by simp [h3]
                (go_wp2_with fail);go_ret;exact⟨rfl,by have:=X.trans XX;exact EX⟩
end Go.Proofs.YtegkdnfeceomdaaGreat
namespace Go.Hs
open Go.RowKit
structure FdL (B n:Nat) (f:Fds) (w:World):Prop where
 fd:∀i,i<n→FdAt w B (i*5) (f i)
 fr:∀(o:Nat),w.frozen? ⟨B,o,none⟩=false
 lt:B<w.heap.size
section
variable {B n:Nat} {f:Fds} {w W:World}
theorem FdL.kp {p:Nat→Prop} (h:FdL B n f w) (k:KP p w W) (hB:¬p B):FdL B n f W:=
 ⟨fun i hi=>(h.fd i hi).keep (fun _ _ e=>k.keep hB e),fun o=>(k.frozen h.lt hB).trans (h.fr o),Nat.lt_of_lt_of_le h.lt k.size⟩
theorem FdL.ext (h:FdL B n f w) (hx:Ext w W):FdL B n f W:=h.kp (p:=fun _=>False) hx.kp id
theorem FdL.put (h:FdL B n f w) {i:Nat} {x:Fd} (hx:FdAt W B (i*5) x) (ho:∀o v,(o<i*5∨i*5+5≤o)→w.cell? ⟨B,o,none⟩=some v→W.cell? ⟨B,o,none⟩=some v) (hf:∀(o:Nat),W.frozen? ⟨B,o,none⟩=w.frozen? ⟨B,o,none⟩) (hs:W.heap.size=w.heap.size):FdL B n (upd f i x) W:=by
 refine⟨fun j hj=> ?_,fun o=>(hf o).trans (h.fr o),by rw [hs];exact h.lt⟩
 unfold upd;by_cases e:j=i
 ·subst e;rw [if_pos rfl];exact hx
 ·rw [if_neg e]; obtain ⟨h0, h1, h2, h3, h4⟩ := h.fd j hj; have hd : j * 5 + 5 ≤ i * 5 ∨ i * 5 + 5 ≤ j * 5 := by omega
  exact⟨ho _ _ (by omega) h0,ho _ _ (by omega) h1,ho _ _ (by omega) h2,ho _ _ (by omega) h3,ho _ _ (by omega) h4⟩
theorem size_set' (w:World) (a:Addr) (v:Value):(w.setCell a v).heap.size=w.heap.size:=by simp [go_sem]
theorem FdL.owner (h:FdL B n f w) {i:Nat} (hi:i<n) (x:Int):FdL B n (upd f i { f i with owner:=x }) (w.setCell ⟨B,i*5+2,none⟩ (.int .i64 x)):=
 h.put ((h.fd i hi).owner x) (fun o v ho e=>cell_ne (.inr (by omega)) e) (fun o=>World.frozen?_setCell ..) (size_set' _ _ _)
theorem FdL.value (h:FdL B n f w) {i:Nat} (hi:i<n) (x:Int):FdL B n (upd f i { f i with value:=x }) (w.setCell ⟨B,i*5+3,none⟩ (.int .i64 x)):=
 h.put ((h.fd i hi).value x) (fun o v ho e=>cell_ne (.inr (by omega)) e) (fun o=>World.frozen?_setCell ..) (size_set' _ _ _)
theorem FdL.gone (h:FdL B n f w) {i:Nat} (hi:i<n) (b:Bool):FdL B n (upd f i { f i with gone:=b }) (w.setCell ⟨B,i*5+1,none⟩ (.bool b)):=
 h.put ((h.fd i hi).gone b) (fun o v ho e=>cell_ne (.inr (by omega)) e) (fun o=>World.frozen?_setCell ..) (size_set' _ _ _)
theorem FdL.set (h:FdL B n f w) {i:Nat} (hi:i<n) (x:Fd):FdL B n (upd f i x) (((((w.setCell ⟨B,i*5,none⟩ (.bool x.there)).setCell ⟨B,i*5+1,none⟩ (.bool x.gone)).setCell ⟨B,i*5+2,none⟩ (.int .i64 x.owner)).setCell ⟨B,i*5+3,none⟩ (.int .i64 x.value)).setCell ⟨B,i*5+4,none⟩ (.int .i64 x.sown)):=by
 obtain⟨h0,h1,h2,h3,h4⟩:=h.fd i hi;refine h.put ⟨?_,?_,?_,?_,?_⟩ (fun o v ho e=> ?_) (fun o=>by simp only [World.frozen?_setCell]) (by simp only [size_set'])
 ·exact cell_ne (.inr (by omega)) (cell_ne (.inr (by omega)) (cell_ne (.inr (by omega)) (cell_ne (.inr (by omega)) (World.cell?_setCell_same _ _ _ h0))))
 ·exact cell_ne (.inr (by omega)) (cell_ne (.inr (by omega)) (cell_ne (.inr (by omega)) (World.cell?_setCell_same _ _ _ (cell_ne (.inr (by omega)) h1))))
 ·exact cell_ne (.inr (by omega)) (cell_ne (.inr (by omega)) (World.cell?_setCell_same _ _ _ (cell_ne (.inr (by omega)) (cell_ne (.inr (by omega)) h2))))
 ·exact cell_ne (.inr (by omega)) (World.cell?_setCell_same _ _ _ (cell_ne (.inr (by omega)) (cell_ne (.inr (by omega)) (cell_ne (.inr (by omega)) h3))))
 ·exact World.cell?_setCell_same _ _ _ (cell_ne (.inr (by omega)) (cell_ne (.inr (by omega)) (cell_ne (.inr (by omega)) (cell_ne (.inr (by omega)) h4))))
 ·exact cell_ne (.inr (by omega)) (cell_ne (.inr (by omega)) (cell_ne (.inr (by omega)) (cell_ne (.inr (by omega)) (cell_ne (.inr (by omega)) e))))
end
end Go.Hs
namespace Go.Proofs.YtegkdnfeceomdaaGreat
open Go.RowKit Go.Hs
attribute [local irreducible] World.setCell World.alloc
end Go.Proofs.YtegkdnfeceomdaaGreat
