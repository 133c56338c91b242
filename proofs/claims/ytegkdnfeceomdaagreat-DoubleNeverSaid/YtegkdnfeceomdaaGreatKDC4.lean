/- Bundled: what the texts HI HR say one after another. -/
import Derived.Test.YtegkdnfeceomdaaGreatKDC1
import Derived.Test.YtegkdnfeceomdaaGreatKDA11
import Derived.Test.YtegkdnfeceomdaaGreatKDA2
import Derived.Test.YtegkdnfeceomdaaGreatKDC3
import Derived.Test.YtegkdnfeceomdaaGreatKDC2
import Derived.OwnWalk
import Derived.Test.YtegkdnfeceomdaaGreatKDA4
set_option maxRecDepth 100000
set_option maxHeartbeats 16000000
set_option linter.unusedSimpArgs false
set_option linter.unusedVariables false
namespace Go.Hs
open Go.RowKit
def withinR (lo hi a b:Int):Bool:=decide (a≤lo)&&(decide (lo≤hi)&&decide (hi≤b))
end Go.Hs
namespace Go.Proofs.YtegkdnfeceomdaaGreat
open Go.RowKit Go.Hs
attribute [local irreducible] World.setCell World.alloc
theorem Within_h (lo hi x y:Int) (w:World):
  Calls Tryz.prog 124 #[.agg #[.int .i64 lo,.int .i64 hi],.int .i64 x,.int .i64 y] w fun e w'=>e= .returned (.bool (withinR lo hi x y))∧Ext w w':=by
 have HE:Hid (withinR lo hi x y=(decide (x≤lo)&&(decide (lo≤hi)&&decide (hi≤y)))):=rfl;generalize withinR lo hi x y=r at*;by_cases h1:x≤lo
 ·by_cases h2 : lo ≤ hi
  ·by_cases h3 : hi ≤ y
   ·have HR : Hid (r = true) := hHd (by rw [HE.out]; simp [h1, h2, h3]); clear HE; go_enter Tryz.func124, Tryz.ntmps124
    (go_wp2_with fail);go_ret;exact⟨ret_bool HR.out.symm,EX⟩
   ·have HR : Hid (r = false) := hHd (by rw [HE.out]; simp [h3]); clear HE; go_enter Tryz.func124, Tryz.ntmps124
    (go_wp2_with fail);go_ret;exact⟨ret_bool HR.out.symm,EX⟩
  ·have HR : Hid (r = false) := hHd (by rw [HE.out]; simp [h2]); clear HE; go_enter Tryz.func124, Tryz.ntmps124
   (go_wp2_with fail);go_ret;exact⟨ret_bool HR.out.symm,EX⟩
 ·have HR : Hid (r = false) := hHd (by rw [HE.out]; simp [h1]); clear HE; go_enter Tryz.func124, Tryz.ntmps124
  (go_wp2_with fail);go_ret;exact⟨ret_bool HR.out.symm,EX⟩
theorem Count_h (lo hi:Int) (w:World) (h:0≤lo∧lo≤hi∧hi≤100000):
  Calls Tryz.prog 110 #[.agg #[.int .i64 lo,.int .i64 hi]] w fun e w'=>e= .returned (.int .i64 (hi - lo+1))∧Ext w w':=by
 have w1:IntKind.i64.wrap (hi - lo)=hi - lo:=IntWalk.i64_in _ (by omega);have w2:IntKind.i64.wrap (hi - lo+1)=hi - lo+1:=IntWalk.i64_in _ (by omega);go_enter Tryz.func110,Tryz.ntmps110
 (go_wp2_with fail);go_ret;exact⟨rfl,EX⟩
theorem IsCover_h (A : CaseA) (c : DCas) (x : Cov) (w : World) (hm : CaseM w A c) (hs : 1 ≤ c.soc ∧ c.soc ≤ 3) (ho : 1 ≤ c.bk.owners ∧ c.bk.owners ≤ 4) :
    Calls Tryz.prog 125 #[A.v c,x.c.val] w fun e w'=>e= .returned (.bool (covB c x))∧Ext w w':=by
  have HE:Hid (covB c x=(socB c x.soc&&(inR x.owner 0 (c.bk.owners - 1)&&(numberB c.bk x.parcel&&(inR x.sum 0 1000&&(dayB c.bk x.till&&ofR x.slo x.shi c.bk.last)))))):=rfl;have hle:numsB c.bk≤c.bk.pars.length+c.bk.ents.length:=numsTo_le c.bk _;have l1:=hm.l1.2;have l2:=hm.l2.2;have H1:Hid (∀W,Calls Tryz.prog 21 #[.int .i64 x.soc,.int .i64 0,.int .i64 (c.soc - 1)] W fun e' w'=>e'= .returned (.bool (socB c x.soc))∧Ext W w'):=hHd (In_h x.soc 0 (c.soc - 1));have H2:=hHd (In_h x.owner 0 (c.bk.owners - 1));have H3:=hHd (fun W (hx:Ext w W)=>Every_h c.bk (A.b c) W (hm.bk.ext hx));have H4:Hid (∀W,Calls Tryz.prog 21 #[.int .i64 x.parcel,.int .i64 0,.int .i64 ((numsB c.bk:Int) - 1)] W fun e' w'=>e'= .returned (.bool (numberB c.bk x.parcel))∧Ext W w'):=hHd (In_h x.parcel 0 ((numsB c.bk:Int) - 1));have H5:=hHd (In_h x.sum 0 1000);have H6:Hid (∀W,Calls Tryz.prog 21 #[.int .i64 x.till,.int .i64 0,.int .i64 c.bk.last] W fun e' w'=>e'= .returned (.bool (dayB c.bk x.till))∧Ext W w'):=hHd (In_h x.till 0 c.bk.last);have H7:Hid (∀W,Calls Tryz.prog 124 #[.agg #[.int .i64 x.slo,.int .i64 x.shi],.int .i64 0,.int .i64 c.bk.last] W fun e' w'=>e'= .returned (.bool (ofR x.slo x.shi c.bk.last))∧Ext W w'):=hHd (Within_h x.slo x.shi 0 c.bk.last);have w1:IntKind.i64.wrap (c.soc - 1)=c.soc - 1:=IntWalk.i64_in _ (by omega);have w2:IntKind.i64.wrap (c.bk.owners - 1)=c.bk.owners - 1:=IntWalk.i64_in _ (by omega);have w3:IntKind.i64.wrap ((numsB c.bk:Int) - 1)=(numsB c.bk:Int) - 1:=IntWalk.i64_in _ (by omega);clear hm hle l1 l2 hs ho;generalize covB c x=r at*;generalize socB c x.soc=b1 at*;generalize inR x.owner 0 (c.bk.owners - 1)=b2 at*;generalize numberB c.bk x.parcel=b3 at*;generalize inR x.sum 0 1000=b4 at*;generalize dayB c.bk x.till=b5 at*;generalize ofR x.slo x.shi c.bk.last=b6 at*;generalize numsB c.bk=nn at*
  obtain⟨a1,c1,a2,c2,a3,c3,a4,c4⟩:=A;unfold CaseA.v CaseA.b caseV bkV at*;simp only at*;generalize c.bk.pars.length=n1 at*;generalize c.bk.ents.length=n2 at*;generalize c.covs.length=n3 at*;generalize c.clms.length=n4 at*;generalize c.bk.last=last at*;generalize c.bk.owners=ow at*;generalize c.soc=soc at*;generalize c.day=day at*;generalize c.parcel=pcl at*;generalize c.llo=llo at*;generalize c.lhi=lhi at*;obtain⟨xs,xo,xp,xm,xt,xl,xh⟩:=x;simp only at*;go_enter Tryz.func125,Tryz.ntmps125
  (go_wp2_with fail);obtain⟨W,hW⟩:∃W,W=(((w.alloc (.cells #[.int .i64 last,.int .i64 ow,.slice a1 n1 c1,.slice a2 n2 c2,.int .i64 soc,.int .i64 day,.int .i64 pcl,.slice a3 n3 c3,.int .i64 llo,.int .i64 lhi,.slice a4 n4 c4] 41)).alloc (.cells #[.int .i64 xs,.int .i64 xo,.int .i64 xp,.int .i64 xm,.int .i64 xt,.int .i64 xl,.int .i64 xh] 108)).alloc (.cells #[.int .i64 last,.int .i64 ow,.slice a1 n1 c1,.slice a2 n2 c2] 35)):=⟨_,rfl⟩;have X:Ext w W:=by subst hW;exact EX
  have HS:Hid (∀w',Ext W w'→(w'.cell? ⟨w.heap.size,0,none⟩=some (.int .i64 last)∧w'.cell? ⟨w.heap.size,1,none⟩=some (.int .i64 ow)∧w'.cell? ⟨w.heap.size,2,none⟩=some (.slice a1 n1 c1)∧w'.cell? ⟨w.heap.size,3,none⟩=some (.slice a2 n2 c2)∧w'.cell? ⟨w.heap.size,4,none⟩=some (.int .i64 soc)∧w'.cell? ⟨w.heap.size,5,none⟩=some (.int .i64 day)∧w'.cell? ⟨w.heap.size,6,none⟩=some (.int .i64 pcl)∧w'.cell? ⟨w.heap.size,7,none⟩=some (.slice a3 n3 c3)∧w'.cell? ⟨w.heap.size,8,none⟩=some (.int .i64 llo)∧w'.cell? ⟨w.heap.size,9,none⟩=some (.int .i64 lhi)∧w'.cell? ⟨w.heap.size,10,none⟩=some (.slice a4 n4 c4)∧w'.cell? ⟨w.heap.size+1,0,none⟩=some (.int .i64 xs)∧w'.cell? ⟨w.heap.size+1,1,none⟩=some (.int .i64 xo)∧w'.cell? ⟨w.heap.size+1,2,none⟩=some (.int .i64 xp)∧w'.cell? ⟨w.heap.size+1,3,none⟩=some (.int .i64 xm)∧w'.cell? ⟨w.heap.size+1,4,none⟩=some (.int .i64 xt)∧w'.cell? ⟨w.heap.size+1,5,none⟩=some (.int .i64 xl)∧w'.cell? ⟨w.heap.size+1,6,none⟩=some (.int .i64 xh)∧w'.cell? ⟨w.heap.size+1+1,0,none⟩=some (.int .i64 last)∧w'.cell? ⟨w.heap.size+1+1,1,none⟩=some (.int .i64 ow)∧w'.cell? ⟨w.heap.size+1+1,2,none⟩=some (.slice a1 n1 c1)∧w'.cell? ⟨w.heap.size+1+1,3,none⟩=some (.slice a2 n2 c2))∧Ext W w'):=hHd (fun w' hx=>⟨by subst hW;and_intros<;>exact hx.keep (by simp [go_sem]),hx⟩);have HSf:Hid (∀w',Ext W w'→∀o,w'.frozen? ⟨w.heap.size+1+1,o,none⟩=false):=hHd (fun w' hx o=>(hx.frozen (by subst hW;simp)).trans (by subst hW;simp [go_sem]));have HSz:w.heap.size+1+1+1≤W.heap.size:=by subst hW;simp
  rw [←hW];clear hW;cases b1 with
  | false =>
    obtain rfl:r=false:=by rw [HE.out];first|rfl|simp
    clear HE;refine wp_region_quiet (C:=Ext W) (by kernel_rfl) (by kernel_rfl) (Ext.drew EX) ?_
    rw [tl]
    repeat (first
      |go_big_quiet_skip
      | (go_big_quiet_want
         first
          |(go_big_quiet_op;go_big_quiet_on)
          | (apply Exists.intro
             refine⟨fun w' hxw=> ?_,?_⟩
             focus (obtain⟨⟨-,-,-,-,q4,-,-,-,-,-,-,x0,x1,x2,x3,x4,x5,x6,p0,p1,p2,p3⟩,-⟩:=HS.out w' hxw;go_simp;first|exact rfl|(first|(go_at_call 123;(with_reducible refine(H3.out w' (X.trans hxw)).mono ?_;exact fun e w'' h=>⟨h.1,hxw.trans h.2⟩))|(go_at_call 124;(with_reducible refine(H7.out w').mono ?_;exact fun e w'' h=>⟨h.1,hxw.trans h.2⟩))|(go_at_call 21;first|(with_reducible refine(H1.out w').mono ?_;exact fun e w'' h=>⟨h.1,hxw.trans h.2⟩)|(with_reducible refine(H2.out w').mono ?_;exact fun e w'' h=>⟨h.1,hxw.trans h.2⟩)|(with_reducible refine(H4.out w').mono ?_;exact fun e w'' h=>⟨h.1,hxw.trans h.2⟩)|(with_reducible refine(H5.out w').mono ?_;exact fun e w'' h=>⟨h.1,hxw.trans h.2⟩)|(with_reducible refine(H6.out w').mono ?_;exact fun e w'' h=>⟨h.1,hxw.trans h.2⟩))))
             simp only [Act.put,List.setIfInBounds_toArray,List.set_cons_zero,List.set_cons_succ];go_big_quiet_on)))
    refine wpQuiet_nil ?_
    intro w2 hx2
    (go_wp2_with fail);go_ret;exact⟨rfl,X.trans hx2⟩
  | true =>
    cases b2 with
    | false =>
      obtain rfl:r=false:=by rw [HE.out];first|rfl|simp
      clear HE;refine wp_region_quiet (C:=Ext W) (by kernel_rfl) (by kernel_rfl) (Ext.drew EX) ?_
      rw [tl]
      repeat (first
        |go_big_quiet_skip
        | (go_big_quiet_want
           first
            |(go_big_quiet_op;go_big_quiet_on)
            | (apply Exists.intro
               refine⟨fun w' hxw=> ?_,?_⟩
               focus (obtain⟨⟨-,-,-,-,q4,-,-,-,-,-,-,x0,x1,x2,x3,x4,x5,x6,p0,p1,p2,p3⟩,-⟩:=HS.out w' hxw;go_simp;first|exact rfl|(first|(go_at_call 123;(with_reducible refine(H3.out w' (X.trans hxw)).mono ?_;exact fun e w'' h=>⟨h.1,hxw.trans h.2⟩))|(go_at_call 124;(with_reducible refine(H7.out w').mono ?_;exact fun e w'' h=>⟨h.1,hxw.trans h.2⟩))|(go_at_call 21;first|(with_reducible refine(H1.out w').mono ?_;exact fun e w'' h=>⟨h.1,hxw.trans h.2⟩)|(with_reducible refine(H2.out w').mono ?_;exact fun e w'' h=>⟨h.1,hxw.trans h.2⟩)|(with_reducible refine(H4.out w').mono ?_;exact fun e w'' h=>⟨h.1,hxw.trans h.2⟩)|(with_reducible refine(H5.out w').mono ?_;exact fun e w'' h=>⟨h.1,hxw.trans h.2⟩)|(with_reducible refine(H6.out w').mono ?_;exact fun e w'' h=>⟨h.1,hxw.trans h.2⟩))))
               simp only [Act.put,List.setIfInBounds_toArray,List.set_cons_zero,List.set_cons_succ];go_big_quiet_on)))
      refine wpQuiet_nil ?_
      intro w2 hx2
      (go_wp2_with fail);go_ret;exact⟨rfl,X.trans hx2⟩
    | true =>
      cases b3 with
      | false =>
        obtain rfl:r=false:=by rw [HE.out];first|rfl|simp
        clear HE;refine wp_region_quiet (C:=Ext W) (by kernel_rfl) (by kernel_rfl) (Ext.drew EX) ?_
        rw [tl]
        repeat (first
          |go_big_quiet_skip
          | (go_big_quiet_want
             first
              |(go_big_quiet_op;go_big_quiet_on)
              | (apply Exists.intro
                 refine⟨fun w' hxw=> ?_,?_⟩
                 focus (obtain⟨⟨-,-,-,-,q4,-,-,-,-,-,-,x0,x1,x2,x3,x4,x5,x6,p0,p1,p2,p3⟩,-⟩:=HS.out w' hxw;go_simp;first|exact rfl|(first|(go_at_call 123;(with_reducible refine(H3.out w' (X.trans hxw)).mono ?_;exact fun e w'' h=>⟨h.1,hxw.trans h.2⟩))|(go_at_call 124;(with_reducible refine(H7.out w').mono ?_;exact fun e w'' h=>⟨h.1,hxw.trans h.2⟩))|(go_at_call 21;first|(with_reducible refine(H1.out w').mono ?_;exact fun e w'' h=>⟨h.1,hxw.trans h.2⟩)|(with_reducible refine(H2.out w').mono ?_;exact fun e w'' h=>⟨h.1,hxw.trans h.2⟩)|(with_reducible refine(H4.out w').mono ?_;exact fun e w'' h=>⟨h.1,hxw.trans h.2⟩)|(with_reducible refine(H5.out w').mono ?_;exact fun e w'' h=>⟨h.1,hxw.trans h.2⟩)|(with_reducible refine(H6.out w').mono ?_;exact fun e w'' h=>⟨h.1,hxw.trans h.2⟩))))
                 simp only [Act.put,List.setIfInBounds_toArray,List.set_cons_zero,List.set_cons_succ];go_big_quiet_on)))
        refine wpQuiet_nil ?_
        intro w2 hx2
        (go_wp2_with fail);go_ret;exact⟨rfl,X.trans hx2⟩
      | true =>
        cases b4 with
        | false =>
          obtain rfl:r=false:=by rw [HE.out];first|rfl|simp
          clear HE;refine wp_region_quiet (C:=Ext W) (by kernel_rfl) (by kernel_rfl) (Ext.drew EX) ?_
          rw [tl]
          repeat (first
            |go_big_quiet_skip
            | (go_big_quiet_want
               first
                |(go_big_quiet_op;go_big_quiet_on)
                | (apply Exists.intro
                   refine⟨fun w' hxw=> ?_,?_⟩
                   focus (obtain⟨⟨-,-,-,-,q4,-,-,-,-,-,-,x0,x1,x2,x3,x4,x5,x6,p0,p1,p2,p3⟩,-⟩:=HS.out w' hxw;go_simp;first|exact rfl|(first|(go_at_call 123;(with_reducible refine(H3.out w' (X.trans hxw)).mono ?_;exact fun e w'' h=>⟨h.1,hxw.trans h.2⟩))|(go_at_call 124;(with_reducible refine(H7.out w').mono ?_;exact fun e w'' h=>⟨h.1,hxw.trans h.2⟩))|(go_at_call 21;first|(with_reducible refine(H1.out w').mono ?_;exact fun e w'' h=>⟨h.1,hxw.trans h.2⟩)|(with_reducible refine(H2.out w').mono ?_;exact fun e w'' h=>⟨h.1,hxw.trans h.2⟩)|(with_reducible refine(H4.out w').mono ?_;exact fun e w'' h=>⟨h.1,hxw.trans h.2⟩)|(with_reducible refine(H5.out w').mono ?_;exact fun e w'' h=>⟨h.1,hxw.trans h.2⟩)|(with_reducible refine(H6.out w').mono ?_;exact fun e w'' h=>⟨h.1,hxw.trans h.2⟩))))
                   simp only [Act.put,List.setIfInBounds_toArray,List.set_cons_zero,List.set_cons_succ];go_big_quiet_on)))
          refine wpQuiet_nil ?_
          intro w2 hx2
          (go_wp2_with fail);go_ret;exact⟨rfl,X.trans hx2⟩
        | true =>
          cases b5 with
          | false =>
            obtain rfl:r=false:=by rw [HE.out];first|rfl|simp
            clear HE;refine wp_region_quiet (C:=Ext W) (by kernel_rfl) (by kernel_rfl) (Ext.drew EX) ?_
            rw [tl]
            repeat (first
              |go_big_quiet_skip
              | (go_big_quiet_want
                 first
                  |(go_big_quiet_op;go_big_quiet_on)
                  | (apply Exists.intro
                     refine⟨fun w' hxw=> ?_,?_⟩
                     focus (obtain⟨⟨-,-,-,-,q4,-,-,-,-,-,-,x0,x1,x2,x3,x4,x5,x6,p0,p1,p2,p3⟩,-⟩:=HS.out w' hxw;go_simp;first|exact rfl|(first|(go_at_call 123;(with_reducible refine(H3.out w' (X.trans hxw)).mono ?_;exact fun e w'' h=>⟨h.1,hxw.trans h.2⟩))|(go_at_call 124;(with_reducible refine(H7.out w').mono ?_;exact fun e w'' h=>⟨h.1,hxw.trans h.2⟩))|(go_at_call 21;first|(with_reducible refine(H1.out w').mono ?_;exact fun e w'' h=>⟨h.1,hxw.trans h.2⟩)|(with_reducible refine(H2.out w').mono ?_;exact fun e w'' h=>⟨h.1,hxw.trans h.2⟩)|(with_reducible refine(H4.out w').mono ?_;exact fun e w'' h=>⟨h.1,hxw.trans h.2⟩)|(with_reducible refine(H5.out w').mono ?_;exact fun e w'' h=>⟨h.1,hxw.trans h.2⟩)|(with_reducible refine(H6.out w').mono ?_;exact fun e w'' h=>⟨h.1,hxw.trans h.2⟩))))
                     simp only [Act.put,List.setIfInBounds_toArray,List.set_cons_zero,List.set_cons_succ];go_big_quiet_on)))
            refine wpQuiet_nil ?_
            intro w2 hx2
            (go_wp2_with fail);go_ret;exact⟨rfl,X.trans hx2⟩
          | true =>
            cases b6 with
            | false =>
              obtain rfl:r=false:=by rw [HE.out];first|rfl|simp
              clear HE;refine wp_region_quiet (C:=Ext W) (by kernel_rfl) (by kernel_rfl) (Ext.drew EX) ?_
              rw [tl]
              repeat (first
                |go_big_quiet_skip
                | (go_big_quiet_want
                   first
                    |(go_big_quiet_op;go_big_quiet_on)
                    | (apply Exists.intro
                       refine⟨fun w' hxw=> ?_,?_⟩
                       focus (obtain⟨⟨-,-,-,-,q4,-,-,-,-,-,-,x0,x1,x2,x3,x4,x5,x6,p0,p1,p2,p3⟩,-⟩:=HS.out w' hxw;go_simp;first|exact rfl|(first|(go_at_call 123;(with_reducible refine(H3.out w' (X.trans hxw)).mono ?_;exact fun e w'' h=>⟨h.1,hxw.trans h.2⟩))|(go_at_call 124;(with_reducible refine(H7.out w').mono ?_;exact fun e w'' h=>⟨h.1,hxw.trans h.2⟩))|(go_at_call 21;first|(with_reducible refine(H1.out w').mono ?_;exact fun e w'' h=>⟨h.1,hxw.trans h.2⟩)|(with_reducible refine(H2.out w').mono ?_;exact fun e w'' h=>⟨h.1,hxw.trans h.2⟩)|(with_reducible refine(H4.out w').mono ?_;exact fun e w'' h=>⟨h.1,hxw.trans h.2⟩)|(with_reducible refine(H5.out w').mono ?_;exact fun e w'' h=>⟨h.1,hxw.trans h.2⟩)|(with_reducible refine(H6.out w').mono ?_;exact fun e w'' h=>⟨h.1,hxw.trans h.2⟩))))
                       simp only [Act.put,List.setIfInBounds_toArray,List.set_cons_zero,List.set_cons_succ];go_big_quiet_on)))
              refine wpQuiet_nil ?_
              intro w2 hx2
              (go_wp2_with fail);go_ret;exact⟨rfl,X.trans hx2⟩
            | true =>
              obtain rfl:r=true:=by rw [HE.out];first|rfl|simp
              clear HE;refine wp_region_quiet (C:=Ext W) (by kernel_rfl) (by kernel_rfl) (Ext.drew EX) ?_
              rw [tl]
              repeat (first
                |go_big_quiet_skip
                | (go_big_quiet_want
                   first
                    |(go_big_quiet_op;go_big_quiet_on)
                    | (apply Exists.intro
                       refine⟨fun w' hxw=> ?_,?_⟩
                       focus (obtain⟨⟨-,-,-,-,q4,-,-,-,-,-,-,x0,x1,x2,x3,x4,x5,x6,p0,p1,p2,p3⟩,-⟩:=HS.out w' hxw;go_simp;first|exact rfl|(first|(go_at_call 123;(with_reducible refine(H3.out w' (X.trans hxw)).mono ?_;exact fun e w'' h=>⟨h.1,hxw.trans h.2⟩))|(go_at_call 124;(with_reducible refine(H7.out w').mono ?_;exact fun e w'' h=>⟨h.1,hxw.trans h.2⟩))|(go_at_call 21;first|(with_reducible refine(H1.out w').mono ?_;exact fun e w'' h=>⟨h.1,hxw.trans h.2⟩)|(with_reducible refine(H2.out w').mono ?_;exact fun e w'' h=>⟨h.1,hxw.trans h.2⟩)|(with_reducible refine(H4.out w').mono ?_;exact fun e w'' h=>⟨h.1,hxw.trans h.2⟩)|(with_reducible refine(H5.out w').mono ?_;exact fun e w'' h=>⟨h.1,hxw.trans h.2⟩)|(with_reducible refine(H6.out w').mono ?_;exact fun e w'' h=>⟨h.1,hxw.trans h.2⟩))))
                       simp only [Act.put,List.setIfInBounds_toArray,List.set_cons_zero,List.set_cons_succ];go_big_quiet_on)))
              refine wpQuiet_nil ?_
              intro w2 hx2
              (go_wp2_with fail);go_ret;exact⟨rfl,X.trans hx2⟩
end Go.Proofs.YtegkdnfeceomdaaGreat
namespace Go.Hs
open Go.RowKit
structure RowH (S n:Nat) (F:Nat→Int) (w:World):Prop where
 c:∀j,j<n→w.cell? ⟨S,j,none⟩=some (.int .i64 (F j))
 fr:∀o,w.frozen? ⟨S,o,none⟩=false
 lt:S<w.heap.size
theorem RowH.ext {S n:Nat} {F:Nat→Int} {w W:World} (h:RowH S n F w) (hx:Ext w W):RowH S n F W:=⟨fun j hj=>hx.keep (h.c j hj),fun o=>(hx.frozen h.lt).trans (h.fr o),Nat.lt_of_lt_of_le h.lt hx.size⟩
theorem RowH.put {S n:Nat} {F G:Nat→Int} {w:World} (h:RowH S n F w) (k:Nat) (v:Int) (hk:k<n) (hG:∀j,j<n→G j=if j=k then v else F j):RowH S n G (w.setCell ⟨S,k,none⟩ (.int .i64 v)):=by
 refine⟨fun j hj=> ?_,fun o=>by rw [World.frozen?_setCell];exact h.fr o,by rw [size_set'];exact h.lt⟩
 rw [hG j hj];by_cases e:j=k
 ·subst e;rw [if_pos rfl];exact World.cell?_setCell_same _ _ _ (h.c j hj)
 ·rw [if_neg e];exact cell_ne (.inr e) (h.c j hj)
theorem RowH.ints {S n:Nat} {F:Nat→Int} {w:World} {l:List Int} (h:RowH S n F w) (hl:l.length=n) (h1:n≤1000) (hF:∀j (h:j<l.length),l[j]=F j) (hok:∀x∈l,i64ok x):IntsV w (.slice (some ⟨S,0,none⟩) n n) l:=by
 subst hl;refine⟨_,_,rfl,Nat.le_refl _,by omega,fun i hi=>⟨S,0,rfl,?_,hok _ (List.getElem_mem hi)⟩⟩
 have:=h.c i hi;rw [←hF i hi] at this;simpa using this
end Go.Hs
namespace Go.Proofs.YtegkdnfeceomdaaGreat
open Go.RowKit Go.Hs
attribute [local irreducible] World.setCell World.alloc
end Go.Proofs.YtegkdnfeceomdaaGreat
