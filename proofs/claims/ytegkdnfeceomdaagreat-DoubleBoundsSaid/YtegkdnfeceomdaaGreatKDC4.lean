/- Bundled: what the texts HI HR say one after another. -/
import Derived.Test.YtegkdnfeceomdaaGreatKDC1
import Derived.Test.YtegkdnfeceomdaaGreatKDA11
import Derived.Test.YtegkdnfeceomdaaGreatKDA2
import Derived.Test.YtegkdnfeceomdaaGreatKDC3
import Derived.Test.YtegkdnfeceomdaaGreatKDC2
import Derived.OwnWalk
import Derived.Test.YtegkdnfeceomdaaGreatKDA4
set_option maxRecDepth 100000
set_option maxHeartbeats 16000000
set_option linter.unusedSimpArgs false
set_option linter.unusedVariables false
namespace Go.Hs
open Go.RowKit
def withinR (lo hi a b:Int):Bool:=decide (a≤lo)&&(decide (lo≤hi)&&decide (hi≤b))
end Go.Hs
namespace Go.Proofs.YtegkdnfeceomdaaGreat
open Go.RowKit Go.Hs
attribute [local irreducible] World.setCell World.alloc
theorem Covers_h (x : Hs.Fd) (day : Int) (w : World) :
    Calls Tryz.prog 108 #[.agg #[.bool x.there,.bool x.gone,.int .i64 x.owner,.int .i64 x.value,.int .i64 x.sown],.int .i64 day] w fun e w'=>e= .returned (.bool (x.covers day))∧Ext w w':=by
  obtain⟨th,go,ow,va,so⟩:=x;have HE:Hid (Hs.Fd.covers ⟨th,go,ow,va,so⟩ day=(th&&(!go&&decide (so≤day)))):=rfl;generalize Hs.Fd.covers ⟨th,go,ow,va,so⟩ day=r at*;simp only;cases th with
  | false =>
    have HR:Hid (r=false):=hHd (by rw [HE.out];rfl);clear HE;go_enter Tryz.func108,Tryz.ntmps108
    (go_wp2_with fail);go_ret;exact⟨ret_bool HR.out.symm,EX⟩
  | true =>
    cases go with
    | true =>
      have HR:Hid (r=false):=hHd (by rw [HE.out];rfl);clear HE;go_enter Tryz.func108,Tryz.ntmps108
      (go_wp2_with fail);go_ret;exact⟨ret_bool HR.out.symm,EX⟩
    | false =>
      by_cases h:so≤day
      · have HR : Hid (r = true) := hHd (by rw [HE.out]; simp [h]); clear HE; go_enter Tryz.func108, Tryz.ntmps108
        (go_wp2_with fail);go_ret;exact⟨ret_bool HR.out.symm,EX⟩
      · have HR : Hid (r = false) := hHd (by rw [HE.out]; simp [h]); clear HE; go_enter Tryz.func108, Tryz.ntmps108
        (go_wp2_with fail);go_ret;exact⟨ret_bool HR.out.symm,EX⟩
theorem Within_h (lo hi x y:Int) (w:World):
  Calls Tryz.prog 124 #[.agg #[.int .i64 lo,.int .i64 hi],.int .i64 x,.int .i64 y] w fun e w'=>e= .returned (.bool (withinR lo hi x y))∧Ext w w':=by
 have HE:Hid (withinR lo hi x y=(decide (x≤lo)&&(decide (lo≤hi)&&decide (hi≤y)))):=rfl;generalize withinR lo hi x y=r at*;by_cases h1:x≤lo
 ·by_cases h2 : lo ≤ hi
  ·by_cases h3 : hi ≤ y
   ·have HR : Hid (r = true) := hHd (by rw [HE.out]; simp [h1, h2, h3]); clear HE; go_enter Tryz.func124, Tryz.ntmps124
    (go_wp2_with fail);go_ret;exact⟨ret_bool HR.out.symm,EX⟩
   ·have HR : Hid (r = false) := hHd (by rw [HE.out]; simp [h3]); clear HE; go_enter Tryz.func124, Tryz.ntmps124
    (go_wp2_with fail);go_ret;exact⟨ret_bool HR.out.symm,EX⟩
  ·have HR : Hid (r = false) := hHd (by rw [HE.out]; simp [h2]); clear HE; go_enter Tryz.func124, Tryz.ntmps124
   (go_wp2_with fail);go_ret;exact⟨ret_bool HR.out.symm,EX⟩
 ·have HR : Hid (r = false) := hHd (by rw [HE.out]; simp [h1]); clear HE; go_enter Tryz.func124, Tryz.ntmps124
  (go_wp2_with fail);go_ret;exact⟨ret_bool HR.out.symm,EX⟩
theorem Count_h (lo hi:Int) (w:World) (h:0≤lo∧lo≤hi∧hi≤100000):
  Calls Tryz.prog 110 #[.agg #[.int .i64 lo,.int .i64 hi]] w fun e w'=>e= .returned (.int .i64 (hi - lo+1))∧Ext w w':=by
 have w1:IntKind.i64.wrap (hi - lo)=hi - lo:=IntWalk.i64_in _ (by omega);have w2:IntKind.i64.wrap (hi - lo+1)=hi - lo+1:=IntWalk.i64_in _ (by omega);go_enter Tryz.func110,Tryz.ntmps110
 (go_wp2_with fail);go_ret;exact⟨rfl,EX⟩
theorem run_max_h (a b c:Int) (h:max a b=c):∀w,(Builtin.max_ #[3,3] 3 #[.int .i64 a,.int .i64 b]).run Tryz.prog w= .ok (.int .i64 c) w:=fun w=>by
 have e:(if a<b then b else a)=c:=by rw [←h];split<;>omega
 rw [←e];simp [go_sem]
theorem Wider_h (lo hi n:Int) (w:World):
  Calls Tryz.prog 98 #[.agg #[.int .i64 lo,.int .i64 hi],.int .i64 n] w fun e w'=>e= .returned (.agg #[.int .i64 (min lo n),.int .i64 (max hi n)])∧Ext w w':=by
 have h1:=run_min_h lo n _ rfl;have h2:=run_max_h hi n _ rfl;generalize min lo n=x at*;generalize max hi n=y at*;have n0:(⟨w.heap.size+1,0,none⟩:Addr)≠⟨w.heap.size+1,1,none⟩:=by intro h;cases h
 go_enter Tryz.func98,Tryz.ntmps98
 (go_wp2_with fail);exact bodyPost_ret (v:= .agg #[.int .i64 x,.int .i64 y]) (by simp [results,Tryz.results98,go_sem]) rfl ⟨rfl,EX⟩
theorem Empty_h (w:World):
  Calls Tryz.prog 97 #[] w fun e w'=>e= .returned (.agg #[.int .i64 1099511627776,.int .i64 (-1099511627776)])∧Ext w w':=by
 have n0:(⟨w.heap.size,0,none⟩:Addr)≠⟨w.heap.size,1,none⟩:=by intro h;cases h
 go_enter Tryz.func97,Tryz.ntmps97
 (go_wp2_with fail);exact bodyPost_ret (v:= .agg #[.int .i64 1099511627776,.int .i64 (-1099511627776)]) (by simp [results,Tryz.results97,go_sem]) rfl ⟨rfl,EX⟩
theorem IsCover_h (A : CaseA) (c : DCas) (x : Cov) (w : World) (hm : CaseM w A c) (hs : 1 ≤ c.soc ∧ c.soc ≤ 3) (ho : 1 ≤ c.bk.owners ∧ c.bk.owners ≤ 4) :
    Calls Tryz.prog 125 #[A.v c,x.c.val] w fun e w'=>e= .returned (.bool (covB c x))∧Ext w w':=by
  have HE:Hid (covB c x=(socB c x.soc&&(inR x.owner 0 (c.bk.owners - 1)&&(numberB c.bk x.parcel&&(inR x.sum 0 1000&&(dayB c.bk x.till&&ofR x.slo x.shi c.bk.last)))))):=rfl;have hle:numsB c.bk≤c.bk.pars.length+c.bk.ents.length:=numsTo_le c.bk _;have l1:=hm.l1.2;have l2:=hm.l2.2;have H1:Hid (∀W,Calls Tryz.prog 21 #[.int .i64 x.soc,.int .i64 0,.int .i64 (c.soc - 1)] W fun e' w'=>e'= .returned (.bool (socB c x.soc))∧Ext W w'):=hHd (In_h x.soc 0 (c.soc - 1));have H2:=hHd (In_h x.owner 0 (c.bk.owners - 1));have H3:=hHd (fun W (hx:Ext w W)=>Every_h c.bk (A.b c) W (hm.bk.ext hx));have H4:Hid (∀W,Calls Tryz.prog 21 #[.int .i64 x.parcel,.int .i64 0,.int .i64 ((numsB c.bk:Int) - 1)] W fun e' w'=>e'= .returned (.bool (numberB c.bk x.parcel))∧Ext W w'):=hHd (In_h x.parcel 0 ((numsB c.bk:Int) - 1));have H5:=hHd (In_h x.sum 0 1000);have H6:Hid (∀W,Calls Tryz.prog 21 #[.int .i64 x.till,.int .i64 0,.int .i64 c.bk.last] W fun e' w'=>e'= .returned (.bool (dayB c.bk x.till))∧Ext W w'):=hHd (In_h x.till 0 c.bk.last);have H7:Hid (∀W,Calls Tryz.prog 124 #[.agg #[.int .i64 x.slo,.int .i64 x.shi],.int .i64 0,.int .i64 c.bk.last] W fun e' w'=>e'= .returned (.bool (ofR x.slo x.shi c.bk.last))∧Ext W w'):=hHd (Within_h x.slo x.shi 0 c.bk.last);have w1:IntKind.i64.wrap (c.soc - 1)=c.soc - 1:=IntWalk.i64_in _ (by omega);have w2:IntKind.i64.wrap (c.bk.owners - 1)=c.bk.owners - 1:=IntWalk.i64_in _ (by omega);have w3:IntKind.i64.wrap ((numsB c.bk:Int) - 1)=(numsB c.bk:Int) - 1:=IntWalk.i64_in _ (by omega);clear hm hle l1 l2 hs ho;generalize covB c x=r at*;generalize socB c x.soc=b1 at*;generalize inR x.owner 0 (c.bk.owners - 1)=b2 at*;generalize numberB c.bk x.parcel=b3 at*;generalize inR x.sum 0 1000=b4 at*;generalize dayB c.bk x.till=b5 at*;generalize ofR x.slo x.shi c.bk.last=b6 at*;generalize numsB c.bk=nn at*
  obtain⟨a1,c1,a2,c2,a3,c3,a4,c4⟩:=A;unfold CaseA.v CaseA.b caseV bkV at*;simp only at*;generalize c.bk.pars.length=n1 at*;generalize c.bk.ents.length=n2 at*;generalize c.covs.length=n3 at*;generalize c.clms.length=n4 at*;generalize c.bk.last=last at*;generalize c.bk.owners=ow at*;generalize c.soc=soc at*;generalize c.day=day at*;generalize c.parcel=pcl at*;generalize c.llo=llo at*;generalize c.lhi=lhi at*;obtain⟨xs,xo,xp,xm,xt,xl,xh⟩:=x;simp only at*;go_enter Tryz.func125,Tryz.ntmps125
  (go_wp2_with fail);obtain⟨W,hW⟩:∃W,W=(((w.alloc (.cells #[.int .i64 last,.int .i64 ow,.slice a1 n1 c1,.slice a2 n2 c2,.int .i64 soc,.int .i64 day,.int .i64 pcl,.slice a3 n3 c3,.int .i64 llo,.int .i64 lhi,.slice a4 n4 c4] 41)).alloc (.cells #[.int .i64 xs,.int .i64 xo,.int .i64 xp,.int .i64 xm,.int .i64 xt,.int .i64 xl,.int .i64 xh] 108)).alloc (.cells #[.int .i64 last,.int .i64 ow,.slice a1 n1 c1,.slice a2 n2 c2] 35)):=⟨_,rfl⟩;have X:Ext w W:=by subst hW;exact EX
  have HS:Hid (∀w',Ext W w'→(w'.cell? ⟨w.heap.size,0,none⟩=some (.int .i64 last)∧w'.cell? ⟨w.heap.size,1,none⟩=some (.int .i64 ow)∧w'.cell? ⟨w.heap.size,2,none⟩=some (.slice a1 n1 c1)∧w'.cell? ⟨w.heap.size,3,none⟩=some (.slice a2 n2 c2)∧w'.cell? ⟨w.heap.size,4,none⟩=some (.int .i64 soc)∧w'.cell? ⟨w.heap.size,5,none⟩=some (.int .i64 day)∧w'.cell? ⟨w.heap.size,6,none⟩=some (.int .i64 pcl)∧w'.cell? ⟨w.heap.size,7,none⟩=some (.slice a3 n3 c3)∧w'.cell? ⟨w.heap.size,8,none⟩=some (.int .i64 llo)∧w'.cell? ⟨w.heap.size,9,none⟩=some (.int .i64 lhi)∧w'.cell? ⟨w.heap.size,10,none⟩=some (.slice a4 n4 c4)∧w'.cell? ⟨w.heap.size+1,0,none⟩=some (.int .i64 xs)∧w'.cell? ⟨w.heap.size+1,1,none⟩=some (.int .i64 xo)∧w'.cell? ⟨w.heap.size+1,2,none⟩=some (.int .i64 xp)∧w'.cell? ⟨w.heap.size+1,3,none⟩=some (.int .i64 xm)∧w'.cell? ⟨w.heap.size+1,4,none⟩=some (.int .i64 xt)∧w'.cell? ⟨w.heap.size+1,5,none⟩=some (.int .i64 xl)∧w'.cell? ⟨w.heap.size+1,6,none⟩=some (.int .i64 xh)∧w'.cell? ⟨w.heap.size+1+1,0,none⟩=some (.int .i64 last)∧w'.cell? ⟨w.heap.size+1+1,1,none⟩=some (.int .i64 ow)∧w'.cell? ⟨w.heap.size+1+1,2,none⟩=some (.slice a1 n1 c1)∧w'.cell? ⟨w.heap.size+1+1,3,none⟩=some (.slice a2 n2 c2))∧Ext W w'):=hHd (fun w' hx=>⟨by subst hW;and_intros<;>exact hx.keep (by simp [go_sem]),hx⟩);have HSf:Hid (∀w',Ext W w'→∀o,w'.frozen? ⟨w.heap.size+1+1,o,none⟩=false):=hHd (fun w' hx o=>(hx.frozen (by subst hW;simp)).trans (by subst hW;simp [go_sem]));have HSz:w.heap.size+1+1+1≤W.heap.size:=by subst hW;simp
  rw [←hW];clear hW;cases b1 with
  | false =>
    obtain rfl:r=false:=by rw [HE.out];first|rfl|simp
    clear HE;refine wp_region_quiet (C:=Ext W) (by kernel_rfl) (by kernel_rfl) (Ext.drew EX) ?_
    rw [tl]
    repeat (first
      |go_big_quiet_skip
      | (go_big_quiet_want
         first
          |(go_big_quiet_op;go_big_quiet_on)
          | (apply Exists.intro
             refine⟨fun w' hxw=> ?_,?_⟩
             focus (obtain⟨⟨-,-,-,-,q4,-,-,-,-,-,-,x0,x1,x2,x3,x4,x5,x6,p0,p1,p2,p3⟩,-⟩:=HS.out w' hxw;go_simp;first|exact rfl|(first|(go_at_call 123;(with_reducible refine(H3.out w' (X.trans hxw)).mono ?_;exact fun e w'' h=>⟨h.1,hxw.trans h.2⟩))|(go_at_call 124;(with_reducible refine(H7.out w').mono ?_;exact fun e w'' h=>⟨h.1,hxw.trans h.2⟩))|(go_at_call 21;first|(with_reducible refine(H1.out w').mono ?_;exact fun e w'' h=>⟨h.1,hxw.trans h.2⟩)|(with_reducible refine(H2.out w').mono ?_;exact fun e w'' h=>⟨h.1,hxw.trans h.2⟩)|(with_reducible refine(H4.out w').mono ?_;exact fun e w'' h=>⟨h.1,hxw.trans h.2⟩)|(with_reducible refine(H5.out w').mono ?_;exact fun e w'' h=>⟨h.1,hxw.trans h.2⟩)|(with_reducible refine(H6.out w').mono ?_;exact fun e w'' h=>⟨h.1,hxw.trans h.2⟩))))
             simp only [Act.put,List.setIfInBounds_toArray,List.set_cons_zero,List.set_cons_succ];go_big_quiet_on)))
    refine wpQuiet_nil ?_
    intro w2 hx2
    (go_wp2_with fail);go_ret;exact⟨rfl,X.trans hx2⟩
  | true =>
    cases b2 with
    | false =>
      obtain rfl:r=false:=by rw [HE.out];first|rfl|simp
      clear HE;refine wp_region_quiet (C:=Ext W) (by kernel_rfl) (by kernel_rfl) (Ext.drew EX) ?_
      rw [tl]
      repeat (first
        |go_big_quiet_skip
        | (go_big_quiet_want
           first
            |(go_big_quiet_op;go_big_quiet_on)
            | (apply Exists.intro
               refine⟨fun w' hxw=> ?_,?_⟩
               focus (obtain⟨⟨-,-,-,-,q4,-,-,-,-,-,-,x0,x1,x2,x3,x4,x5,x6,p0,p1,p2,p3⟩,-⟩:=HS.out w' hxw;go_simp;first|exact rfl|(first|(go_at_call 123;(with_reducible refine(H3.out w' (X.trans hxw)).mono ?_;exact fun e w'' h=>⟨h.1,hxw.trans h.2⟩))|(go_at_call 124;(with_reducible refine(H7.out w').mono ?_;exact fun e w'' h=>⟨h.1,hxw.trans h.2⟩))|(go_at_call 21;first|(with_reducible refine(H1.out w').mono ?_;exact fun e w'' h=>⟨h.1,hxw.trans h.2⟩)|(with_reducible refine(H2.out w').mono ?_;exact fun e w'' h=>⟨h.1,hxw.trans h.2⟩)|(with_reducible refine(H4.out w').mono ?_;exact fun e w'' h=>⟨h.1,hxw.trans h.2⟩)|(with_reducible refine(H5.out w').mono ?_;exact fun e w'' h=>⟨h.1,hxw.trans h.2⟩)|(with_reducible refine(H6.out w').mono ?_;exact fun e w'' h=>⟨h.1,hxw.trans h.2⟩))))
               simp only [Act.put,List.setIfInBounds_toArray,List.set_cons_zero,List.set_cons_succ];go_big_quiet_on)))
      refine wpQuiet_nil ?_
      intro w2 hx2
      (go_wp2_with fail);go_ret;exact⟨rfl,X.trans hx2⟩
    | true =>
      cases b3 with
      | false =>
        obtain rfl:r=false:=by rw [HE.out];first|rfl|simp
        clear HE;refine wp_region_quiet (C:=Ext W) (by kernel_rfl) (by kernel_rfl) (Ext.drew EX) ?_
        rw [tl]
        repeat (first
          |go_big_quiet_skip
          | (go_big_quiet_want
             first
              |(go_big_quiet_op;go_big_quiet_on)
              | (apply Exists.intro
                 refine⟨fun w' hxw=> ?_,?_⟩
                 focus (obtain⟨⟨-,-,-,-,q4,-,-,-,-,-,-,x0,x1,x2,x3,x4,x5,x6,p0,p1,p2,p3⟩,-⟩:=HS.out w' hxw;go_simp;first|exact rfl|(first|(go_at_call 123;(with_reducible refine(H3.out w' (X.trans hxw)).mono ?_;exact fun e w'' h=>⟨h.1,hxw.trans h.2⟩))|(go_at_call 124;(with_reducible refine(H7.out w').mono ?_;exact fun e w'' h=>⟨h.1,hxw.trans h.2⟩))|(go_at_call 21;first|(with_reducible refine(H1.out w').mono ?_;exact fun e w'' h=>⟨h.1,hxw.trans h.2⟩)|(with_reducible refine(H2.out w').mono ?_;exact fun e w'' h=>⟨h.1,hxw.trans h.2⟩)|(with_reducible refine(H4.out w').mono ?_;exact fun e w'' h=>⟨h.1,hxw.trans h.2⟩)|(with_reducible refine(H5.out w').mono ?_;exact fun e w'' h=>⟨h.1,hxw.trans h.2⟩)|(with_reducible refine(H6.out w').mono ?_;exact fun e w'' h=>⟨h.1,hxw.trans h.2⟩))))
                 simp only [Act.put,List.setIfInBounds_toArray,List.set_cons_zero,List.set_cons_succ];go_big_quiet_on)))
        refine wpQuiet_nil ?_
        intro w2 hx2
        (go_wp2_with fail);go_ret;exact⟨rfl,X.trans hx2⟩
      | true =>
        cases b4 with
        | false =>
          obtain rfl:r=false:=by rw [HE.out];first|rfl|simp
          clear HE;refine wp_region_quiet (C:=Ext W) (by kernel_rfl) (by kernel_rfl) (Ext.drew EX) ?_
          rw [tl]
          repeat (first
            |go_big_quiet_skip
            | (go_big_quiet_want
               first
                |(go_big_quiet_op;go_big_quiet_on)
                | (apply Exists.intro
                   refine⟨fun w' hxw=> ?_,?_⟩
                   focus (obtain⟨⟨-,-,-,-,q4,-,-,-,-,-,-,x0,x1,x2,x3,x4,x5,x6,p0,p1,p2,p3⟩,-⟩:=HS.out w' hxw;go_simp;first|exact rfl|(first|(go_at_call 123;(with_reducible refine(H3.out w' (X.trans hxw)).mono ?_;exact fun e w'' h=>⟨h.1,hxw.trans h.2⟩))|(go_at_call 124;(with_reducible refine(H7.out w').mono ?_;exact fun e w'' h=>⟨h.1,hxw.trans h.2⟩))|(go_at_call 21;first|(with_reducible refine(H1.out w').mono ?_;exact fun e w'' h=>⟨h.1,hxw.trans h.2⟩)|(with_reducible refine(H2.out w').mono ?_;exact fun e w'' h=>⟨h.1,hxw.trans h.2⟩)|(with_reducible refine(H4.out w').mono ?_;exact fun e w'' h=>⟨h.1,hxw.trans h.2⟩)|(with_reducible refine(H5.out w').mono ?_;exact fun e w'' h=>⟨h.1,hxw.trans h.2⟩)|(with_reducible refine(H6.out w').mono ?_;exact fun e w'' h=>⟨h.1,hxw.trans h.2⟩))))
                   simp only [Act.put,List.setIfInBounds_toArray,List.set_cons_zero,List.set_cons_succ];go_big_quiet_on)))
          refine wpQuiet_nil ?_
          intro w2 hx2
          (go_wp2_with fail);go_ret;exact⟨rfl,X.trans hx2⟩
        | true =>
          cases b5 with
          | false =>
            obtain rfl:r=false:=by rw [HE.out];first|rfl|simp
            clear HE;refine wp_region_quiet (C:=Ext W) (by kernel_rfl) (by kernel_rfl) (Ext.drew EX) ?_
            rw [tl]
            repeat (first
              |go_big_quiet_skip
              | (go_big_quiet_want
                 first
                  |(go_big_quiet_op;go_big_quiet_on)
                  | (apply Exists.intro
                     refine⟨fun w' hxw=> ?_,?_⟩
                     focus (obtain⟨⟨-,-,-,-,q4,-,-,-,-,-,-,x0,x1,x2,x3,x4,x5,x6,p0,p1,p2,p3⟩,-⟩:=HS.out w' hxw;go_simp;first|exact rfl|(first|(go_at_call 123;(with_reducible refine(H3.out w' (X.trans hxw)).mono ?_;exact fun e w'' h=>⟨h.1,hxw.trans h.2⟩))|(go_at_call 124;(with_reducible refine(H7.out w').mono ?_;exact fun e w'' h=>⟨h.1,hxw.trans h.2⟩))|(go_at_call 21;first|(with_reducible refine(H1.out w').mono ?_;exact fun e w'' h=>⟨h.1,hxw.trans h.2⟩)|(with_reducible refine(H2.out w').mono ?_;exact fun e w'' h=>⟨h.1,hxw.trans h.2⟩)|(with_reducible refine(H4.out w').mono ?_;exact fun e w'' h=>⟨h.1,hxw.trans h.2⟩)|(with_reducible refine(H5.out w').mono ?_;exact fun e w'' h=>⟨h.1,hxw.trans h.2⟩)|(with_reducible refine(H6.out w').mono ?_;exact fun e w'' h=>⟨h.1,hxw.trans h.2⟩))))
                     simp only [Act.put,List.setIfInBounds_toArray,List.set_cons_zero,List.set_cons_succ];go_big_quiet_on)))
            refine wpQuiet_nil ?_
            intro w2 hx2
            (go_wp2_with fail);go_ret;exact⟨rfl,X.trans hx2⟩
          | true =>
            cases b6 with
            | false =>
              obtain rfl:r=false:=by rw [HE.out];first|rfl|simp
              clear HE;refine wp_region_quiet (C:=Ext W) (by kernel_rfl) (by kernel_rfl) (Ext.drew EX) ?_
              rw [tl]
              repeat (first
                |go_big_quiet_skip
                | (go_big_quiet_want
                   first
                    |(go_big_quiet_op;go_big_quiet_on)
                    | (apply Exists.intro
                       refine⟨fun w' hxw=> ?_,?_⟩
                       focus (obtain⟨⟨-,-,-,-,q4,-,-,-,-,-,-,x0,x1,x2,x3,x4,x5,x6,p0,p1,p2,p3⟩,-⟩:=HS.out w' hxw;go_simp;first|exact rfl|(first|(go_at_call 123;(with_reducible refine(H3.out w' (X.trans hxw)).mono ?_;exact fun e w'' h=>⟨h.1,hxw.trans h.2⟩))|(go_at_call 124;(with_reducible refine(H7.out w').mono ?_;exact fun e w'' h=>⟨h.1,hxw.trans h.2⟩))|(go_at_call 21;first|(with_reducible refine(H1.out w').mono ?_;exact fun e w'' h=>⟨h.1,hxw.trans h.2⟩)|(with_reducible refine(H2.out w').mono ?_;exact fun e w'' h=>⟨h.1,hxw.trans h.2⟩)|(with_reducible refine(H4.out w').mono ?_;exact fun e w'' h=>⟨h.1,hxw.trans h.2⟩)|(with_reducible refine(H5.out w').mono ?_;exact fun e w'' h=>⟨h.1,hxw.trans h.2⟩)|(with_reducible refine(H6.out w').mono ?_;exact fun e w'' h=>⟨h.1,hxw.trans h.2⟩))))
                       simp only [Act.put,List.setIfInBounds_toArray,List.set_cons_zero,List.set_cons_succ];go_big_quiet_on)))
              refine wpQuiet_nil ?_
              intro w2 hx2
              (go_wp2_with fail);go_ret;exact⟨rfl,X.trans hx2⟩
            | true =>
              obtain rfl:r=true:=by rw [HE.out];first|rfl|simp
              clear HE;refine wp_region_quiet (C:=Ext W) (by kernel_rfl) (by kernel_rfl) (Ext.drew EX) ?_
              rw [tl]
              repeat (first
                |go_big_quiet_skip
                | (go_big_quiet_want
                   first
                    |(go_big_quiet_op;go_big_quiet_on)
                    | (apply Exists.intro
                       refine⟨fun w' hxw=> ?_,?_⟩
                       focus (obtain⟨⟨-,-,-,-,q4,-,-,-,-,-,-,x0,x1,x2,x3,x4,x5,x6,p0,p1,p2,p3⟩,-⟩:=HS.out w' hxw;go_simp;first|exact rfl|(first|(go_at_call 123;(with_reducible refine(H3.out w' (X.trans hxw)).mono ?_;exact fun e w'' h=>⟨h.1,hxw.trans h.2⟩))|(go_at_call 124;(with_reducible refine(H7.out w').mono ?_;exact fun e w'' h=>⟨h.1,hxw.trans h.2⟩))|(go_at_call 21;first|(with_reducible refine(H1.out w').mono ?_;exact fun e w'' h=>⟨h.1,hxw.trans h.2⟩)|(with_reducible refine(H2.out w').mono ?_;exact fun e w'' h=>⟨h.1,hxw.trans h.2⟩)|(with_reducible refine(H4.out w').mono ?_;exact fun e w'' h=>⟨h.1,hxw.trans h.2⟩)|(with_reducible refine(H5.out w').mono ?_;exact fun e w'' h=>⟨h.1,hxw.trans h.2⟩)|(with_reducible refine(H6.out w').mono ?_;exact fun e w'' h=>⟨h.1,hxw.trans h.2⟩))))
                       simp only [Act.put,List.setIfInBounds_toArray,List.set_cons_zero,List.set_cons_succ];go_big_quiet_on)))
              refine wpQuiet_nil ?_
              intro w2 hx2
              (go_wp2_with fail);go_ret;exact⟨rfl,X.trans hx2⟩
end Go.Proofs.YtegkdnfeceomdaaGreat
namespace Go.Hs
open Go.RowKit
structure RowH (S n:Nat) (F:Nat→Int) (w:World):Prop where
 c:∀j,j<n→w.cell? ⟨S,j,none⟩=some (.int .i64 (F j))
 fr:∀o,w.frozen? ⟨S,o,none⟩=false
 lt:S<w.heap.size
theorem RowH.ext {S n:Nat} {F:Nat→Int} {w W:World} (h:RowH S n F w) (hx:Ext w W):RowH S n F W:=⟨fun j hj=>hx.keep (h.c j hj),fun o=>(hx.frozen h.lt).trans (h.fr o),Nat.lt_of_lt_of_le h.lt hx.size⟩
theorem RowH.put {S n:Nat} {F G:Nat→Int} {w:World} (h:RowH S n F w) (k:Nat) (v:Int) (hk:k<n) (hG:∀j,j<n→G j=if j=k then v else F j):RowH S n G (w.setCell ⟨S,k,none⟩ (.int .i64 v)):=by
 refine⟨fun j hj=> ?_,fun o=>by rw [World.frozen?_setCell];exact h.fr o,by rw [size_set'];exact h.lt⟩
 rw [hG j hj];by_cases e:j=k
 ·subst e;rw [if_pos rfl];exact World.cell?_setCell_same _ _ _ (h.c j hj)
 ·rw [if_neg e];exact cell_ne (.inr e) (h.c j hj)
theorem RowH.ints {S n:Nat} {F:Nat→Int} {w:World} {l:List Int} (h:RowH S n F w) (hl:l.length=n) (h1:n≤1000) (hF:∀j (h:j<l.length),l[j]=F j) (hok:∀x∈l,i64ok x):IntsV w (.slice (some ⟨S,0,none⟩) n n) l:=by
 subst hl;refine⟨_,_,rfl,Nat.le_refl _,by omega,fun i hi=>⟨S,0,rfl,?_,hok _ (List.getElem_mem hi)⟩⟩
 have:=h.c i hi;rw [←hF i hi] at this;simpa using this
theorem made_row {w:World} {n:Nat} {t:TypeId} :RowH w.heap.size n (fun _=>0) (w.alloc (.cells (madeCells #[.int .i64 0] n) t)):=by
 refine⟨fun j hj=> ?_,fun o=>by simp [go_sem],by simp [go_sem]⟩
 have:(madeCells #[.int .i64 0] n)[j]?=some (Value.int .i64 0):=by
  simp only [madeCells,Array.getElem?_map,Array.getElem?_range,hj,if_true,Option.map_some];simp [Nat.mod_one]
 simp [go_sem,this]
def SumQ (c:DCas) (t:DTr) (w:World) (e:Ending) (w':World):Prop:=
 (damD c t=none→∃v,e= .returned (.tuple #[.int .i64 0,v,.bool false])∧IntsV w' v (List.replicate c.soc.toNat 0))∧
 (∀d,damD c t=some d→∃v,e= .returned (.tuple #[.int .i64 d.amount,v,.bool true])∧IntsV w' v (sumsL d c.soc.toNat))∧Ext w w'
theorem bitN_zero:bitN 0=fun _=>false:=by funext i;simp [bitN]
end Go.Hs
namespace Go.Proofs.YtegkdnfeceomdaaGreat
open Go.RowKit Go.Hs
attribute [local irreducible] World.setCell World.alloc
theorem Sums_h (A : CaseA) (c : DCas) (t : DTr) (vd vs vst : Value) (w : World) (hm : CaseM w A c) (hc : caseD c = 0) (ht : TruOK c t) (h1 : IntsV w vd t.days) (h2 : IntsV w vs t.sown) (h3 : IntsV w vst t.starts) :
    Calls Tryz.prog 45 #[A.v c,.agg #[vd,vs,vst,.int .i64 t.loss]] w (SumQ c t w):=by
  obtain⟨i0,hi0,hz0,hz1,hz2⟩:=info_parts info_int;have hS:=(caseD_zero hc).2.1;have hsoc:=hS.soc;have hls:=ht.loss;have hlc:=hS.loss;have hlb:0≤t.loss∧t.loss≤100:=by omega
  have hmk:∀W:World,(Instr.makeSlice 22 (.int .i64 c.soc) (.int .i64 c.soc)).run Tryz.prog W= .ok (.slice (some ⟨W.heap.size,0,none⟩) c.soc.toNat c.soc.toNat) (W.alloc (.cells (madeCells #[.int .i64 0] c.soc.toNat) 3)):=fun W=>by
    have h:=run_makeSlice (P:=Tryz.prog) W 22 3 i0 (.int .i64 0) Tryz.underlying22 hi0 hz0 .i64 .i64 c.soc c.soc (by omega) (Int.le_refl _) (by rw [hz1];omega) (by rw [hz2];omega) (by omega);rw [hz1,Nat.mul_one] at h;exact h
  have hAT:∀W,Ext w W→Calls Tryz.prog 107 #[A.b c,.agg #[vd,vs],.int .i64 c.day,.int .i64 0] W (AtQ c.bk t.days t.sown c.day (fun _=>false) W):=fun W hx=>by
    have h:=At_h c.bk (A.b c) t.days t.sown vd vs c.day 0 W (hm.bk.ext hx) hS.bk (h1.ext hx) (h2.ext hx) ht.l1 ht.l2 (by decide);rw [bitN_zero] at h;exact h
  have HAT:=hHd hAT;clear hAT;have HCV:=hHd Covers_h;have hp0:=hS.parcel;simp only [numberB,inR_iff] at hp0;obtain⟨p,hp⟩:∃p:Nat,c.parcel=(p:Int):=⟨c.parcel.toNat,by omega⟩;have HPT:Hid (c.parcel.toNat=p):=hHd (by omega);have hpN:p<numsB c.bk:=by omega
  have HDN:Hid (stateS c.bk t.days t.sown (fun _=>false) (c.bk.last.toNat+1)=none→damD c t=none):=hHd (dam_none hc ht);have HDS:Hid (∀f f1,stateS c.bk t.days t.sown (fun _=>false) (c.bk.last.toNat+1)=some f1→stateS c.bk t.days t.sown (fun _=>false) (c.day.toNat+1)=some f→damD c t=some ⟨(f p).value*t.loss / 100,sumsD c (f p) t.starts 0 c.covs.length,sumsD c (f p) t.starts 1 c.covs.length,sumsD c (f p) t.starts 2 c.covs.length⟩):=hHd (fun f f1 h1 h2=>by have:=dam_some hc ht h1 h2;rw [HPT.out] at this;exact this);have HHI:=hHd (fun d h=>dmg_high hc ht (d:=d) h);have HZV:=hHd (fun f h=>stateS_z (b:=c.bk) (days:=t.days) (sown:=t.sown) (out:=fun _=>false) (c.day.toNat+1) (f:=f) h);have HVB:=hHd (fun f h=>stateS_ok hS.bk (days:=t.days) (sown:=t.sown) (out:=fun _=>false) (c.day.toNat+1) (f:=f) h);have HDAY:=hHd hS.day;have HSB:=hHd (fun x j n h=>sumsD_bd hS x t.starts j n h);have HSN:=hHd (fun x j n=>sumsD_next c x t.starts j n);have HSO:=hHd (fun k hk=>hS.cov k hk);have HNC:=hHd hS.nc;have hl3:=ht.l3;have HCO:=hHd (fun W (hx:Ext w W)=>Cells7.ext hx hm.covs);obtain⟨ast,cst,rfl,-,-,-⟩:=id h3
  have HST:Hid (∀W,Ext w W→∀i,i<c.covs.length→∃b' off,ast=some ⟨b',off,none⟩∧W.cell? ⟨b',off+i,none⟩=some (.int .i64 (t.starts.getD i 0))):=hHd (fun W hx i hi=>by
    obtain⟨p,c',e,-,hc⟩:=IntsV.cellsI (h3.ext hx);cases e
    exact hc i (by omega))
  have HL3:=hHd hl3;have HPP:=hHd hp;clear hm hS ht hlc h1 h2 h3 hl3 hp0 hp;obtain⟨a1,c1,a2,c2,a3,c3,a4,c4⟩:=A;unfold CaseA.v CaseA.b caseV bkV at*;simp only at*;go_enter Tryz.func45,Tryz.ntmps45
  go_upto_region 1 with fail
  obtain⟨W,hW,X,HS,HSf,HSz⟩:=bx11_4 w 41 (.int .i64 c.bk.last) (.int .i64 c.bk.owners) (.slice a1 c.bk.pars.length c1) (.slice a2 c.bk.ents.length c2) (.int .i64 c.soc) (.int .i64 c.day) (.int .i64 c.parcel) (.slice a3 c.covs.length c3) (.int .i64 c.llo) (.int .i64 c.lhi) (.slice a4 c.clms.length c4) 45 (vd) (vs) (.slice ast t.starts.length cst) (.int .i64 t.loss);rw [hW];clear hW;obtain⟨⟨q0,q1,q2,q3,q4,q5,q6,q7,q8,q9,q10,t0,t1,t2,t3⟩,-⟩:=HS.out W (Ext.refl _);have hst0:∀o,(W.alloc o).cell? ⟨w.heap.size,0,none⟩=some (.int .i64 c.bk.last):=fun o=>((Ext.refl W).alloc o).keep q0
  go_upto_region 2 with fail
  have R0:RowH W.heap.size c.soc.toNat (fun _=>0) (W.alloc (.cells (madeCells #[.int .i64 0] c.soc.toNat) 3)):=made_row;have XA:Ext W (W.alloc (.cells (madeCells #[.int .i64 0] c.soc.toNat) 3)):=(Ext.refl W).alloc _;have hzA:W.heap.size<(W.alloc (.cells (madeCells #[.int .i64 0] c.soc.toNat) 3)).heap.size:=by simp
  generalize (W.alloc (.cells (madeCells #[.int .i64 0] c.soc.toNat) 3))=WA at*;clear q0 q1 q2 q3 q4 q5 q6 q7 q8 q9 q10 t0 t1 t2 t3 hst0;obtain⟨⟨q0,q1,q2,q3,q4,q5,q6,q7,q8,q9,q10,t0,t1,t2,t3⟩,-⟩:=HS.out WA XA;have HWS:Hid (w.heap.size≤W.heap.size):=hHd X.size;(go_wp2_with fail);(with_reducible refine(HAT.out _ (X.trans XA)).mono ?_);rintro e w1 ⟨hno,hyes,hx1⟩;clear HAT;have R1:=hHd (R0.ext hx1);have X1:=XA.trans hx1;have XX:=X.trans X1;clear R0;cases hst:stateS c.bk t.days t.sown (fun _=>false) (c.bk.last.toNat+1) with
  | none =>
    obtain rfl:=hno hst;have HD:=hHd (HDN.out hst);clear hno hyes hst HDN HDS;(go_wp2_with fail);go_ret3;refine⟨fun _=>⟨_,rfl,R1.out.ints (by simp) (by omega) (fun j hj=>by simp) (fun x hx=>by simp at hx;unfold i64ok;omega)⟩,fun d h=>(by rw [HD.out] at h;cases h),XX⟩
  | some f1 =>
    obtain⟨v,rfl,hin,-⟩:=hyes f1 hst;obtain⟨g,q,f,rfl,hq,hgw,hsf,hfr⟩:=hin HDAY.out;have HD:=hHd (HDS.out f f1 hst hsf);have HZ:=hHd (HZV.out f hsf p);have HV:=hHd (HVB.out f hsf p);obtain⟨g0,g1,g2,g3,g4⟩:=hfr p hpN;clear hno hyes hst hsf HDN HDS HZV HVB hin hfr;generalize f p=x at*;obtain⟨th,gn,ow,va,so⟩:=x;simp only at g0 g1 g2 g3 g4;have hn0:(0:Int)≤c.parcel:=by have:=HPP.out;omega
    have hn1:c.parcel<(numsB c.bk:Int):=by have:=HPP.out;omega
    have hpt:c.parcel.toNat=p:=HPT.out;clear q0 q1 q2 q3 q4 q5 q6 q7 q8 q9 q10 t0 t1 t2 t3;obtain⟨⟨q0,q1,q2,q3,q4,q5,q6,q7,q8,q9,q10,t0,t1,t2,t3⟩,-⟩:=HS.out w1 X1;go_upto_region 6 with fail
    obtain⟨W2,hW2⟩:∃W,W=(w1.alloc (.cells #[.bool th,.bool gn,.int .i64 ow,.int .i64 va,.int .i64 so] 186)):=⟨_,rfl⟩;have X2:Ext w1 W2:=by subst hW2;exact(Ext.refl w1).alloc _
    have HX:Hid (∀V,Ext W2 V→V.cell? ⟨w1.heap.size,0,none⟩=some (.bool th)∧V.cell? ⟨w1.heap.size,1,none⟩=some (.bool gn)∧V.cell? ⟨w1.heap.size,2,none⟩=some (.int .i64 ow)∧V.cell? ⟨w1.heap.size,3,none⟩=some (.int .i64 va)∧V.cell? ⟨w1.heap.size,4,none⟩=some (.int .i64 so)):=hHd (fun V hx=>by subst hW2;exact⟨hx.keep (by simp [go_sem]),hx.keep (by simp [go_sem]),hx.keep (by simp [go_sem]),hx.keep (by simp [go_sem]),hx.keep (by simp [go_sem])⟩);rw [←hW2];clear hW2 g0 g1 g2 g3 g4;have R2:=hHd (R1.out.ext X2);clear R1;have XW2:Ext W W2:=X1.trans X2
    have HSX:Hid (∀V,KP (fun j=>j=W.heap.size) W2 V→(V.cell? ⟨w.heap.size,5,none⟩=some (.int .i64 c.day)∧V.cell? ⟨w.heap.size,6,none⟩=some (.int .i64 c.parcel)∧V.cell? ⟨w.heap.size,7,none⟩=some (.slice a3 c.covs.length c3)∧V.cell? ⟨w.heap.size+1,2,none⟩=some (.slice ast t.starts.length cst)∧V.cell? ⟨w.heap.size+1,3,none⟩=some (.int .i64 t.loss))∧(V.cell? ⟨w1.heap.size,0,none⟩=some (.bool th)∧V.cell? ⟨w1.heap.size,1,none⟩=some (.bool gn)∧V.cell? ⟨w1.heap.size,2,none⟩=some (.int .i64 ow)∧V.cell? ⟨w1.heap.size,3,none⟩=some (.int .i64 va)∧V.cell? ⟨w1.heap.size,4,none⟩=some (.int .i64 so))∧Ext w V):=hHd (fun V hk=>by
      obtain⟨⟨-,-,-,-,-,q5,q6,q7,-,-,-,-,-,t2,t3⟩,-⟩:=HS.out W2 XW2;obtain⟨x0,x1,x2,x3,x4⟩:=HX.out W2 (Ext.refl _);have n0:w.heap.size≠W.heap.size:=by have:=HSz;omega
      have n1:w.heap.size+1≠W.heap.size:=by have:=HSz;omega
      have n2:w1.heap.size≠W.heap.size:=by have:=hx1.size;have:=hzA;omega
      exact⟨⟨hk.keep n0 q5,hk.keep n0 q6,hk.keep n0 q7,hk.keep n1 t2,hk.keep n1 t3⟩,⟨hk.keep n2 x0,hk.keep n2 x1,hk.keep n2 x2,hk.keep n2 x3,hk.keep n2 x4⟩,hk.toExt (XX.trans X2) (fun k hk'=>by have e:k=W.heap.size:=hk';have:=HWS.out;omega)⟩)
    clear q0 q1 q2 q3 q4 q5 q6 q7 q8 q9 q10 t0 t1 t2 t3;(go_wp2_with fail);go_loopw [11] (fun s11 wr=>∃k:Nat,k≤c.covs.length∧s11= .int .i64 k∧Hid (RowH W.heap.size c.soc.toNat (fun j=>sumsD c ⟨th,gn,ow,va,so⟩ t.starts j k) wr)∧KP (fun j=>j=W.heap.size) W2 wr) (fun s _=>c.covs.length - (intOf s).toNat)
    case atStart=>exact⟨0,Nat.zero_le _,rfl,R2,KP.refl _⟩
    case round =>
      obtain⟨k,hk,rfl,HRW,hx⟩:=hrel;obtain⟨wo,rfl⟩:∃x,x=wr:=⟨_,rfl⟩;obtain⟨⟨q5,q6,q7,t2,t3⟩,⟨x0,x1,x2,x3,x4⟩,XO⟩:=HSX.out wo hx;by_cases hlt:k<c.covs.length
      · skip
        obtain⟨b',off,rfl,hce⟩:=HCO.out wo XO k (by simpa using hlt);have e1:(c.covs.map Cov.c)[k]'(by simpa using hlt)=(c.covs[k]).c:=by simp
        rw [e1] at hce;have e2:c.covs.getD k default=c.covs[k]:=by simp [hlt]
        obtain⟨b2,o2,rfl,m2⟩:=HST.out wo XO k hlt;have HNX:Hid (∀j,sumsD c ⟨th,gn,ow,va,so⟩ t.starts j (k+1)=sumsD c ⟨th,gn,ow,va,so⟩ t.starts j k+(if covs1 c ⟨th,gn,ow,va,so⟩ t.starts k&&decide (c.covs[k].soc=j) then c.covs[k].sum else 0)):=hHd (fun j=>by rw [HSN.out,e2]);have HC1:Hid (covs1 c ⟨th,gn,ow,va,so⟩ t.starts k=(decide (c.covs[k].parcel=c.parcel)&&(Hs.Fd.covers ⟨th,gn,ow,va,so⟩ c.day&&(decide (ow=c.covs[k].owner)&&(decide (t.starts.getD k 0≤c.day)&&decide (c.day≤c.covs[k].till)))))):=hHd (by unfold covs1;rw [e2]);have HKB:=hHd (HSO.out _ (List.getElem_mem hlt));have HBD:=hHd (fun j=>HSB.out ⟨th,gn,ow,va,so⟩ j k hk);have HCVX:=hHd (HCV.out ⟨th,gn,ow,va,so⟩ c.day);generalize c.covs[k]=kk at*;generalize t.starts.getD k 0=sk at*;generalize covs1 c ⟨th,gn,ow,va,so⟩ t.starts k=cb at*;generalize Hs.Fd.covers ⟨th,gn,ow,va,so⟩ c.day=b2' at*;obtain⟨ks,ko,kp,km,kt,kl,kh⟩:=kk;obtain⟨m0',m1',m2',m3',m4',m5',m6'⟩:=hce;simp only [Cov.c] at m0' m1' m2' m3' m4' m5' m6' HNX HC1 HKB HCVX;have hnc0:=HNC.out;have hk0:(0:Int)≤(k:Int):=by omega
        have hk1:(k:Int)<(c.covs.length:Int):=by omega
        have hk2:(k:Int)<(t.starts.length:Int):=by have:=HL3.out;omega
        simp only [covB,socB,Bool.and_eq_true,inR_iff] at HKB;obtain⟨sn,hsn⟩:∃sn:Nat,ks=(sn:Int):=⟨ks.toNat,by have:=HKB.out.1;omega⟩;subst hsn;have hsn1:sn<c.soc.toNat:=by have:=HKB.out.1;omega
        have hkm:=HKB.out.2.2.2.1;clear e1 e2;go_upto_region 10 with fail
        obtain⟨W3,hW3⟩:∃W,W=(wo.alloc (.cells #[.int .i64 sn,.int .i64 ko,.int .i64 kp,.int .i64 km,.int .i64 kt,.int .i64 kl,.int .i64 kh] 108)):=⟨_,rfl⟩;have X3:Ext wo W3:=by subst hW3;exact(Ext.refl wo).alloc _
        have HK3:Hid (∀V,Ext W3 V→(V.cell? ⟨wo.heap.size,0,none⟩=some (.int .i64 sn)∧V.cell? ⟨wo.heap.size,1,none⟩=some (.int .i64 ko)∧V.cell? ⟨wo.heap.size,2,none⟩=some (.int .i64 kp)∧V.cell? ⟨wo.heap.size,3,none⟩=some (.int .i64 km)∧V.cell? ⟨wo.heap.size,4,none⟩=some (.int .i64 kt))∧(V.cell? ⟨w.heap.size,5,none⟩=some (.int .i64 c.day)∧V.cell? ⟨w.heap.size,6,none⟩=some (.int .i64 c.parcel)∧V.cell? ⟨w.heap.size+1,2,none⟩=some (.slice (some ⟨b2,o2,none⟩) t.starts.length cst))∧(V.cell? ⟨w1.heap.size,0,none⟩=some (.bool th)∧V.cell? ⟨w1.heap.size,1,none⟩=some (.bool gn)∧V.cell? ⟨w1.heap.size,2,none⟩=some (.int .i64 ow)∧V.cell? ⟨w1.heap.size,3,none⟩=some (.int .i64 va)∧V.cell? ⟨w1.heap.size,4,none⟩=some (.int .i64 so))∧V.cell? ⟨b2,o2+k,none⟩=some (.int .i64 sk)):=hHd (fun V h=>by
          have h':=X3.trans h;subst hW3;exact⟨⟨h.keep (by simp [go_sem]),h.keep (by simp [go_sem]),h.keep (by simp [go_sem]),h.keep (by simp [go_sem]),h.keep (by simp [go_sem])⟩,⟨h'.keep q5,h'.keep q6,h'.keep t2⟩,⟨h'.keep x0,h'.keep x1,h'.keep x2,h'.keep x3,h'.keep x4⟩,h'.keep m2⟩)
        rw [←hW3];clear hW3 m0' m1' m2' m3' m4' m5' m6' m2 q5 q6 q7 t2 t3 x0 x1 x2 x3 x4;have XO3:=XO.trans X3;have hx3:=hx.ext X3;have HR3:=hHd (HRW.out.ext X3);clear HRW;obtain⟨z1,hz1⟩:∃q:Bool,decide (kp=c.parcel)=q:=⟨_,rfl⟩;have gz1:(kp==c.parcel)=z1:=by rw [←hz1,Bool.eq_iff_iff];simp
        rw [hz1] at HC1;clear hz1;obtain⟨z3,hz3⟩:∃q:Bool,decide (ow=ko)=q:=⟨_,rfl⟩;have gz3:(ow==ko)=z3:=by rw [←hz3,Bool.eq_iff_iff];simp
        rw [hz3] at HC1;clear hz3;obtain⟨z4,gz4⟩:∃q:Bool,decide (sk≤c.day)=q:=⟨_,rfl⟩;rw [gz4] at HC1;obtain⟨z5,gz5⟩:∃q:Bool,decide (c.day≤kt)=q:=⟨_,rfl⟩;rw [gz5] at HC1;cases z1 with
        | false =>
          have HNO:Hid (cb=false):=hHd (by rw [HC1.out];rfl);(go_wp2_with fail);refine wp_region_quiet (C:=Ext W3) (by kernel_rfl) (by kernel_rfl) (Ext.drew EX) ?_
          rw [tl]
          repeat (first
            |go_big_quiet_skip
            | (go_big_quiet_want
               first
                |(go_big_quiet_op;go_big_quiet_on)
                | (apply Exists.intro
                   refine⟨fun w' hxw=> ?_,?_⟩
                   focus (obtain⟨⟨k0,k1,k2,k3,k4⟩,⟨q5,q6,t2⟩,⟨x0,x1,x2,x3,x4⟩,mm⟩:=HK3.out w' hxw;go_simp;first|exact rfl|(go_at_call 108;with_reducible refine(HCVX.out w').mono ?_;exact fun e w'' h=>⟨h.1,hxw.trans h.2⟩))
                   simp only [Act.put,List.setIfInBounds_toArray,List.set_cons_zero,List.set_cons_succ];go_big_quiet_on)))
          refine wpQuiet_nil ?_
          intro w2 hx2
          have HR4:Hid (RowH W.heap.size c.soc.toNat (fun j=>sumsD c ⟨th,gn,ow,va,so⟩ t.starts j (k+1)) w2):=hHd ((funext (fun j:Nat=>show sumsD c ⟨th,gn,ow,va,so⟩ t.starts j (k+1)=sumsD c ⟨th,gn,ow,va,so⟩ t.starts j k by rw [HNX.out,HNO.out];simp)) ▸ (HR3.out.ext hx2));(go_wp2_with fail);go_roundw
          case rel=>exact⟨k+1,by omega,by go_num,HR4,hx3.ext hx2⟩
          case measure=>simp [intOf];omega
        | true =>
          cases b2' with
          | false =>
            have HNO:Hid (cb=false):=hHd (by rw [HC1.out];rfl);(go_wp2_with fail);refine wp_region_quiet (C:=Ext W3) (by kernel_rfl) (by kernel_rfl) (Ext.drew EX) ?_
            rw [tl]
            repeat (first
              |go_big_quiet_skip
              | (go_big_quiet_want
                 first
                  |(go_big_quiet_op;go_big_quiet_on)
                  | (apply Exists.intro
                     refine⟨fun w' hxw=> ?_,?_⟩
                     focus (obtain⟨⟨k0,k1,k2,k3,k4⟩,⟨q5,q6,t2⟩,⟨x0,x1,x2,x3,x4⟩,mm⟩:=HK3.out w' hxw;go_simp;first|exact rfl|(go_at_call 108;with_reducible refine(HCVX.out w').mono ?_;exact fun e w'' h=>⟨h.1,hxw.trans h.2⟩))
                     simp only [Act.put,List.setIfInBounds_toArray,List.set_cons_zero,List.set_cons_succ];go_big_quiet_on)))
            refine wpQuiet_nil ?_
            intro w2 hx2
            have HR4:Hid (RowH W.heap.size c.soc.toNat (fun j=>sumsD c ⟨th,gn,ow,va,so⟩ t.starts j (k+1)) w2):=hHd ((funext (fun j:Nat=>show sumsD c ⟨th,gn,ow,va,so⟩ t.starts j (k+1)=sumsD c ⟨th,gn,ow,va,so⟩ t.starts j k by rw [HNX.out,HNO.out];simp)) ▸ (HR3.out.ext hx2));(go_wp2_with fail);go_roundw
            case rel=>exact⟨k+1,by omega,by go_num,HR4,hx3.ext hx2⟩
            case measure=>simp [intOf];omega
          | true =>
            cases z3 with
            | false =>
              have HNO:Hid (cb=false):=hHd (by rw [HC1.out];rfl);(go_wp2_with fail);refine wp_region_quiet (C:=Ext W3) (by kernel_rfl) (by kernel_rfl) (Ext.drew EX) ?_
              rw [tl]
              repeat (first
                |go_big_quiet_skip
                | (go_big_quiet_want
                   first
                    |(go_big_quiet_op;go_big_quiet_on)
                    | (apply Exists.intro
                       refine⟨fun w' hxw=> ?_,?_⟩
                       focus (obtain⟨⟨k0,k1,k2,k3,k4⟩,⟨q5,q6,t2⟩,⟨x0,x1,x2,x3,x4⟩,mm⟩:=HK3.out w' hxw;go_simp;first|exact rfl|(go_at_call 108;with_reducible refine(HCVX.out w').mono ?_;exact fun e w'' h=>⟨h.1,hxw.trans h.2⟩))
                       simp only [Act.put,List.setIfInBounds_toArray,List.set_cons_zero,List.set_cons_succ];go_big_quiet_on)))
              refine wpQuiet_nil ?_
              intro w2 hx2
              have HR4:Hid (RowH W.heap.size c.soc.toNat (fun j=>sumsD c ⟨th,gn,ow,va,so⟩ t.starts j (k+1)) w2):=hHd ((funext (fun j:Nat=>show sumsD c ⟨th,gn,ow,va,so⟩ t.starts j (k+1)=sumsD c ⟨th,gn,ow,va,so⟩ t.starts j k by rw [HNX.out,HNO.out];simp)) ▸ (HR3.out.ext hx2));(go_wp2_with fail);go_roundw
              case rel=>exact⟨k+1,by omega,by go_num,HR4,hx3.ext hx2⟩
              case measure=>simp [intOf];omega
            | true =>
              cases z4 with
              | false =>
                have HNO:Hid (cb=false):=hHd (by rw [HC1.out];rfl);(go_wp2_with fail);refine wp_region_quiet (C:=Ext W3) (by kernel_rfl) (by kernel_rfl) (Ext.drew EX) ?_
                rw [tl]
                repeat (first
                  |go_big_quiet_skip
                  | (go_big_quiet_want
                     first
                      |(go_big_quiet_op;go_big_quiet_on)
                      | (apply Exists.intro
                         refine⟨fun w' hxw=> ?_,?_⟩
                         focus (obtain⟨⟨k0,k1,k2,k3,k4⟩,⟨q5,q6,t2⟩,⟨x0,x1,x2,x3,x4⟩,mm⟩:=HK3.out w' hxw;go_simp;first|exact rfl|(go_at_call 108;with_reducible refine(HCVX.out w').mono ?_;exact fun e w'' h=>⟨h.1,hxw.trans h.2⟩))
                         simp only [Act.put,List.setIfInBounds_toArray,List.set_cons_zero,List.set_cons_succ];go_big_quiet_on)))
                refine wpQuiet_nil ?_
                intro w2 hx2
                have HR4:Hid (RowH W.heap.size c.soc.toNat (fun j=>sumsD c ⟨th,gn,ow,va,so⟩ t.starts j (k+1)) w2):=hHd ((funext (fun j:Nat=>show sumsD c ⟨th,gn,ow,va,so⟩ t.starts j (k+1)=sumsD c ⟨th,gn,ow,va,so⟩ t.starts j k by rw [HNX.out,HNO.out];simp)) ▸ (HR3.out.ext hx2));(go_wp2_with fail);go_roundw
                case rel=>exact⟨k+1,by omega,by go_num,HR4,hx3.ext hx2⟩
                case measure=>simp [intOf];omega
              | true =>
                cases z5 with
                | false =>
                  have HNO:Hid (cb=false):=hHd (by rw [HC1.out];rfl);(go_wp2_with fail);refine wp_region_quiet (C:=Ext W3) (by kernel_rfl) (by kernel_rfl) (Ext.drew EX) ?_
                  rw [tl]
                  repeat (first
                    |go_big_quiet_skip
                    | (go_big_quiet_want
                       first
                        |(go_big_quiet_op;go_big_quiet_on)
                        | (apply Exists.intro
                           refine⟨fun w' hxw=> ?_,?_⟩
                           focus (obtain⟨⟨k0,k1,k2,k3,k4⟩,⟨q5,q6,t2⟩,⟨x0,x1,x2,x3,x4⟩,mm⟩:=HK3.out w' hxw;go_simp;first|exact rfl|(go_at_call 108;with_reducible refine(HCVX.out w').mono ?_;exact fun e w'' h=>⟨h.1,hxw.trans h.2⟩))
                           simp only [Act.put,List.setIfInBounds_toArray,List.set_cons_zero,List.set_cons_succ];go_big_quiet_on)))
                  refine wpQuiet_nil ?_
                  intro w2 hx2
                  have HR4:Hid (RowH W.heap.size c.soc.toNat (fun j=>sumsD c ⟨th,gn,ow,va,so⟩ t.starts j (k+1)) w2):=hHd ((funext (fun j:Nat=>show sumsD c ⟨th,gn,ow,va,so⟩ t.starts j (k+1)=sumsD c ⟨th,gn,ow,va,so⟩ t.starts j k by rw [HNX.out,HNO.out];simp)) ▸ (HR3.out.ext hx2));(go_wp2_with fail);go_roundw
                  case rel=>exact⟨k+1,by omega,by go_num,HR4,hx3.ext hx2⟩
                  case measure=>simp [intOf];omega
                | true =>
                  have HYES:Hid (cb=true):=hHd (by rw [HC1.out];rfl);(go_wp2_with fail);refine wp_region_quiet (C:=Ext W3) (by kernel_rfl) (by kernel_rfl) (Ext.drew EX) ?_
                  rw [tl]
                  repeat (first
                    |go_big_quiet_skip
                    | (go_big_quiet_want
                       first
                        |(go_big_quiet_op;go_big_quiet_on)
                        | (apply Exists.intro
                           refine⟨fun w' hxw=> ?_,?_⟩
                           focus (obtain⟨⟨k0,k1,k2,k3,k4⟩,⟨q5,q6,t2⟩,⟨x0,x1,x2,x3,x4⟩,mm⟩:=HK3.out w' hxw;go_simp;first|exact rfl|(go_at_call 108;with_reducible refine(HCVX.out w').mono ?_;exact fun e w'' h=>⟨h.1,hxw.trans h.2⟩))
                           simp only [Act.put,List.setIfInBounds_toArray,List.set_cons_zero,List.set_cons_succ];go_big_quiet_on)))
                  refine wpQuiet_nil ?_
                  intro w2 hx2
                  obtain⟨⟨k0,k1,k2,k3,k4⟩,-,-,-⟩:=HK3.out w2 hx2;have HR4:=hHd (HR3.out.ext hx2);have c0:=HR4.out.c sn hsn1;have ff:=HR4.out.fr;have hbd:=HBD.out sn;have hnc:=HNC.out
                  have HR5:=hHd (HR4.out.put (G:=fun j=>sumsD c ⟨th,gn,ow,va,so⟩ t.starts j (k+1)) sn (sumsD c ⟨th,gn,ow,va,so⟩ t.starts sn k+km) hsn1 (fun j hj=>(by
                    rw [HNX.out,HYES.out,Bool.true_and];by_cases e:j=sn
                    · subst e;simp
                    · rw [if_neg (by simp;omega),if_neg e,Int.add_zero])))
                  generalize hG:sumsD c ⟨th,gn,ow,va,so⟩ t.starts sn k=sv at*;clear hG;have hw:IntKind.i64.wrap (sv+km)=sv+km:=IntWalk.i64_in _ (by omega);have g0:(0:Int)≤(sn:Int):=by omega
                  have g1:(sn:Int)<(c.soc.toNat:Int):=by omega
                  have hK5:=hx3.ext hx2;(go_wp2_with fail);go_region;(go_wp2_with fail);go_roundw
                  case rel=>exact⟨k+1,by omega,by go_num,hHd (HR5.out.ext (Ext.refl _).drew),KP.drew (hK5.setCell (p:=fun j=>j=W.heap.size) rfl _)⟩
                  case measure=>simp [intOf];omega
      · skip
        obtain rfl:k=c.covs.length:=by omega
        have HFIN:Hid (∀d,damD c t=some d→IntsV wo (.slice (some ⟨W.heap.size,0,none⟩) c.soc.toNat c.soc.toNat) (sumsL d c.soc.toNat)):=hHd (fun d hd=>by
          have e:=HD.out;rw [hd] at e;simp only [Option.some.injEq] at e;have hb0:=HSB.out ⟨th,gn,ow,va,so⟩ 0 c.covs.length (Nat.le_refl _);have hb1:=HSB.out ⟨th,gn,ow,va,so⟩ 1 c.covs.length (Nat.le_refl _);have hb2:=HSB.out ⟨th,gn,ow,va,so⟩ 2 c.covs.length (Nat.le_refl _);have hnc:=HNC.out;subst e;refine HRW.out.ints (sumsL_len (by omega)) (by omega) (fun j hj=> ?_) (fun x hx=> ?_)
          · have hj3 : j < 3 := by rw [sumsL_len (by omega)] at hj; omega
            simp only [sumsL,List.getElem_take];rcases j with _|_|_|j
            · rfl
            · rfl
            · rfl
            · omega
          · have hx':=List.mem_of_mem_take hx;simp only [List.mem_cons,List.not_mem_nil,or_false] at hx';unfold i64ok;rcases hx' with rfl|rfl|rfl<;>omega)
        have HDA:Hid (∃d,damD c t=some d∧d.amount=va*t.loss / 100):=hHd ⟨_,HD.out,rfl⟩;clear hlt HD HRW;cases th with
        | false =>
          have hva:va=0:=HZ.out rfl;(go_wp2_with fail);go_ret3;refine⟨fun h=>(by obtain⟨d,hd,-⟩:=HDA.out;rw [hd] at h;cases h),fun d hd=>⟨_,?_,HFIN.out d hd⟩,XO⟩
          obtain⟨d',hd',he⟩:=HDA.out;rw [hd] at hd';cases hd'
          rw [he,hva,Int.zero_mul];rfl
        | true =>
          have hv:=HV.out;(try simp only at hv)
          have hm0:0≤va*t.loss:=Int.mul_nonneg hv.1 (by omega);have hm1:va*t.loss≤1000*100:=Int.mul_le_mul hv.2 (by omega) (by omega) (by omega);have hw1:IntKind.i64.wrap (va*t.loss)=va*t.loss:=IntWalk.i64_in _ (by omega);have ht1:(va*t.loss).tdiv 100=va*t.loss / 100:=Int.tdiv_eq_ediv_of_nonneg hm0;obtain⟨y,hy⟩:∃y,va*t.loss / 100=y:=⟨_,rfl⟩;rw [hy] at ht1 HDA;have hw2:IntKind.i64.wrap y=y:=IntWalk.i64_in _ (by omega);have HYY:=hHd hy;(go_wp2_with fail);go_ret3;refine⟨fun h=>(by obtain⟨d,hd,-⟩:=HDA.out;rw [hd] at h;cases h),fun d hd=>⟨_,?_,HFIN.out d hd⟩,XO⟩
          obtain⟨d',hd',he⟩:=HDA.out;rw [hd] at hd';cases hd'
          rw [he];rfl
end Go.Proofs.YtegkdnfeceomdaaGreat
