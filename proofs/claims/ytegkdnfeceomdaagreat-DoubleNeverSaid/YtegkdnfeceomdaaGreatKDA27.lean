/- Bundled: what the texts HE HF say one after another. -/
import Derived.Test.YtegkdnfeceomdaaGreatKDA15
import Derived.Test.YtegkdnfeceomdaaGreatKDA11
import Derived.Test.YtegkdnfeceomdaaGreatKDA26
import Derived.Test.YtegkdnfeceomdaaGreatKDA1
import Derived.Test.YtegkdnfeceomdaaGreatKDA16
import Derived.Test.YtegkdnfeceomdaaGreatKDA25
import Derived.KernelRfl
set_option maxRecDepth 100000
set_option maxHeartbeats 16000000
set_option linter.unusedSimpArgs false
set_option linter.unusedVariables false
namespace Go.Proofs.YtegkdnfeceomdaaGreat
open Go.RowKit Go.Hs
attribute [local irreducible] World.setCell World.alloc
theorem ints_ne {a b:List Int} {i:Nat} (ha:i<a.length) (h:a.getD i 0≠b.getD i 0):a≠b:=fun e=>h (by rw [e])
theorem ints_eq {a b:List Int} (hl:a.length=b.length) (h:∀j,j<a.length→a.getD j 0=b.getD j 0):a=b:=by
 refine List.ext_getElem hl (fun i h1 h2=> ?_)
 have:=h i h1;simpa [h1,h2] using this
theorem ints8 (v u:Value) (a b:List Int) (w:World) (hv:IntsV w v a) (hu:IntsV w u b) (ha:a.length≤1000) (_:b.length≤1000):
  Calls Tryz.prog 22 #[v,u] w fun e w'=>e= .returned (.bool (decide (a=b)))∧Ext w w':=by
 obtain⟨p,c,rfl,h1,hr⟩:=hv.cellsI;obtain⟨q,d,rfl,h2,hs⟩:=hu.cellsI;have HR:=hHd hr;have HS:=hHd hs;have HNL:Hid (a.length≠b.length→decide (a=b)=false):=hHd (fun h=>decide_eq_false (fun e=>h (by rw [e])));have HNE:Hid (∀i,i<a.length→a.getD i 0≠b.getD i 0→decide (a=b)=false):=hHd (fun i hi h=>decide_eq_false (ints_ne hi h));have HEQ:Hid (a.length=b.length→(∀j,j<a.length→a.getD j 0=b.getD j 0)→decide (a=b)=true):=hHd (fun h1 h2=>decide_eq_true (ints_eq h1 h2));clear hv hu hr hs;generalize decide (a=b)=res at*;by_cases hl:a.length=b.length
 ·have HL := hHd hl; have hd : ((a.length : Int) != (b.length : Int)) = false := by simp [hl]
  have HEQ':=hHd (HEQ.out hl);clear HEQ HNL hl;go_enter Tryz.func22,Tryz.ntmps22
  (go_wp2_with fail);go_loopw [5] (fun s5 wr=>∃i:Nat,i≤a.length∧s5= .int .i64 i∧Hid (∀j,j<i→a.getD j 0=b.getD j 0)∧Ext w wr) (fun s _=>a.length - (intOf s).toNat)
  case atStart=>exact⟨0,Nat.zero_le _,rfl,hHd (fun j hj=>absurd hj (Nat.not_lt_zero _)),Ext.refl _⟩
  case round =>
   obtain⟨i,hia,rfl,HI,hx⟩:=hrel;obtain⟨wo,rfl⟩:∃x,x=wr:=⟨_,rfl⟩;by_cases hla:i<a.length
   ·have hlb : i < b.length := by have := HL.out; omega
    obtain⟨b1,o1,rfl,q1⟩:=HR.out i hla;obtain⟨b2,o2,rfl,q2⟩:=HS.out i hlb;replace q1:=hx.keep q1;replace q2:=hx.keep q2;have g0:(0:Int)≤(i:Int):=by omega
    have g1:(i:Int)<(a.length:Int):=by omega
    have g2:(i:Int)<(b.length:Int):=by omega
    by_cases he:a.getD i 0=b.getD i 0
    ·have HI2 : Hid (∀ j, j < i + 1 → a.getD j 0 = b.getD j 0) := hHd (fun j hj => by
      rcases Nat.lt_or_ge j i with h|h
      ·exact HI.out j h
      ·obtain rfl : j = i := by omega
       exact he)
     generalize a.getD i 0=x at*;generalize b.getD i 0=y at*;have hd2:(x !=y)=false:=by simp [he]
     clear he;(go_wp2_with fail);go_region;(go_wp2_with fail);go_roundw
     case rel=>exact⟨i+1,by omega,by go_num,HI2,EX⟩
     case measure=>simp [intOf];omega
    ·obtain rfl : res = false := HNE.out i hla he; generalize a.getD i 0 = x at *; generalize b.getD i 0 = y at *; have hd2 : (x != y) = true := by simp [he]
     clear HNE he;(go_wp2_with fail);go_region;(go_wp2_with fail);go_ret;exact⟨rfl,EX⟩
   ·obtain rfl : i = a.length := by omega
    obtain rfl:res=true:=HEQ'.out HI.out;clear HNE HEQ';(go_wp2_with fail);go_ret;exact⟨rfl,hx⟩
 ·obtain rfl : res = false := HNL.out hl; have hd : ((a.length : Int) != (b.length : Int)) = true := by simp; omega
  clear HNE HEQ HNL hl;go_enter Tryz.func22,Tryz.ntmps22
  (go_wp2_with fail);go_ret;exact⟨rfl,EX⟩
theorem eq_rng (a0 a1 b0 b1:Int) (w:World):(binOp .eql 54 (.agg #[.int .i64 a0,.int .i64 a1]) (.agg #[.int .i64 b0,.int .i64 b1])).run Tryz.prog w= .ok (.bool (decide (a0=b0∧a1=b1))) w:=by
 have u4:=Tryz.underlying3;have a4':=Tryz.isAgg3;have z4:=Tryz.sizeOf3;have hst:Tryz.prog.stoodInHeld 54=false:=by kernel_rfl
 rw [run_eql_struct];rw [show (10000:Nat)=9999+1 from rfl,Op.equalIn];simp only [Sem.run_bind,run_underlying Tryz.underlying54,Result.andThen_ok];go_simp;(repeat' split)<;>simp_all
theorem eq_bnd (a0 a1 a2 a3 b0 b1 b2 b3:Int) (w:World):(binOp .eql 81 (.agg #[.int .i64 a0,.int .i64 a1,.int .i64 a2,.int .i64 a3]) (.agg #[.int .i64 b0,.int .i64 b1,.int .i64 b2,.int .i64 b3])).run Tryz.prog w= .ok (.bool (decide (a0=b0∧a1=b1∧a2=b2∧a3=b3))) w:=by
 have u4:=Tryz.underlying3;have a4':=Tryz.isAgg3;have z4:=Tryz.sizeOf3;have u5:=Tryz.underlying54;have a5':=Tryz.isAgg54;have z5:=Tryz.sizeOf54;have hst:Tryz.prog.stoodInHeld 81=false:=by kernel_rfl
 rw [run_eql_struct];rw [show (10000:Nat)=9999+1 from rfl,Op.equalIn];simp only [Sem.run_bind,run_underlying Tryz.underlying81,Result.andThen_ok];go_simp;(repeat' split)<;>simp_all
theorem lit8 {w:World} {B:Nat} (xs:List Int) {n:Nat} (hn:n=xs.length) (hl:xs.length≤1000) (h:∀j v,(xs.map (Value.int .i64))[j]?=some v→w.cell? ⟨B,j,none⟩=some v) (ok:∀x∈xs,-1000≤x∧x≤1000):IntsV w (.slice (some ⟨B,0,none⟩) n n) xs:=
 mk_ints8 xs hn hl (fun i hi=>h i _ (by simp [hi])) (fun x hx=>by have:=ok x hx;unfold i64ok;omega)
theorem lits1 {w:World} {B:Nat} (a:Int) (h0:w.cell? ⟨B,0,none⟩=some (.int .i64 a)) (ok:∀x∈ [a],-1000≤x∧x≤1000):IntsV w (.slice (some ⟨B,0,none⟩) 1 1) [a]:=
 lit8 [a] rfl (by simp) (fun j v e=>by
  rcases j with _|j
  ·cases e;exact h0
  ·simp at e) ok
theorem lits2 {w:World} {B:Nat} (a b:Int) (h0:w.cell? ⟨B,0,none⟩=some (.int .i64 a)) (h1:w.cell? ⟨B,1,none⟩=some (.int .i64 b)) (ok:∀x∈ [a,b],-1000≤x∧x≤1000):IntsV w (.slice (some ⟨B,0,none⟩) 2 2) [a,b]:=
 lit8 [a,b] rfl (by simp) (fun j v e=>by
  rcases j with _|_|j
  ·cases e;exact h0
  ·cases e;exact h1
  ·simp at e) ok
theorem lits3 {w:World} {B:Nat} (a b c:Int) (h0:w.cell? ⟨B,0,none⟩=some (.int .i64 a)) (h1:w.cell? ⟨B,1,none⟩=some (.int .i64 b)) (h2:w.cell? ⟨B,2,none⟩=some (.int .i64 c)) (ok:∀x∈ [a,b,c],-1000≤x∧x≤1000):IntsV w (.slice (some ⟨B,0,none⟩) 3 3) [a,b,c]:=
 lit8 [a,b,c] rfl (by simp) (fun j v e=>by
  rcases j with _|_|_|j
  ·cases e;exact h0
  ·cases e;exact h1
  ·cases e;exact h2
  ·simp at e) ok
theorem ok8 {xs:List Int} (h:∀x∈xs,-1000≤x∧x≤1000):∀x∈xs,i64ok x:=fun x hx=>by have:=h x hx;unfold i64ok;omega
theorem ex_settle (v:Value) (W:World) (hv:IntsV W v [33,33,34]):Calls Tryz.prog 19 #[.int .i64 50,v] W fun e w'=>∃a q,e= .returned (.tuple #[.slice a 3 q,.int .i64 0])∧IntsV w' (.slice a 3 q) [16,17,17]∧Ext W w':=
 (Settle_good 50 v [33, 33, 34] W hv sold_settle.1).mono (by
  rintro e w' ⟨v',rfl,ho,hx⟩;rw [sold_settle.2] at ho;have hi:=own_intsV (xs:= [16,17,17]) ho rfl rfl (ok8 (by decide)) (by decide);obtain⟨a,q,rfl,-⟩:=id hi;exact⟨a,q,rfl,hi,hx⟩)
theorem ex_play (A:CaseA) (v:Value) (W:World) (hm:CaseM W A (soldC [])) (hv:TruV W v laterT):Calls Tryz.prog 25 #[A.v (soldC []),v] W fun e w'=>∃a q,e= .returned (.tuple #[.slice a 2 q,.int .i64 50,.int .i64 0])∧IntsV w' (.slice a 2 q) [20,30]∧Ext W w':=
 (Play_dd A (soldC []) laterT v W hm hv (by decide) (by decide) (by decide)).mono (by
  rintro e w' ⟨-,h,hx⟩;obtain⟨d,v',hd,rfl,ho⟩:=h sold_play;rw [sold_dmg] at hd;cases hd
  have ho2:w'.ownsRow W.heap.size 3 1 v' 2 ((payL ⟨50,60,90,0⟩ 2).map (.int .i64)):=ho;rw [sold_pays] at ho2;have hi:=own_intsV (xs:= [20,30]) ho2 rfl rfl (ok8 (by decide)) (by decide);obtain⟨a,q,rfl,-⟩:=id hi;exact⟨a,q,rfl,hi,hx⟩)
theorem ex_bounds (A:CaseA) (W:World) (hm:CaseM W A (soldC [])):Calls Tryz.prog 33 #[A.v (soldC [])] W fun e w'=>∃g q,e= .returned (.tuple #[.slice (some ⟨g,0,none⟩) 2 q,.int .i64 0])∧(∀j v,([.int .i64 0,.int .i64 50,.int .i64 0,.int .i64 30,.int .i64 0,.int .i64 50,.int .i64 0,.int .i64 20]:List Value)[j]?=some v→w'.cell? ⟨g,j,none⟩=some v)∧Ext W w':=
 (Bounds_d A (soldC []) W hm).mono (by
  rintro e w' ⟨-,h,hx⟩;obtain⟨a,q,rfl,ho⟩:=h sold_bnds;have ho2:Hs.Own 4 bndC W.heap.size 81 w' (.slice a 2 q) (bndsD (soldC []) 2):=ho;rw [sold_list] at ho2;obtain⟨g,rfl,-,-,h0⟩:=Hs.Own.at (C:=bndC) (k:=4) (fun x=>rfl) ho2 (i:=0) (by decide);obtain⟨g',e',-,-,h1⟩:=Hs.Own.at (C:=bndC) (k:=4) (fun x=>rfl) ho2 (i:=1) (by decide);cases e'
  refine⟨g,q,rfl,fun j v e=> ?_,hx⟩
  rcases j with _|_|_|_|_|_|_|_|j
  ·exact h0 0 v e
  ·exact h0 1 v e
  ·exact h0 2 v e
  ·exact h0 3 v e
  ·exact h1 0 v e
  ·exact h1 1 v e
  ·exact h1 2 v e
  ·exact h1 3 v e
  ·simp at e)
theorem ex_total (A:CaseA) (W:World) (hm:CaseM W A (soldC [])):Calls Tryz.prog 34 #[A.v (soldC [])] W fun e w'=>e= .returned (.tuple #[.agg #[.int .i64 40,.int .i64 50],.int .i64 0])∧Ext W w':=by
 have:=Total_d A (soldC []) W hm;rw [sold_tot,sold_bnds] at this;exact this
theorem ex_first (A:CaseA) (W:World) (hm:CaseM W A (soldC twoL)):Calls Tryz.prog 39 #[A.v (soldC twoL)] W fun e w'=>e= .returned (.tuple #[.int .i64 1,.int .i64 0])∧Ext W w':=by
 have:=First_d A (soldC twoL) W hm;rw [sold_first.1,sold_first.2] at this;exact this
theorem ex_leave (A:CaseA) (W:World) (hm:CaseM W A (soldC twoL)):Calls Tryz.prog 40 #[A.v (soldC twoL)] W fun e w'=>∃a q,e= .returned (.tuple #[.slice a 1 q,.int .i64 0])∧IntsV w' (.slice a 1 q) [1]∧Ext W w':=
 (Leave_d A (soldC twoL) W hm).mono (by
  rintro e w' ⟨v,rfl,hi,hx⟩;rw [sold_leave.2] at hi;rw [sold_leave.1];have hi2:IntsV w' v [1]:=hi;obtain⟨a,q,rfl,-⟩:=id hi2;exact⟨a,q,rfl,hi2,hx⟩)
theorem nil_clms (w:World):ClmsV w (.slice none 0 0) []:=⟨none,0,rfl,by simp,by simp,fun i hi=>absurd hi (by simp)⟩
theorem awake8 (w:World):Calls Tryz.prog 18 #[] w fun e w'=>e= .returned (.bool true)∧Ext w w':=by
 have HSO:Hid (∀W,Calls Tryz.prog 57 #[.slice none 0 0] W fun e w'=>∃A,e= .returned (A.v (soldC []))∧CaseM w' A (soldC [])∧Ext W w'):=hHd (fun W=>sold8 [] _ W (nil_clms W));have HS2:Hid (∀v W,ClmsV W v twoL→Calls Tryz.prog 57 #[v] W fun e w'=>∃A,e= .returned (A.v (soldC twoL))∧CaseM w' A (soldC twoL)∧Ext W w'):=hHd (fun v W h=>sold8 twoL v W h);have HTW:=hHd two8;have HLA:=hHd later8;have HST:=hHd ex_settle;have HPL:=hHd ex_play;have HBO:=hHd ex_bounds;have HTO:=hHd ex_total;have HFI:=hHd ex_first;have HLE:=hHd ex_leave;have HB:=hHd between8;have HI3:Hid (∀va vb W,IntsV W va [16,17,17]→IntsV W vb [16,17,17]→Calls Tryz.prog 22 #[va,vb] W fun e w'=>e= .returned (.bool true)∧Ext W w'):=hHd (fun va vb W h1 h2=>ints8 va vb _ _ W h1 h2 (by decide) (by decide));have HI2:Hid (∀va vb W,IntsV W va [20,30]→IntsV W vb [20,30]→Calls Tryz.prog 22 #[va,vb] W fun e w'=>e= .returned (.bool true)∧Ext W w'):=hHd (fun va vb W h1 h2=>ints8 va vb _ _ W h1 h2 (by decide) (by decide));have HI1:Hid (∀va vb W,IntsV W va [1]→IntsV W vb [1]→Calls Tryz.prog 22 #[va,vb] W fun e w'=>e= .returned (.bool true)∧Ext W w'):=hHd (fun va vb W h1 h2=>ints8 va vb _ _ W h1 h2 (by decide) (by decide));have hq1:∀w,(binOp .eql 81 (.agg #[.int .i64 0,.int .i64 50,.int .i64 0,.int .i64 30]) (.agg #[.int .i64 0,.int .i64 50,.int .i64 0,.int .i64 30])).run Tryz.prog w= .ok (.bool true) w:=fun w=>eq_bnd 0 50 0 30 0 50 0 30 w
 have hq2:∀w,(binOp .eql 81 (.agg #[.int .i64 0,.int .i64 50,.int .i64 0,.int .i64 20]) (.agg #[.int .i64 0,.int .i64 50,.int .i64 0,.int .i64 20])).run Tryz.prog w= .ok (.bool true) w:=fun w=>eq_bnd 0 50 0 20 0 50 0 20 w
 have hq3:∀w,(binOp .eql 54 (.agg #[.int .i64 40,.int .i64 50]) (.agg #[.int .i64 40,.int .i64 50])).run Tryz.prog w= .ok (.bool true) w:=fun w=>eq_rng 40 50 40 50 w
 have XX:Ext w w:=Ext.refl w;generalize soldC []=c1 at*;generalize soldC twoL=c2 at*;generalize laterT=t at*;generalize twoL=tl at*;go_enter Tryz.func18,Tryz.ntmps18
 (go_wp2_with fail);(with_reducible refine(HST.out _ _ (lits3 33 33 34 (by simp [go_sem]) (by simp [go_sem]) (by simp [go_sem]) (by decide))).mono ?_);rintro e w1 ⟨a1,q1,rfl,h1,hx⟩;have hy:Ext w w1:=EX;replace XX:=XX.trans hy;clear hx hy;(go_wp2_with fail);(with_reducible refine(HSO.out _).mono ?_);rintro e w2 ⟨A2,rfl,hm,hx⟩;have hy:Ext w1 w2:=EX;replace XX:=XX.trans hy;replace h1:=h1.ext hy;clear hx hy;(go_wp2_with fail);(with_reducible refine(HLA.out _).mono ?_);rintro e w3 ⟨v3,rfl,hv,hx⟩;have hy:Ext w2 w3:=EX;replace XX:=XX.trans hy;replace h1:=h1.ext hy;replace hm:=hm.ext hy;clear hx hy;(go_wp2_with fail);(with_reducible refine(HPL.out _ _ _ hm hv).mono ?_);rintro e w4 ⟨a4,q4,rfl,h4,hx⟩;have hy:Ext w3 w4:=EX;replace XX:=XX.trans hy;replace h1:=h1.ext hy;clear hx hy;clear hm hv;(go_wp2_with fail);(with_reducible refine(HSO.out _).mono ?_);rintro e w5 ⟨A5,rfl,hm,hx⟩;have hy:Ext w4 w5:=EX;replace XX:=XX.trans hy;replace h1:=h1.ext hy;replace h4:=h4.ext hy;clear hx hy;(go_wp2_with fail);(with_reducible refine(HBO.out _ _ hm).mono ?_);rintro e w6 ⟨g6,q6,rfl,hb,hx⟩;have hy:Ext w5 w6:=EX;replace XX:=XX.trans hy;replace h1:=h1.ext hy;replace h4:=h4.ext hy;clear hx hy;clear hm;have b0:=hb 0 _ rfl;have b1:=hb 1 _ rfl;have b2:=hb 2 _ rfl;have b3:=hb 3 _ rfl;have b4:=hb 4 _ rfl;have b5:=hb 5 _ rfl;have b6:=hb 6 _ rfl;have b7:=hb 7 _ rfl;clear hb;(go_wp2_with fail);(with_reducible refine(HSO.out _).mono ?_);rintro e w7 ⟨A7,rfl,hm,hx⟩;have hy:Ext w6 w7:=EX;replace XX:=XX.trans hy;replace h1:=h1.ext hy;replace h4:=h4.ext hy;replace b0:=hy.keep b0;replace b1:=hy.keep b1;replace b2:=hy.keep b2;replace b3:=hy.keep b3;replace b4:=hy.keep b4;replace b5:=hy.keep b5;replace b6:=hy.keep b6;replace b7:=hy.keep b7;clear hx hy;(go_wp2_with fail);(with_reducible refine(HTO.out _ _ hm).mono ?_);rintro e w8 ⟨rfl,hx⟩
 have hy:Ext w7 w8:=EX;replace XX:=XX.trans hy;replace h1:=h1.ext hy;replace h4:=h4.ext hy;replace b0:=hy.keep b0;replace b1:=hy.keep b1;replace b2:=hy.keep b2;replace b3:=hy.keep b3;replace b4:=hy.keep b4;replace b5:=hy.keep b5;replace b6:=hy.keep b6;replace b7:=hy.keep b7;clear hx hy;clear hm;(go_wp2_with fail);(with_reducible refine(HTW.out _).mono ?_);rintro e w9 ⟨v9,rfl,hv,hx⟩;have hy:Ext w8 w9:=EX;have d0:=hx.keep (k:=w8.heap.size) (o:=0) (v:= .int .i64 40) (by simp [go_sem]);have d1:=hx.keep (k:=w8.heap.size) (o:=1) (v:= .int .i64 50) (by simp [go_sem]);replace XX:=XX.trans hy;replace h1:=h1.ext hy;replace h4:=h4.ext hy;replace b0:=hy.keep b0;replace b1:=hy.keep b1;replace b2:=hy.keep b2;replace b3:=hy.keep b3;replace b4:=hy.keep b4;replace b5:=hy.keep b5;replace b6:=hy.keep b6;replace b7:=hy.keep b7;clear hx hy;(go_wp2_with fail);(with_reducible refine(HS2.out _ _ hv).mono ?_);rintro e w10 ⟨A10,rfl,hm,hx⟩;have hy:Ext w9 w10:=EX;replace XX:=XX.trans hy;replace h1:=h1.ext hy;replace h4:=h4.ext hy;replace b0:=hy.keep b0;replace b1:=hy.keep b1;replace b2:=hy.keep b2;replace b3:=hy.keep b3;replace b4:=hy.keep b4;replace b5:=hy.keep b5;replace b6:=hy.keep b6;replace b7:=hy.keep b7;replace d0:=hy.keep d0;replace d1:=hy.keep d1;clear hx hy;(go_wp2_with fail);(with_reducible refine(HFI.out _ _ hm).mono ?_);rintro e w11 ⟨rfl,hx⟩;have hy:Ext w10 w11:=EX;replace XX:=XX.trans hy;replace h1:=h1.ext hy;replace h4:=h4.ext hy;replace b0:=hy.keep b0;replace b1:=hy.keep b1;replace b2:=hy.keep b2;replace b3:=hy.keep b3;replace b4:=hy.keep b4;replace b5:=hy.keep b5;replace b6:=hy.keep b6;replace b7:=hy.keep b7;replace d0:=hy.keep d0;replace d1:=hy.keep d1;clear hx hy;clear hm hv;(go_wp2_with fail);(with_reducible refine(HTW.out _).mono ?_);rintro e w12 ⟨v12,rfl,hv,hx⟩;have hy:Ext w11 w12:=EX
 replace XX:=XX.trans hy;replace h1:=h1.ext hy;replace h4:=h4.ext hy;replace b0:=hy.keep b0;replace b1:=hy.keep b1;replace b2:=hy.keep b2;replace b3:=hy.keep b3;replace b4:=hy.keep b4;replace b5:=hy.keep b5;replace b6:=hy.keep b6;replace b7:=hy.keep b7;replace d0:=hy.keep d0;replace d1:=hy.keep d1;clear hx hy;(go_wp2_with fail);(with_reducible refine(HS2.out _ _ hv).mono ?_);rintro e w13 ⟨A13,rfl,hm,hx⟩;have hy:Ext w12 w13:=EX;replace XX:=XX.trans hy;replace h1:=h1.ext hy;replace h4:=h4.ext hy;replace b0:=hy.keep b0;replace b1:=hy.keep b1;replace b2:=hy.keep b2;replace b3:=hy.keep b3;replace b4:=hy.keep b4;replace b5:=hy.keep b5;replace b6:=hy.keep b6;replace b7:=hy.keep b7;replace d0:=hy.keep d0;replace d1:=hy.keep d1;clear hx hy;(go_wp2_with fail);(with_reducible refine(HLE.out _ _ hm).mono ?_);rintro e w14 ⟨a14,q14,rfl,h14,hx⟩;have hy:Ext w13 w14:=EX;replace XX:=XX.trans hy;replace h1:=h1.ext hy;replace h4:=h4.ext hy;replace b0:=hy.keep b0;replace b1:=hy.keep b1;replace b2:=hy.keep b2;replace b3:=hy.keep b3;replace b4:=hy.keep b4;replace b5:=hy.keep b5;replace b6:=hy.keep b6;replace b7:=hy.keep b7;replace d0:=hy.keep d0;replace d1:=hy.keep d1;clear hx hy;clear hm hv HSO HS2 HTW HLA HST HPL HBO HTO HFI HLE;(go_wp2_with fail);simp only [List.append];have HS:Hid (∀w',Ext w14 w'→(w'.cell? ⟨g6,0,none⟩=some (.int .i64 0)∧w'.cell? ⟨g6,1,none⟩=some (.int .i64 50)∧w'.cell? ⟨g6,2,none⟩=some (.int .i64 0)∧w'.cell? ⟨g6,3,none⟩=some (.int .i64 30)∧w'.cell? ⟨g6,4,none⟩=some (.int .i64 0)∧w'.cell? ⟨g6,5,none⟩=some (.int .i64 50)∧w'.cell? ⟨g6,6,none⟩=some (.int .i64 0)∧w'.cell? ⟨g6,7,none⟩=some (.int .i64 20)∧w'.cell? ⟨w8.heap.size,0,none⟩=some (.int .i64 40)∧w'.cell? ⟨w8.heap.size,1,none⟩=some (.int .i64 50))∧Ext w14 w'):=hHd (fun w' hx=>⟨⟨hx.keep (by simp [go_sem, *]),hx.keep (by simp [go_sem, *]),hx.keep (by simp [go_sem, *]),hx.keep (by simp [go_sem, *]),hx.keep (by simp [go_sem, *]),hx.keep (by simp [go_sem, *]),hx.keep (by simp [go_sem, *]),hx.keep (by simp [go_sem, *]),hx.keep (by simp [go_sem, *]),hx.keep (by simp [go_sem, *])⟩,hx⟩)
 clear b0 b1 b2 b3 b4 b5 b6 b7 d0 d1
 go_region_held3 (fun w'=>(w'.cell? ⟨g6,0,none⟩=some (.int .i64 0)∧w'.cell? ⟨g6,1,none⟩=some (.int .i64 50)∧w'.cell? ⟨g6,2,none⟩=some (.int .i64 0)∧w'.cell? ⟨g6,3,none⟩=some (.int .i64 30)∧w'.cell? ⟨g6,4,none⟩=some (.int .i64 0)∧w'.cell? ⟨g6,5,none⟩=some (.int .i64 50)∧w'.cell? ⟨g6,6,none⟩=some (.int .i64 0)∧w'.cell? ⟨g6,7,none⟩=some (.int .i64 20)∧w'.cell? ⟨w8.heap.size,0,none⟩=some (.int .i64 40)∧w'.cell? ⟨w8.heap.size,1,none⟩=some (.int .i64 50))∧Ext w14 w')
  ((refine HS.out _ ?_;exact EX))
  (first
   |(go_at_call 22;(first|(with_reducible refine(HI3.out _ _ _ (h1.ext EX) (lits3 16 17 17 (by simp [go_sem]) (by simp [go_sem]) (by simp [go_sem]) (by decide))).mono ?_)|(with_reducible refine(HI2.out _ _ _ (h4.ext EX) (lits2 20 30 (by simp [go_sem]) (by simp [go_sem]) (by decide))).mono ?_)|(with_reducible refine(HI1.out _ _ _ (h14.ext EX) (lits1 1 (by simp [go_sem]) (by decide))).mono ?_));rintro e w16 ⟨rfl,hx16⟩)
   |(go_at_call 60;(with_reducible refine(HB.out _ _ _).mono ?_);rintro e w18 ⟨rfl,hx18⟩))
 (go_wp2_with fail);go_ret;exact⟨rfl,EX⟩
end Go.Proofs.YtegkdnfeceomdaaGreat
