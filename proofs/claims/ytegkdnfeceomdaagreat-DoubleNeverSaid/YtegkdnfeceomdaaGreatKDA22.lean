/- Bundled: what the texts SD SU SV say one after another. -/
import Derived.Test.YtegkdnfeceomdaaGreatKDA19
import Derived.Test.YtegkdnfeceomdaaGreatKDA13
import Derived.Test.YtegkdnfeceomdaaGreatKDA15
import Derived.Test.YtegkdnfeceomdaaGreatKDA9
import Derived.Test.YtegkdnfeceomdaaGreatKDA21
import Derived.Test.YtegkdnfeceomdaaGreatKDA4
set_option maxRecDepth 100000
set_option maxHeartbeats 16000000
set_option linter.unusedSimpArgs false
set_option linter.unusedVariables false
namespace Go.Hs
open Go.RowKit
def sumOK (n:Int):Bool:=inR n 0 5000
def settleE (amount:Int) (sums:List Int):Int:=if 3<sums.length then 3 else if inR amount 0 1000&&(!decide (sums.length=0)&&sums.all sumOK) then 0 else 1
def padS (sums:List Int) (k j:Nat):Int:=if j<k then sums.getD j 0 else 0
theorem settleE_zero {amount:Int} {sums:List Int} (h:settleE amount sums=0):sums.length≤3∧sums≠ []∧(0≤amount∧amount≤1000)∧∀x∈sums,0≤x∧x≤5000:=by
 unfold settleE at h;split at h
 ·cases h
 ·split at h
  ·rename_i h3 hq
   simp only [Bool.and_eq_true,inR_iff,Bool.not_eq_true',decide_eq_false_iff_not,List.all_eq_true,sumOK] at hq;exact⟨by omega,fun e=>hq.2.1 (by rw [e];rfl),hq.1,hq.2.2⟩
  ·cases h
theorem settle_pad {amount:Int} {sums:List Int} (h3:sums.length≤3):settleL amount sums= [(settle3 amount (padS sums 3 0) (padS sums 3 1) (padS sums 3 2)).1,(settle3 amount (padS sums 3 0) (padS sums 3 1) (padS sums 3 2)).2.1,(settle3 amount (padS sums 3 0) (padS sums 3 1) (padS sums 3 2)).2.2].take sums.length:=by
 rcases sums with _|⟨a,_|⟨b,_|⟨c,_|⟨d,r⟩⟩⟩⟩
 ·simp [settleL,settleGo]
 ·simp only [padS,settle3,settleL,sumI];by_cases h:a≤amount<;>simp [h,settleGo]
 ·simp only [padS,settle3,settleL,sumI];by_cases h:a+b≤amount<;>simp [h,settleGo]
 ·simp only [padS,settle3,settleL,sumI];by_cases h:a+b+c≤amount<;>simp [h,settleGo]
 ·simp at h3
end Go.Hs
namespace Go.Proofs.YtegkdnfeceomdaaGreat
open Go.RowKit Go.Hs
attribute [local irreducible] World.setCell World.alloc
theorem fn_settle1:FnOK 64:=fun args w=>by simp [go_sem]
theorem settle1_s (n:Int) (w:World):Calls Tryz.prog 64 #[.int .i64 n] w fun e w'=>e= .returned (.bool (sumOK n))∧Ext w w':=by
 have HW:=hHd (within_d n 0 5000);unfold sumOK;generalize inR n 0 5000=r at*;have XX:Ext w w:=Ext.refl w;go_enter Tryz.func64,Tryz.ntmps64
 (go_wp2_with fail);(with_reducible refine(HW.out _).mono ?_);rintro e w1 ⟨rfl,hx⟩;have hy:Ext w w1:=EX;replace XX:=XX.trans hy;clear hx hy;(go_wp2_with fail);go_ret;exact⟨rfl,XX⟩
theorem allsums (a:Option Addr) (k:Nat) (sums:List Int) (w:World) (hr:Cells1 w a (sums.map (.int .i64))) (hl:sums.length≤1000):
  Calls Tryz.prog 63 #[.slice a sums.length k,.func (.func 64) #[] #[]] w fun e w'=>e= .returned (.bool (sums.all sumOK))∧Ext w w':=by
 have h:=allx_dint 64 fn_settle1 #[] #[] a k (sums.map (.int .i64)) (fun i=>sumOK (sums.getD i default)) w (by simp;omega) hr
  (fun i hi w1 hx => by
   have hi':i<sums.length:=by simpa using hi
   have e1:(sums.map (Value.int .i64))[i]= .int .i64 sums[i]:=by simp
   rw [e1];refine(settle1_s sums[i] w1).mono ?_
   rintro e w2 ⟨rfl,h2⟩;exact⟨ret_bool (by simp [hi']),h2⟩)
 rw [List.length_map,all_list] at h;exact h
theorem ints_cells {w:World} {a:Option Addr} {xs:List Int} (h:Hs.Rows IntAt 1 w a xs):Cells1 w a (xs.map (.int .i64)):=fun i hi=>by
 obtain⟨b,off,e,hc,-⟩:=h i (by simpa using hi);rw [Nat.mul_one] at hc;exact⟨b,off,e,by simpa using hc⟩
theorem ownRow_down {w:World} {B D e k n:Nat} {v:Value} {us:List Value} (h:w.ownsRow B e k v n us) (hd:D≤B):w.ownsRow D e k v n us:=by
 refine⟨h.1,?_⟩
 rcases h.2 with h|⟨g,cap,cur,h1,h2,h3⟩
 ·exact .inl h
 ·exact .inr ⟨g,cap,cur,h1,Nat.le_trans hd h2,h3⟩
theorem settle3_le {amount a b c:Int} (hm:0≤amount) (ha:0≤a∧a≤5000) (hb:0≤b∧b≤5000) (hc:0≤c∧c≤5000):(0≤(settle3 amount a b c).1∧(settle3 amount a b c).1≤5000)∧(0≤(settle3 amount a b c).2.1∧(settle3 amount a b c).2.1≤5000)∧0≤(settle3 amount a b c).2.2∧(settle3 amount a b c).2.2≤5000:=by
 have H:=(settleL_ok (l:= [a,b,c]) hm (by intro x hx;simp at hx;omega)).1;rw [settle3_eq] at H;have h0:=H 0 _ _ rfl rfl;have h1:=H 1 _ _ rfl rfl;have h2:=H 2 _ _ rfl rfl;omega
theorem padS_next {sums:List Int} {k j:Nat} (h:j≠k):padS sums (k+1) j=padS sums k j:=by
 unfold padS;by_cases l:j<k
 ·rw [if_pos l,if_pos (by omega)]
 ·rw [if_neg l,if_neg (by omega)]
theorem padS_here {sums:List Int} {k:Nat} :padS sums (k+1) k=sums.getD k 0:=by
 unfold padS;rw [if_pos (by omega)]
theorem padS_all {sums:List Int} {k j:Nat} (h:sums.length≤k) (hk:k≤3) (_:j<3):padS sums k j=padS sums 3 j:=by
 unfold padS;by_cases l:j<k
 ·rw [if_pos l,if_pos (by omega)]
 ·rw [if_neg l]; by_cases m : j < 3
  ·rw [if_pos m];simp [List.getD,List.getElem?_eq_none (show sums.length≤j by omega)]
  ·rw [if_neg m]
theorem Settle_good (amount:Int) (v:Value) (sums:List Int) (w:World) (hv:IntsV w v sums) (h:settleE amount sums=0):
  Calls Tryz.prog 19 #[.int .i64 amount,v] w fun e w'=>∃v',e= .returned (.tuple #[v',.int .i64 0])∧w'.ownsRow w.heap.size 3 1 v' sums.length ((settleL amount sums).map (.int .i64))∧Ext w w':=by
 obtain⟨h3,hne,hm,hs⟩:=settleE_zero h;have hlen:sums.length≠0:=fun e=>hne (List.eq_nil_of_length_eq_zero e)
 have hall:sums.all sumOK=true:=List.all_eq_true.2 (fun x hx=>inR_iff.2 (hs x hx));have HW:=hHd (within_d amount 0 1000);rw [inR_iff.2 hm] at HW;obtain⟨a,k,rfl,h1,h2,hr⟩:=hv;have HAL:Hid (∀W,Ext w W→Calls Tryz.prog 63 #[.slice a sums.length k,.func (.func 64) #[] #[]] W fun e w'=>e= .returned (.bool true)∧Ext W w'):=hHd (fun W hx=>hall ▸ allsums a k sums W ((ints_cells hr).ext hx) (by omega))
 have HR:Hid (∀i,i<sums.length→∃b off,a=some ⟨b,off,none⟩∧∀W,Ext w W→W.cell? ⟨b,off+i,none⟩=some (.int .i64 (sums.getD i 0))):=hHd (fun i hi=>by
  obtain⟨b,off,e,hc,-⟩:=hr i hi;rw [Nat.mul_one] at hc;exact⟨b,off,e,fun W hx=>hx.keep (by rw [hc];simp [hi])⟩)
 have hpd:∀k j,0≤padS sums k j∧padS sums k j≤5000:=fun k j=>by
  unfold padS;split
  ·by_cases l : j < sums.length
   ·have:=hs sums[j] (List.getElem_mem l);simp [l];omega
   ·simp [List.getD,List.getElem?_eq_none (show sums.length≤j by omega)]
  ·omega
 have HST:Hid (∀W,Calls Tryz.prog 65 #[sh3 (padS sums 3 0) (padS sums 3 1) (padS sums 3 2),.int .i64 amount] W fun e w'=>e= .returned (sh3 (settle3 amount (padS sums 3 0) (padS sums 3 1) (padS sums 3 2)).1 (settle3 amount (padS sums 3 0) (padS sums 3 1) (padS sums 3 2)).2.1 (settle3 amount (padS sums 3 0) (padS sums 3 1) (padS sums 3 2)).2.2)∧Ext W w'):=hHd (fun W=>settle_s _ _ _ amount W (hpd 3 0) (hpd 3 1) (hpd 3 2) hm);have HSP:=hHd (settle_pad (amount:=amount) h3);have HPN:=hHd (fun k j (h:j≠k)=>padS_next (sums:=sums) h);have HPH:=hHd (fun k=>padS_here (sums:=sums) (k:=k));have HPA:=hHd (fun j (hj:j<3)=>padS_all (sums:=sums) (k:=sums.length) (j:=j) (Nat.le_refl _) h3 hj);have HP0:Hid (∀j,padS sums 0 j=0):=hHd (fun j=>by unfold padS;rw [if_neg (by omega)]);have HLE:=hHd (settle3_le hm.1 (hpd 3 0) (hpd 3 1) (hpd 3 2));generalize settle3 amount (padS sums 3 0) (padS sums 3 1) (padS sums 3 2)=st at*;obtain⟨s0,s1,s2⟩:=st;simp only at HST HSP HLE;generalize hpp:padS sums=pd at*;clear hpp;have hd:decide ((3:Int)<(sums.length:Int))=false:=decide_eq_false (by omega);have hz:((sums.length:Int)==0)=false:=by rw [beq_eq_false_iff_ne];omega
 have hz':¬(sums.length:Int)=0:=by omega
 have XX:Ext w w:=Ext.refl w;clear hr hs hne hall h hpd hm;unfold sh3 at*;go_enter Tryz.func19,Tryz.ntmps19
 (go_wp2_with fail);(with_reducible refine(HW.out _).mono ?_);rintro e w1 ⟨rfl,hx⟩;have hy:Ext w w1:=EX;replace XX:=XX.trans hy;clear hx hy;(go_wp2_with fail);(with_reducible refine(HAL.out _ EX).mono ?_);rintro e w2 ⟨rfl,hx⟩;have hy:Ext w1 w2:=EX;replace XX:=XX.trans hy;clear hx hy;clear HW HAL;(go_wp2_with fail);have X2:Ext w (w2.alloc (.cells #[.int .i64 0,.int .i64 0,.int .i64 0] 133)):=XX.alloc _;have HZ:Hid (Sh3 w2.heap.size (pd 0 0) (pd 0 1) (pd 0 2) (w2.alloc (.cells #[.int .i64 0,.int .i64 0,.int .i64 0] 133))):=hHd (by rw [HP0.out,HP0.out,HP0.out];exact⟨by simp [go_sem],by simp [go_sem],by simp [go_sem],fun o=>by simp [go_sem]⟩);have hw2:=XX.size;generalize w2.alloc (.cells #[.int .i64 0,.int .i64 0,.int .i64 0] 133)=W3 at*;generalize w2.heap.size=R at*;go_loopw [30] (fun s30 wr=>∃i:Nat,i≤sums.length∧s30= .int .i64 i∧Hid (Sh3 R (pd i 0) (pd i 1) (pd i 2) wr)∧Ext w wr) (fun s _=>sums.length - (intOf s).toNat)
 case atStart=>exact⟨0,Nat.zero_le _,rfl,HZ,X2⟩
 case round=>
  obtain⟨i,hi,rfl,HC,hx⟩:=hrel;obtain⟨wo,rfl⟩:∃x,x=wr:=⟨_,rfl⟩;clear HZ X2;by_cases hlt:i<sums.length
  ·obtain ⟨b, off, rfl, hc⟩ := HR.out i hlt; have m0 := hc wo hx; have HX := hHd (HPH.out i); generalize sums.getD i 0 = x at *; have hi0 : (0 : Int) ≤ (i : Int) := by omega
   have hi1:(i:Int)<(sums.length:Int):=by omega
   have hi2:(i:Int)<3:=by omega
   have f0:=HC.out.c0;have f1:=HC.out.c1;have f2:=HC.out.c2;have ff:=HC.out.fr
   have fi:∃y,wo.cell? ⟨R,i,none⟩=some y:=by
    have:i=0∨i=1∨i=2:=by omega
    rcases this with rfl|rfl|rfl
    ·exact⟨_,f0⟩
    ·exact⟨_,f1⟩
    ·exact⟨_,f2⟩
   obtain⟨y,fi⟩:=fi
   have HN:Hid (Sh3 R (pd (i+1) 0) (pd (i+1) 1) (pd (i+1) 2) (wo.setCell ⟨R,i,none⟩ (.int .i64 x))):=hHd (by
    have:i=0∨i=1∨i=2:=by omega
    rcases this with rfl|rfl|rfl
    ·have e0:=HX.out;have e1:=HPN.out 0 1 (by decide);have e2:=HPN.out 0 2 (by decide);rw [e0,e1,e2];exact HC.out.set0 x
    ·have e1:=HX.out;have e0:=HPN.out 1 0 (by decide);have e2:=HPN.out 1 2 (by decide);rw [e0,e1,e2];exact HC.out.set1 x
    ·have e2:=HX.out;have e0:=HPN.out 2 0 (by decide);have e1:=HPN.out 2 1 (by decide);rw [e0,e1,e2];exact HC.out.set2 x)
   clear f0 f1 f2 hc;(go_wp2_with fail);go_roundw
   case rel=>exact⟨i+1,by omega,by go_num,HN,hx.setCell hw2 _⟩
   case measure=>simp [intOf];omega
  ·obtain rfl : i = sums.length := by omega
   have f0:=HC.out.c0;have f1:=HC.out.c1;have f2:=HC.out.c2;rw [HPA.out 0 (by decide)] at f0;rw [HPA.out 1 (by decide)] at f1;rw [HPA.out 2 (by decide)] at f2;clear HC HPA HPN HPH HR;generalize pd 3 0=p0 at*;generalize pd 3 1=p1 at*;generalize pd 3 2=p2 at*;(go_wp2_with fail);(with_reducible refine(HST.out _).mono ?_);rintro e w5 ⟨rfl,hx5⟩;have X5:Ext w w5:=hx.trans hx5;clear HST hx5 f0 f1 f2;have hl0:(0:Int)≤(sums.length:Int):=by omega
   have hl1:(sums.length:Int)≤3:=by omega
   have HCL:Hid (∀W,Ext w5 W→W.cell? ⟨w5.heap.size,0,none⟩=some (.int .i64 s0)→W.cell? ⟨w5.heap.size,1,none⟩=some (.int .i64 s1)→W.cell? ⟨w5.heap.size,2,none⟩=some (.int .i64 s2)→Calls Tryz.prog 66 #[.slice (some ⟨w5.heap.size,0,none⟩) sums.length 3] W fun e w'=>∃v',e= .returned v'∧w'.ownsRow W.heap.size 3 1 v' sums.length ((settleL amount sums).map (.int .i64))∧Ext W w'):=hHd (fun W _ g0 g1 g2=>by
    have hll:(settleL amount sums).length=sums.length:=settleL_len _ _
    have hx:=clone_x (.slice (some ⟨w5.heap.size,0,none⟩) sums.length 3) (settleL amount sums) W ⟨some ⟨w5.heap.size,0,none⟩,3,by rw [hll],by omega,by omega,fun i hi=>⟨_,_,rfl,by
     obtain⟨q0,q1,q2⟩:=HLE.out;have e1:(settleL amount sums)[i]?=([s0,s1,s2].take sums.length)[i]?:=by rw [HSP.out]
     rw [List.getElem?_eq_getElem hi,List.getElem?_take_of_lt (by omega)] at e1;rw [Nat.mul_one,Nat.zero_add];have:i=0∨i=1∨i=2:=by omega
     rcases this with rfl|rfl|rfl
     ·simp at e1;rw [e1];exact⟨g0,by omega,by omega⟩
     ·simp at e1;rw [e1];exact⟨g1,by omega,by omega⟩
     ·simp at e1;rw [e1];exact⟨g2,by omega,by omega⟩⟩⟩ (by omega)
    rw [hll] at hx;exact hx)
   have hw5:=X5.size;clear HSP HLE;(go_wp2_with fail);(with_reducible refine(HCL.out _ EX (by simp [go_sem]) (by simp [go_sem]) (by simp [go_sem])).mono ?_);rintro e w6 ⟨v',rfl,hown,hx6⟩;clear HCL;have X6:Ext w w6:=EX;have hown':=hHd (ownRow_down hown (D:=w.heap.size) (by simp [go_sem];omega));clear hown hx6;(go_wp2_with fail);go_ret2;exact⟨v',rfl,hown'.out,X6⟩
end Go.Proofs.YtegkdnfeceomdaaGreat
namespace Go.Hs
open Go.RowKit
def sumD (d:Dmg) (k:Int):Int:=if k=0 then d.s0 else if k=1 then d.s1 else d.s2
def refundD (d:Dmg) (k:Int):Int:=min (sumD d k) d.amount - payD d k
def totD (d:Dmg):Int:=(paysD d).1+(paysD d).2.1+(paysD d).2.2
end Go.Hs
namespace Go.Proofs.YtegkdnfeceomdaaGreat
open Go.RowKit Go.Hs
attribute [local irreducible] World.setCell World.alloc
theorem pays_bd {d:Dmg} (h:DmgOK d):(0≤(paysD d).1∧(paysD d).1≤5000)∧(0≤(paysD d).2.1∧(paysD d).2.1≤5000)∧0≤(paysD d).2.2∧(paysD d).2.2≤5000:=settle3_le h.a.1 h.s0 h.s1 h.s2
theorem pay_dd (p m:Nat) (d:Dmg) (k:Int) (w:World) (hp:w.cell? ⟨p,11,none⟩=some (.map (some m))) (hs:Stl m w) (hd:DmgOK d) (hk:k=0∨k=1∨k=2):
  Calls Tryz.prog 91 #[.pointer (some ⟨p,0,none⟩),d.v,.int .i64 k] w fun e w'=>e= .returned (.int .i64 (payD d k))∧MM m w w':=by
 have HP:=hHd (fun W (h:MM m w W)=>pays_d p m d W (h.keep hs hp) (h.stl hs) hd)
 have HI:Hid (∀w,(Instr.index 133 (paysV d) (.int .i64 k)).run Tryz.prog w= .ok (.int .i64 (payD d k)) w):=hHd (by
  rcases hk with h|h|h
  ·intro w;rw [h];exact index_sh0 _ _ _ w
  ·intro w;rw [h];exact index_sh1 _ _ _ w
  ·intro w;rw [h];exact index_sh2 _ _ _ w)
 have hix:=HI.out;clear hd hk hs hp HI;generalize payD d k=py at*;generalize paysV d=pv at*;obtain⟨am,s0,s1,s2⟩:=d;simp only [Dmg.v] at*;go_enter Tryz.func91,Tryz.ntmps91
 (go_wp2_with fail);(with_reducible refine(HP.out _ (by(repeat (first|exact MM.refl _|with_reducible (first|assumption|refine MM.drew ?_|refine MM.alloc ?_ _|refine MM.ext ?_ (by assumption)|refine MM.trans ?_ (by assumption)|refine Ext.mm (by assumption)))))).mono ?_);rintro e w1 ⟨rfl,hm1⟩;have M1:MM m w w1:=by(repeat (first|exact MM.refl _|with_reducible (first|assumption|refine MM.drew ?_|refine MM.alloc ?_ _|refine MM.ext ?_ (by assumption)|refine MM.trans ?_ (by assumption)|refine Ext.mm (by assumption))))
 (go_wp2_with fail);go_ret;exact⟨rfl,M1⟩
theorem together_dd (p m:Nat) (d:Dmg) (k:Int) (w:World) (hp:w.cell? ⟨p,11,none⟩=some (.map (some m))) (hs:Stl m w) (hd:DmgOK d):
  Calls Tryz.prog 94 #[.pointer (some ⟨p,0,none⟩),d.v,.int .i64 k] w fun e w'=>e= .returned (.int .i64 (totD d))∧MM m w w':=by
 have HP:=hHd (fun W (h:MM m w W)=>pays_d p m d W (h.keep hs hp) (h.stl hs) hd);have hb:=pays_bd hd;have HT:Hid (∀W,Calls Tryz.prog 121 #[paysV d] W fun e w'=>e= .returned (.int .i64 (totD d))∧Ext W w'):=hHd (fun W=>total_s _ _ _ W (by omega) (by omega) (by omega));clear hd hs hp hb;generalize totD d=py at*;generalize paysV d=pv at*;obtain⟨am,s0,s1,s2⟩:=d;simp only [Dmg.v] at*;go_enter Tryz.func94,Tryz.ntmps94
 (go_wp2_with fail);(with_reducible refine(HP.out _ (by(repeat (first|exact MM.refl _|with_reducible (first|assumption|refine MM.drew ?_|refine MM.alloc ?_ _|refine MM.ext ?_ (by assumption)|refine MM.trans ?_ (by assumption)|refine Ext.mm (by assumption)))))).mono ?_);rintro e w1 ⟨rfl,hm1⟩;have M1:MM m w w1:=by(repeat (first|exact MM.refl _|with_reducible (first|assumption|refine MM.drew ?_|refine MM.alloc ?_ _|refine MM.ext ?_ (by assumption)|refine MM.trans ?_ (by assumption)|refine Ext.mm (by assumption))))
 (go_wp2_with fail);(with_reducible refine(HT.out _).mono ?_);rintro e w2 ⟨rfl,hx2⟩;have M2:=M1.ext hx2;(go_wp2_with fail);go_ret;exact⟨rfl,M2⟩
theorem refund_dd (p m:Nat) (d:Dmg) (k:Int) (w:World) (hp:w.cell? ⟨p,11,none⟩=some (.map (some m))) (hs:Stl m w) (hd:DmgOK d) (hk:k=0∨k=1∨k=2):
  Calls Tryz.prog 93 #[.pointer (some ⟨p,0,none⟩),d.v,.int .i64 k] w fun e w'=>e= .returned (.int .i64 (refundD d k))∧MM m w w':=by
 have HP0:=hHd (fun W (h:MM m w W)=>pays_d p m d W (h.keep hs hp) (h.stl hs) hd)
 have HI:Hid (∀w,(Instr.index 133 (paysV d) (.int .i64 k)).run Tryz.prog w= .ok (.int .i64 (payD d k)) w):=hHd (by
  rcases hk with h|h|h
  ·intro w;rw [h];exact index_sh0 _ _ _ w
  ·intro w;rw [h];exact index_sh1 _ _ _ w
  ·intro w;rw [h];exact index_sh2 _ _ _ w)
 have hix:=HI.out;have hb:=pays_bd hd
 have HBD:Hid (0≤payD d k∧payD d k≤5000):=hHd (by
  unfold payD;split
  ·exact hb.1
  ·split
   ·exact hb.2.1
   ·exact hb.2.2)
 have HSD:Hid (0≤sumD d k∧sumD d k≤5000):=hHd (by
  unfold sumD;split
  ·exact hd.s0
  ·split
   ·exact hd.s1
   ·exact hd.s2)
 obtain⟨kn,hkn,hk3⟩:∃kn:Nat,k=(kn:Int)∧kn<3:=by
  rcases hk with h|h|h
  ·exact⟨0,h,by decide⟩
  ·exact⟨1,h,by decide⟩
  ·exact⟨2,h,by decide⟩
 have HRD:Hid (refundD d k=min (sumD d k) d.amount - payD d k):=rfl;have HMN:Hid (min (sumD d k) d.amount=if d.amount<sumD d k then d.amount else sumD d k):=hHd (by split<;>omega)
 have HSC:Hid (∀(W:World) B,(∀j v,([.int .i64 d.amount,.int .i64 d.s0,.int .i64 d.s1,.int .i64 d.s2]:List Value)[j]?=some v→W.cell? ⟨B,j,none⟩=some v)→W.cell? ⟨B,1+kn,none⟩=some (.int .i64 (sumD d k))):=hHd (fun W B h=>by
  rcases hk with e|e|e
  ·obtain rfl : kn = 0 := by omega
   subst e;exact h 1 _ rfl
  ·obtain rfl : kn = 1 := by omega
   subst e;exact h 2 _ rfl
  ·obtain rfl : kn = 2 := by omega
   subst e;exact h 3 _ rfl)
 have hml:=hs.lt;have hha:=hd.a;have hbd:=HBD.out;have hsd:=HSD.out;clear hd hk hs hp HI hb HBD HSD;rw [HRD.out];clear HRD;generalize payD d k=py at*;generalize paysV d=pv at*;generalize sumD d k=sk at*;obtain⟨am,s0,s1,s2⟩:=d;simp only [Dmg.v] at*;have HMI:=hHd (fun W b h0 h1=>min2_d sk am (min sk am) HMN.out b W h0 h1 2 (Nat.le_refl _));have hw:IntKind.i64.wrap (min sk am - py)=min sk am - py:=IntWalk.i64_in _ (by omega);subst hkn;have hk0:(0:Int)≤(kn:Int):=by omega
 have hk1:(kn:Int)<3:=by omega
 clear hbd hsd hha HMN;generalize min sk am=mn at*;go_enter Tryz.func93,Tryz.ntmps93
 (go_wp2_with fail);obtain⟨W,hW,X,HS,HSf,HSz⟩:=bx4 w 139 (.int .i64 am) (.int .i64 s0) (.int .i64 s1) (.int .i64 s2);rw [hW];clear hW;obtain⟨⟨q0,q1,q2,q3⟩,-⟩:=HS.out W (Ext.refl _)
 have q4:=HSC.out W w.heap.size (fun j v hj=>by
  rcases j with _|_|_|_|j
  ·cases hj;exact q0
  ·cases hj;exact q1
  ·cases hj;exact q2
  ·cases hj;exact q3
  ·simp at hj)
 have HSS:Hid (∀w',MM m W w'→(w'.cell? ⟨w.heap.size,0,none⟩=some (.int .i64 am)∧w'.cell? ⟨w.heap.size,1,none⟩=some (.int .i64 s0)∧w'.cell? ⟨w.heap.size,2,none⟩=some (.int .i64 s1)∧w'.cell? ⟨w.heap.size,3,none⟩=some (.int .i64 s2)∧w'.cell? ⟨w.heap.size,1+kn,none⟩=some (.int .i64 sk))∧MM m W w'):=hHd (fun w' h=>⟨⟨h.keep' (by omega) q0,h.keep' (by omega) q1,h.keep' (by omega) q2,h.keep' (by omega) q3,h.keep' (by omega) q4⟩,h⟩);have HP:=hHd (fun W' (h:MM m W W')=>HP0.out W' ((Ext.mm X).trans h));have hnA:¬W.heap.size=m:=by omega
 clear HS HSf HSC q0 q1 q2 q3 q4 HP0
 go_region_held3 (fun w'=>(w'.cell? ⟨w.heap.size,0,none⟩=some (.int .i64 am)∧w'.cell? ⟨w.heap.size,1,none⟩=some (.int .i64 s0)∧w'.cell? ⟨w.heap.size,2,none⟩=some (.int .i64 s1)∧w'.cell? ⟨w.heap.size,3,none⟩=some (.int .i64 s2)∧w'.cell? ⟨w.heap.size,1+kn,none⟩=some (.int .i64 sk))∧MM m W w')
  ((refine HSS.out _ ?_;(repeat (first|exact MM.refl _|with_reducible (first|assumption|refine MM.drew ?_|refine MM.alloc ?_ _|refine MM.ext ?_ (by assumption)|refine MM.trans ?_ (by assumption)|refine Ext.mm (by assumption))))))
  (first
   |(go_at_call 75;(refine(HP.out _ (by(repeat (first|exact MM.refl _|with_reducible (first|assumption|refine MM.drew ?_|refine MM.alloc ?_ _|refine MM.ext ?_ (by assumption)|refine MM.trans ?_ (by assumption)|refine Ext.mm (by assumption)))))).mono ?_);rintro e w3 ⟨rfl,hx3⟩)
   |(go_at_call 86;(refine(HMI.out _ _ (by first|(simp [go_sem];done)|exact hx3.keep' hnA (by simp [go_sem])) (by first|(simp [go_sem];done)|exact hx3.keep' hnA (by simp [go_sem]))).mono ?_);rintro e w4 ⟨rfl,hx4⟩))
 all_goals
  (go_wp2_with fail);go_ret;exact⟨rfl,X.mm.trans (by(repeat (first|exact MM.refl _|with_reducible (first|assumption|refine MM.drew ?_|refine MM.alloc ?_ _|refine MM.ext ?_ (by assumption)|refine MM.trans ?_ (by assumption)|refine Ext.mm (by assumption)))))⟩
theorem wider_dd (lo hi n:Int) (w:World):
  Calls Tryz.prog 145 #[.agg #[.int .i64 lo,.int .i64 hi],.int .i64 n] w fun e w'=>e= .returned (.agg #[.int .i64 (min lo n),.int .i64 (max hi n)])∧Ext w w':=by
 have HMI:=hHd (fun W b h0 h1=>min2_d lo n (min lo n) (by split<;>omega) b W h0 h1 2 (Nat.le_refl _))
 have hmx:∀w,(Builtin.max_ #[3,3] 3 #[.int .i64 hi,.int .i64 n]).run Tryz.prog w= .ok (.int .i64 (max hi n)) w:=fun w=>by
  have e:(if hi<n then n else hi)=max hi n:=by split<;>omega
  rw [←e];simp [go_sem]
 generalize min lo n=mn at*;generalize max hi n=mx at*;go_enter Tryz.func145,Tryz.ntmps145
 (go_wp2_with fail);obtain⟨W,hW,X,HS,HSf,HSz⟩:=bx2_2 w 54 (.int .i64 lo) (.int .i64 hi) 54 (.int .i64 0) (.int .i64 0);rw [hW];clear hW
 have HSS:Hid (∀w',Ext W w'→(w'.cell? ⟨w.heap.size,0,none⟩=some (.int .i64 lo)∧w'.cell? ⟨w.heap.size,1,none⟩=some (.int .i64 hi))∧(w'.cell? ⟨w.heap.size+1,0,none⟩=some (curV w' ⟨w.heap.size+1,0,none⟩)∧w'.cell? ⟨w.heap.size+1,1,none⟩=some (curV w' ⟨w.heap.size+1,1,none⟩)∧∀o,w'.frozen? ⟨w.heap.size+1,o,none⟩=false)∧Ext w w'):=hHd (fun w' h=>by
  obtain⟨⟨q0,q1,r0,r1⟩,-⟩:=HS.out w' h;exact⟨⟨q0,q1⟩,⟨cur_self r0,cur_self r1,HSf.out w' h⟩,X.trans h⟩)
 have HST:Hid (∀w' a b,Ext W w'→(((w'.setCell ⟨w.heap.size+1,0,none⟩ a).setCell ⟨w.heap.size+1,1,none⟩ b).cell? ⟨w.heap.size,0,none⟩=some (.int .i64 lo)∧((w'.setCell ⟨w.heap.size+1,0,none⟩ a).setCell ⟨w.heap.size+1,1,none⟩ b).cell? ⟨w.heap.size,1,none⟩=some (.int .i64 hi))∧(((w'.setCell ⟨w.heap.size+1,0,none⟩ a).setCell ⟨w.heap.size+1,1,none⟩ b).cell? ⟨w.heap.size+1,0,none⟩=some (curV ((w'.setCell ⟨w.heap.size+1,0,none⟩ a).setCell ⟨w.heap.size+1,1,none⟩ b) ⟨w.heap.size+1,0,none⟩)∧((w'.setCell ⟨w.heap.size+1,0,none⟩ a).setCell ⟨w.heap.size+1,1,none⟩ b).cell? ⟨w.heap.size+1,1,none⟩=some (curV ((w'.setCell ⟨w.heap.size+1,0,none⟩ a).setCell ⟨w.heap.size+1,1,none⟩ b) ⟨w.heap.size+1,1,none⟩)∧∀o,((w'.setCell ⟨w.heap.size+1,0,none⟩ a).setCell ⟨w.heap.size+1,1,none⟩ b).frozen? ⟨w.heap.size+1,o,none⟩=false)∧Ext w ((w'.setCell ⟨w.heap.size+1,0,none⟩ a).setCell ⟨w.heap.size+1,1,none⟩ b)):=hHd (fun w' a b h=>by
  obtain⟨⟨q0,q1,r0,r1⟩,-⟩:=HS.out w' h
  exact⟨⟨cell_ne (.inl (by omega)) (cell_ne (.inl (by omega)) q0),cell_ne (.inl (by omega)) (cell_ne (.inl (by omega)) q1)⟩,
   ⟨cur_self (cell_ne (.inr (by decide)) (World.cell?_setCell_same _ _ _ r0)),cur_self (World.cell?_setCell_same _ _ _ (cell_ne (.inr (by decide)) r1)),fun o=>by rw [World.frozen?_setCell,World.frozen?_setCell];exact HSf.out w' h o⟩,((X.trans h).setCell (by omega) _).setCell (by omega) _⟩)
 have HRT:Hid (∀w' a b,Ext W w'→((w'.setCell ⟨w.heap.size+1,0,none⟩ a).setCell ⟨w.heap.size+1,1,none⟩ b).cell? ⟨w.heap.size+1,0,none⟩=some a∧((w'.setCell ⟨w.heap.size+1,0,none⟩ a).setCell ⟨w.heap.size+1,1,none⟩ b).cell? ⟨w.heap.size+1,1,none⟩=some b):=hHd (fun w' a b h=>by
  obtain⟨⟨q0,q1,r0,r1⟩,-⟩:=HS.out w' h;exact⟨cell_ne (.inr (by decide)) (World.cell?_setCell_same _ _ _ r0),World.cell?_setCell_same _ _ _ (cell_ne (.inr (by decide)) r1)⟩)
 clear HS HSf
 go_region_held3 (fun w'=>(w'.cell? ⟨w.heap.size,0,none⟩=some (.int .i64 lo)∧w'.cell? ⟨w.heap.size,1,none⟩=some (.int .i64 hi))∧(w'.cell? ⟨w.heap.size+1,0,none⟩=some (curV w' ⟨w.heap.size+1,0,none⟩)∧w'.cell? ⟨w.heap.size+1,1,none⟩=some (curV w' ⟨w.heap.size+1,1,none⟩)∧∀o,w'.frozen? ⟨w.heap.size+1,o,none⟩=false)∧Ext w w')
  (first|(refine HSS.out _ ?_;((repeat (first|exact Ext.refl _|with_reducible (first|assumption|refine Ext.drew ?_|refine Ext.alloc ?_ _|refine Ext.drewN ?_ _|refine Ext.setCell ?_ (by omega) _|refine Ext.trans ?_ (by assumption))));done))|(refine HST.out _ _ _ ?_;exact EXD))
  ((go_at_call 86;(refine(HMI.out _ _ (by simp [go_sem]) (by simp [go_sem])).mono ?_);rintro e w4 ⟨rfl,hx4⟩))
 all_goals
  obtain⟨h0,h1⟩:=HRT.out w4 (.int .i64 mn) (.int .i64 mx) EX;have XE:Ext w ((w4.setCell ⟨w.heap.size+1,0,none⟩ (.int .i64 mn)).setCell ⟨w.heap.size+1,1,none⟩ (.int .i64 mx)):=(HST.out w4 (.int .i64 mn) (.int .i64 mx) EX).2.2;(go_wp2_with fail);refine bodyPost_ret (v:= .agg #[.int .i64 mn,.int .i64 mx]) (by simp [results,Tryz.results145,go_sem,h0,h1]) rfl ⟨rfl,XE⟩
end Go.Proofs.YtegkdnfeceomdaaGreat
namespace Go.Hs
open Go.RowKit
def stepB (acc:Option (Int×Int)) (n:Int):Option (Int×Int):=some (min (acc.getD (n,n)).1 n,max (acc.getD (n,n)).2 n)
def bdsL (ns:List Int):Option (Int×Int):=ns.foldl stepB none
theorem bdsL_snoc (ns:List Int) (n:Int):bdsL (ns++ [n])=stepB (bdsL ns) n:=by unfold bdsL;rw [List.foldl_append];rfl
theorem bdsL_ne {ns:List Int} (h:ns≠ []):(bdsL ns).isSome=true:=by
 rcases List.eq_nil_or_concat ns with h'|⟨l,x,rfl⟩
 ·exact absurd h' h
 ·rw [List.concat_eq_append,bdsL_snoc];rfl
structure BdJ (w:World) (p m F:Nat) (k:Int) (acc:Option (Int×Int)) (W:World):Prop where
 mm:MM m w W
 b0:W.cell? ⟨w.heap.size,0,none⟩=some (.func (.func F) #[] #[])
 b1:W.cell? ⟨w.heap.size+1,0,none⟩=some (.pointer (some ⟨p,0,none⟩))
 b2:W.cell? ⟨w.heap.size+2,0,none⟩=some (.int .i64 k)
 r0:W.cell? ⟨w.heap.size+3,0,none⟩=some (.int .i64 (acc.getD (0,0)).1)
 r1:W.cell? ⟨w.heap.size+3,1,none⟩=some (.int .i64 (acc.getD (0,0)).2)
 rf:∀o,W.frozen? ⟨w.heap.size+3,o,none⟩=false
 i0:W.cell? ⟨w.heap.size+4,0,none⟩=some (.bool acc.isSome)
 fi:∀o,W.frozen? ⟨w.heap.size+4,o,none⟩=false
 t1:W.cell? ⟨w.heap.size+5,0,none⟩=some (.pointer (some ⟨p,0,none⟩))
 t2:W.cell? ⟨w.heap.size+6,0,none⟩=some (.slice none 0 0)
section
variable {w W V:World} {p m F n:Nat} {k:Int} {acc:Option (Int×Int)}
theorem BdJ.belq (h:BdJ w p m F k acc W) (hx:BelQ (fun k=>k=m) (Stl m) n W V) (hm:m<w.heap.size) (hn:w.heap.size+7≤n):BdJ w p m F k acc V:=
 ⟨mm_bel h.mm hx (by omega),hx.cell (by omega) (by omega) h.b0,hx.cell (by omega) (by omega) h.b1,hx.cell (by omega) (by omega) h.b2,hx.cell (by omega) (by omega) h.r0,hx.cell (by omega) (by omega) h.r1,fun o=>(hx.frozen (by omega) (by omega)).trans (h.rf o),hx.cell (by omega) (by omega) h.i0,fun o=>(hx.frozen (by omega) (by omega)).trans (h.fi o),hx.cell (by omega) (by omega) h.t1,hx.cell (by omega) (by omega) h.t2⟩
theorem BdJ.more (h:BdJ w p m F k acc W) (hx:MM m W V) (hm:m<w.heap.size):BdJ w p m F k acc V:=by
 have hz:w.heap.size+6<W.heap.size:=lt_of_cell h.t2;exact h.belq (n:=W.heap.size) (mm_belq hx (Nat.le_refl _)) hm (by omega)
theorem BdJ.grow (h:BdJ w p m F k acc W) (hx:Ext W V) (hm:m<w.heap.size):BdJ w p m F k acc V:=h.more (Ext.mm hx) hm
theorem BdJ.range (h:BdJ w p m F k acc W) (hs:Stl m w) (x y:Int) (hi:acc.isSome=true):BdJ w p m F k (some (x,y)) ((W.setCell ⟨w.heap.size+3,0,none⟩ (.int .i64 x)).setCell ⟨w.heap.size+3,1,none⟩ (.int .i64 y)):=by
 have n0:w.heap.size≠w.heap.size+3:=by omega
 have n1:w.heap.size+1≠w.heap.size+3:=by omega
 have n2:w.heap.size+2≠w.heap.size+3:=by omega
 have n4:w.heap.size+4≠w.heap.size+3:=by omega
 have n5:w.heap.size+5≠w.heap.size+3:=by omega
 have n6:w.heap.size+6≠w.heap.size+3:=by omega
 refine⟨(h.mm.setCell (by omega) hs _).setCell (by omega) hs _,cell_ne (.inl n0) (cell_ne (.inl n0) h.b0),cell_ne (.inl n1) (cell_ne (.inl n1) h.b1),cell_ne (.inl n2) (cell_ne (.inl n2) h.b2),cell_ne (.inr (by decide)) (World.cell?_setCell_same _ _ _ h.r0),World.cell?_setCell_same _ _ _ (cell_ne (.inr (by decide)) h.r1),fun o=>by rw [World.frozen?_setCell,World.frozen?_setCell];exact h.rf o,?_,fun o=>by rw [World.frozen?_setCell,World.frozen?_setCell];exact h.fi o,cell_ne (.inl n5) (cell_ne (.inl n5) h.t1),cell_ne (.inl n6) (cell_ne (.inl n6) h.t2)⟩
 have:=cell_ne (i:=0) (i':=1) (v:= .int .i64 y) (.inl n4) (cell_ne (i:=0) (i':=0) (v:= .int .i64 x) (.inl n4) h.i0);rw [hi] at this;exact this
theorem BdJ.first (h:BdJ w p m F k acc W) (hs:Stl m w) (x y:Int):BdJ w p m F k (some (x,y)) (((W.setCell ⟨w.heap.size+3,0,none⟩ (.int .i64 x)).setCell ⟨w.heap.size+3,1,none⟩ (.int .i64 y)).setCell ⟨w.heap.size+4,0,none⟩ (.bool true)):=by
 have n0:w.heap.size≠w.heap.size+3:=by omega
 have n1:w.heap.size+1≠w.heap.size+3:=by omega
 have n2:w.heap.size+2≠w.heap.size+3:=by omega
 have n4:w.heap.size+4≠w.heap.size+3:=by omega
 have n5:w.heap.size+5≠w.heap.size+3:=by omega
 have n6:w.heap.size+6≠w.heap.size+3:=by omega
 have m0:w.heap.size≠w.heap.size+4:=by omega
 have m1:w.heap.size+1≠w.heap.size+4:=by omega
 have m2:w.heap.size+2≠w.heap.size+4:=by omega
 have m3:w.heap.size+3≠w.heap.size+4:=by omega
 have m5:w.heap.size+5≠w.heap.size+4:=by omega
 have m6:w.heap.size+6≠w.heap.size+4:=by omega
 exact⟨((h.mm.setCell (by omega) hs _).setCell (by omega) hs _).setCell (by omega) hs _,cell_ne (.inl m0) (cell_ne (.inl n0) (cell_ne (.inl n0) h.b0)),cell_ne (.inl m1) (cell_ne (.inl n1) (cell_ne (.inl n1) h.b1)),cell_ne (.inl m2) (cell_ne (.inl n2) (cell_ne (.inl n2) h.b2)),cell_ne (.inl m3) (cell_ne (.inr (by decide)) (World.cell?_setCell_same _ _ _ h.r0)),cell_ne (.inl m3) (World.cell?_setCell_same _ _ _ (cell_ne (.inr (by decide)) h.r1)),fun o=>by rw [World.frozen?_setCell,World.frozen?_setCell,World.frozen?_setCell];exact h.rf o,World.cell?_setCell_same _ _ _ (cell_ne (.inl n4) (cell_ne (.inl n4) h.i0)),fun o=>by rw [World.frozen?_setCell,World.frozen?_setCell,World.frozen?_setCell];exact h.fi o,cell_ne (.inl m5) (cell_ne (.inl n5) (cell_ne (.inl n5) h.t1)),cell_ne (.inl m6) (cell_ne (.inl n6) (cell_ne (.inl n6) h.t2))⟩
end
theorem kept_set {D T i:Nat} {w w':World} (h:Kept D w w') (hT:T<D) (v:Value):Kept D w (w'.setCell ⟨T,i,none⟩ v):=h.trans ⟨by rw [World.size_setCell];exact Nat.le_refl _,fun k hk _=>Below.heap_setCell _ _ _ _ (show k≠T by omega)⟩
theorem results_load_cc {P:Program} {fn:Func} {p q:Tmp} {ty tz:TypeId} (h:fn.results= #[.cell p ty,.cell q tz]) (tmps:Array Value) (w:World) (ad ae:Addr) (v u:Value) (hp:tmps.getD p undef= .pointer (some ad)) (hl:(loadVar ty ad).run P w= .ok v w) (hq:tmps.getD q undef= .pointer (some ae)) (hl2:(loadVar tz ae).run P w= .ok u w):
  (results fn tmps).run P w= .ok (.tuple #[v,u]) w:=by
 have hp':tmps[p]?.getD undef= .pointer (some ad):=by simpa using hp
 have hq':tmps[q]?.getD undef= .pointer (some ae):=by simpa using hq
 simp [results,h,hp',hq',asAddr,hl,hl2]
end Go.Hs
namespace Go.Proofs.YtegkdnfeceomdaaGreat
open Go.RowKit Go.Hs
attribute [local irreducible] World.setCell World.alloc
attribute [local go_sem] Oper.semAt_some
attribute [local simp] wide_fn wide_fn' wide_depth wide_round
attribute [local go_sem] wide_fn wide_fn' wide_depth wide_round
theorem bounds_dd (p m:Nat) (A:CaseA) (c:DCas) (F:FuncId) (hF:FnOK F) (f:Dmg→Int) (k:Int) (w:World) (hS:CasS c) (hb:KB p m A c w)
    (hf:∀W d,MM m w W→DmgOK d→Calls Tryz.prog F #[.pointer (some ⟨p,0,none⟩),d.v,.int .i64 k] W fun e w'=>e= .returned (.int .i64 (f d))∧MM m W w'):
    Calls Tryz.prog 92 #[.agg #[.func (.func F) #[] #[]],.pointer (some ⟨p,0,none⟩),.int .i64 k] w fun e w'=>e= .returned (.tuple #[.agg #[.int .i64 ((bdsL ((truthsD c []).map (fun x:DTr×Dmg=>f x.2))).getD (0,0)).1,.int .i64 ((bdsL ((truthsD c []).map (fun x:DTr×Dmg=>f x.2))).getD (0,0)).2],.bool (bdsL ((truthsD c []).map (fun x:DTr×Dmg=>f x.2))).isSome])∧MM m w w':=by
  have HGV:=hHd (fun b1 b2=>truthsD_gives p m b1 b2 A c (.slice none 0 0) [] hS);have hnil:IntsV w (.slice none 0 0) []:=⟨none,0,rfl,Nat.le_refl _,by simp,fun i hi=>absurd hi (Nat.not_lt_zero _)⟩;have HKT:=hHd (fun b1 b2 W' (k:MM m w W') h1 h2=>KB.kt (b1:=b1) (b2:=b2) hb hnil k h1 h2);have HF:=hHd hf
  have HDO:Hid (∀i (h:i<(truthsD c []).length),DmgOK ((truthsD c [])[i]).2):=hHd (fun i h=>by
    have hm:=List.getElem_mem h;obtain⟨l,hl,he⟩:=List.mem_filterMap.1 hm;unfold tryD at he;obtain⟨d,hd,he⟩:=Option.bind_eq_some_iff.1 he;split at he
    · have ht:=truD_ok hl;have:=damD_ok hS (by have:=hS.loss;have:=ht.loss;omega) hd;simp only [Option.some.injEq] at he;rw [←he];exact this
    · cases he)
  have HNX:Hid (∀i (h:i<(truthsD c []).length),bdsL (((truthsD c []).take (i+1)).map (fun x:DTr×Dmg=>f x.2))=stepB (bdsL (((truthsD c []).take i).map (fun x:DTr×Dmg=>f x.2))) (f ((truthsD c [])[i]).2)):=hHd (fun i h=>by
    rw [List.take_succ_eq_append_getElem h,List.map_append,List.map_cons,List.map_nil,bdsL_snoc])
  have hml:m<w.heap.size:=hb.stl.lt;have hst:=hHd hb.stl;clear hb hnil hf;unfold FnOK at hF;refine(callsIn_wide (n:=0)).1 (callsIn_of_wp_marks Tryz.func92 rfl trivial (wpIn_wide.2 ?_) rfl)
  simp only [Tryz.ntmps92,List.size_toArray,List.length_cons,List.length_nil,Nat.reduceAdd,Nat.reduceSub,Array.replicate_succ,Array.replicate_zero,List.push_toArray,List.append_toArray,List.nil_append,List.cons_append];(go_wp2_with fail);(with_reducible refine(truthsF_d _ _ _ _ _).mono ?_);rintro e w' ⟨rfl,rfl⟩;go_wp2_with fail
  have J0:BdJ w p m F k none (((((((w.alloc (.cells #[.func (.func F) #[] #[]] 162)).alloc (.cells #[.pointer (some ⟨p,0,none⟩)] 136)).alloc (.cells #[.int .i64 k] 3)).alloc (.cells #[.int .i64 0,.int .i64 0] 54)).alloc (.cells #[.bool false] 4)).alloc (.cells #[.pointer (some ⟨p,0,none⟩)] 136)).alloc (.cells #[.slice none 0 0] 22)):=by
    refine⟨Ext.mm EX,?_,?_,?_,?_,?_,fun o=> ?_,?_,fun o=> ?_,?_,?_⟩<;>simp [go_sem]
  have hz:(((((((w.alloc (.cells #[.func (.func F) #[] #[]] 162)).alloc (.cells #[.pointer (some ⟨p,0,none⟩)] 136)).alloc (.cells #[.int .i64 k] 3)).alloc (.cells #[.int .i64 0,.int .i64 0] 54)).alloc (.cells #[.bool false] 4)).alloc (.cells #[.pointer (some ⟨p,0,none⟩)] 136)).alloc (.cells #[.slice none 0 0] 22)).heap.size=w.heap.size+7:=by simp
  rw [show w.heap.size+1+1+1+1+1+1=w.heap.size+6 from rfl,show w.heap.size+1+1+1+1+1=w.heap.size+5 from rfl,show w.heap.size+1+1+1+1=w.heap.size+4 from rfl,show w.heap.size+1+1+1=w.heap.size+3 from rfl,show w.heap.size+1+1=w.heap.size+2 from rfl];generalize (((((((w.alloc (.cells #[.func (.func F) #[] #[]] 162)).alloc (.cells #[.pointer (some ⟨p,0,none⟩)] 136)).alloc (.cells #[.int .i64 k] 3)).alloc (.cells #[.int .i64 0,.int .i64 0] 54)).alloc (.cells #[.bool false] 4)).alloc (.cells #[.pointer (some ⟨p,0,none⟩)] 136)).alloc (.cells #[.slice none 0 0] 22))=W0 at*;have HZ:=hHd hz;have hz0:w.heap.size+7≤W0.heap.size∧W0.heap.size≤w.heap.size+7:=by omega
  clear hz
  refine each_wpQ (q:=fun k=>k=m) (I:=Stl m) (n:=(truthsD c []).length) (Arg:=ArgT (truthsD c [])) (K:=KT p m (w.heap.size+5) (w.heap.size+6) A c (.slice none 0 0) []) (by rfl) fn_truthsD (fun i xs W' h=>by obtain⟨v,h2,rfl,-⟩:=h;rfl) (inv_stl m) (fun k hk=>by omega)
    (fun i W'=>BdJ w p m F k (bdsL (((truthsD c []).take i).map (fun x:DTr×Dmg=>f x.2))) W') (fun _ _=>False) (HGV.out _ _) (fun i W' h=>HKT.out _ _ W' h.mm h.t1 h.t2)
    (fun i A' B' h hx=>h.belq hx hml (by omega)) (fun cd A' B' h hx=>h.elim) J0 ?hround ?hdone ?hstop
  case hround=>
    intro i hi W1 xs hj harg hrec1 hs
    obtain⟨v,h2,rfl,-⟩:=harg;have HD:=hHd (HDO.out i hi);have HN:=hHd (HNX.out i hi);have HCF:=hHd (fun W h=>HF.out W ((truthsD c [])[i]).2 h HD.out);clear HF HDO HNX HKT HGV;generalize ((truthsD c [])[i]).2=d at*;generalize f d=fd at*;generalize bdsL (((truthsD c []).take i).map (fun x:DTr×Dmg=>f x.2))=acc at*;generalize bdsL (((truthsD c []).take (i+1)).map (fun x:DTr×Dmg=>f x.2))=acc2 at*;obtain⟨am,s0,s1,s2⟩:=d;simp only [Dmg.v] at*;simp only [Array.zip_eq_zipWith];(gi_wp2_with fail);refine⟨Kept.ext EX,fun W2 hT hrec=> ?_⟩
    have XA:Ext W1 (W1.alloc (.cells #[.int .i64 am,.int .i64 s0,.int .i64 s1,.int .i64 s2] 139)):=EX;have BA:BelQ (fun k=>k=m) (Stl m) W0.heap.size (W1.alloc (.cells #[.int .i64 am,.int .i64 s0,.int .i64 s1,.int .i64 s2] 139)) W2:=(below_toQ (hT.below (Nat.le_refl _)) (inv_stl m) (fun k hk=>by omega)).mono (by omega);have J2:=(hj.grow XA hml).belq BA hml (by omega);have d0:W2.cell? ⟨W1.heap.size,0,none⟩=some (.int .i64 am):=hT.cell (by omega) (by simp [go_sem]);have d1:W2.cell? ⟨W1.heap.size,1,none⟩=some (.int .i64 s0):=hT.cell (by omega) (by simp [go_sem]);have d2:W2.cell? ⟨W1.heap.size,2,none⟩=some (.int .i64 s1):=hT.cell (by omega) (by simp [go_sem]);have d3:W2.cell? ⟨W1.heap.size,3,none⟩=some (.int .i64 s2):=hT.cell (by omega) (by simp [go_sem]);have b0:=J2.b0;have b1:=J2.b1;have b2:=J2.b2;have HJ2:=hHd J2;clear J2 BA XA hT hj J0;(gi_wp2_with fail);(with_reducible refine(CallsIn.inRound _ (callsIn_wide.2 (HCF.out _ HJ2.out.mm))).mono ?_);rintro e w3 ⟨rfl,hm3⟩;have J3:=HJ2.out.more hm3 hml;have i0:=J3.i0;have r0:=J3.r0;have r1:=J3.r1;have rf:=J3.rf;have ff:=J3.fi;have HJ3:=hHd J3;have HK3:Hid (Kept W0.heap.size W2 w3):=hHd (mm_kept hm3 (by omega));clear J3 hm3 b0 b1 b2 d0 d1 d2 d3;cases acc with
    | none =>
      simp only [Option.isSome_none,Option.getD_none] at i0 r0 r1;(gi_wp2_with fail);have J4:=HJ3.out.first hst.out fd fd;have HK4:Hid (Kept W0.heap.size W2 (((w3.setCell ⟨w.heap.size+3,0,none⟩ (.int .i64 fd)).setCell ⟨w.heap.size+3,1,none⟩ (.int .i64 fd)).setCell ⟨w.heap.size+4,0,none⟩ (.bool true))):=hHd (kept_set (kept_set (kept_set HK3.out (by omega) _) (by omega) _) (by omega) _);generalize (((w3.setCell ⟨w.heap.size+3,0,none⟩ (.int .i64 fd)).setCell ⟨w.heap.size+3,1,none⟩ (.int .i64 fd)).setCell ⟨w.heap.size+4,0,none⟩ (.bool true))=w4 at*;(with_reducible refine(CallsIn.inRound _ (callsIn_wide.2 (wider_dd fd fd fd w4))).mono ?_);rintro e w5 ⟨rfl,hx5⟩;have J5:=J4.grow hx5 hml;have r0:=J5.r0;have r1:=J5.r1;have rf:=J5.rf;have HJ6:=hHd (J5.range hst.out fd fd rfl);have HK6:Hid (Kept W0.heap.size W2 _):=hHd (kept_set (T:=w.heap.size+3) (i:=1) (kept_set (T:=w.heap.size+3) (i:=0) (HK4.out.trans (Ext.kept hx5 W0.heap.size)) (by omega) (.int .i64 fd)) (by omega) (.int .i64 fd));have HN2:Hid (acc2=some (fd,fd)):=hHd (by rw [HN.out];simp [stepB]);clear J4 J5 hx5;(gi_wp2_with fail);exact⟨HK6.out,by rw [HN2.out];exact HJ6.out⟩
    | some xy =>
      obtain⟨x,y⟩:=xy;simp only [Option.isSome_some,Option.getD_some] at i0 r0 r1;(gi_wp2_with fail);(with_reducible refine(CallsIn.inRound _ (callsIn_wide.2 (wider_dd x y fd w3))).mono ?_);rintro e w5 ⟨rfl,hx5⟩;have J5:=HJ3.out.grow hx5 hml;have r0:=J5.r0;have r1:=J5.r1;have rf:=J5.rf;have HJ6:=hHd (J5.range hst.out (min x fd) (max y fd) rfl);have HK6:Hid (Kept W0.heap.size W2 _):=hHd (kept_set (T:=w.heap.size+3) (i:=1) (kept_set (T:=w.heap.size+3) (i:=0) (HK3.out.trans (Ext.kept hx5 W0.heap.size)) (by omega) (.int .i64 (min x fd))) (by omega) (.int .i64 (max y fd)));clear J5 hx5;(gi_wp2_with fail);exact⟨HK6.out,by rw [HN.out];exact HJ6.out⟩
  case hdone=>
    rintro W3 hj hd;rw [List.take_length] at hj;generalize hacc:bdsL ((truthsD c []).map (fun x:DTr×Dmg=>f x.2))=acc at*;have HAC:=hHd hacc;clear hacc;have r0:=hj.r0;have r1:=hj.r1;have rf:=hj.rf;have i0:=hj.i0;have ff:=hj.fi;have HJ3:=hHd hj;clear hj J0;(go_wp2_with fail);go_region;(go_wp2_with fail);rw [setCell_same W3 _ _ r0,setCell_same W3 _ _ r1,setCell_same W3 _ _ i0];have BT:BelQ (fun k=>k=m) (Stl m) W0.heap.size W3 (W3.drew.putObj W0.heap.size (.deferred none)):=(below_toQ ((Ext.refl W3).drew) (inv_stl m) (fun k hk=>by have:=HJ3.out.mm.size;omega)).mono (by have:=lt_of_cell HJ3.out.t2;have:W0.heap.size<W3.heap.size:=(Array.getElem?_eq_some_iff.1 hd).1;omega)|>.trans (below_toQ ((Turned.put W3.drew W0.heap.size (.deferred none)).below (Nat.le_refl _)) (inv_stl m) (fun k hk=>by omega));have JE:=HJ3.out.belq BT hml (by omega);have e0:=JE.r0;have e1:=JE.r1;have e2:=JE.i0;have hl1:(loadVar 54 ⟨w.heap.size+3,0,none⟩).run Tryz.prog (W3.drew.putObj W0.heap.size (.deferred none))= .ok (.agg #[.int .i64 (acc.getD (0,0)).1,.int .i64 (acc.getD (0,0)).2]) (W3.drew.putObj W0.heap.size (.deferred none)):=by simp [go_sem,e0,e1]
    have hl2:(loadVar 4 ⟨w.heap.size+4,0,none⟩).run Tryz.prog (W3.drew.putObj W0.heap.size (.deferred none))= .ok (.bool acc.isSome) (W3.drew.putObj W0.heap.size (.deferred none)):=by simp [go_sem,e2]
    refine⟨by simp,.inl ⟨_,_,rfl,run_takeDeferred (w:=W3.drew) hd,?_⟩⟩
    exact⟨_,results_load_cc rfl _ _ _ _ _ _ rfl hl1 rfl hl2,by rw [HAC.out],JE.mm⟩
  case hstop=>exact fun cd W3 h=>h.elim
end Go.Proofs.YtegkdnfeceomdaaGreat
