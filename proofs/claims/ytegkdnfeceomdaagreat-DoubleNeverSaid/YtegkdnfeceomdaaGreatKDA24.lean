/- Bundled: what the texts QA QB SY JD QC say one after another. -/
import Derived.Test.YtegkdnfeceomdaaGreatKDA23
import Derived.Deep.RegionHeld3
import Derived.Test.YtegkdnfeceomdaaGreatKDA4
import Derived.Test.YtegkdnfeceomdaaGreatKDA1
set_option maxRecDepth 100000
set_option maxHeartbeats 16000000
set_option linter.unusedSimpArgs false
set_option linter.unusedVariables false
namespace Go.Hs
open Go.RowKit
structure V5 where
 c0:Value
 c1:Value
 c2:Value
 c3:Value
 c4:Value
abbrev V5.val (x:V5):Value:= .agg #[x.c0,x.c1,x.c2,x.c3,x.c4]
def Cell5 (w:World) (b o:Nat) (x:V5):Prop:=
 w.cell? ⟨b,o,none⟩=some x.c0∧w.cell? ⟨b,o+1,none⟩=some x.c1∧w.cell? ⟨b,o+2,none⟩=some x.c2∧w.cell? ⟨b,o+3,none⟩=some x.c3∧w.cell? ⟨b,o+4,none⟩=some x.c4
theorem Cell5.ext {w w':World} (h:Ext w w') (b o:Nat) (x:V5) (k:Cell5 w b o x):Cell5 w' b o x:=
 ⟨h.keep k.1,h.keep k.2.1,h.keep k.2.2.1,h.keep k.2.2.2.1,h.keep k.2.2.2.2⟩
def Cells5 (w:World) (a:Option Addr) (us:List V5):Prop:=∀(i:Nat) (h:i<us.length),∃b off,a=some ⟨b,off,none⟩∧Cell5 w b (off+i*5) us[i]
theorem Cells5.ext {w w':World} {a:Option Addr} {us:List V5} (h:Ext w w') (k:Cells5 w a us):Cells5 w' a us:=fun i hi=>let ⟨b,o,he,hc⟩:=k i hi;⟨b,o,he,hc.ext h⟩
abbrev Knd:=Nat→Bool
def kndC (k:Knd):V5:=⟨.bool (k 0),.bool (k 1),.bool (k 2),.bool (k 3),.bool (k 4)⟩
def okK (n:Nat) (out:List Int) (k:Knd):Bool:=(everyI n).all (fun i=>k i.toNat||decide (i∈out))
end Go.Hs
namespace Go.Proofs.YtegkdnfeceomdaaGreat
open Go.RowKit Go.Hs
attribute [local irreducible] World.setCell World.alloc
theorem fn_leave111:FnOK 104:=fun args w=>by simp [go_sem]
theorem idx_knd (cap1 cap2:Value) (a:Option Addr) (c:Nat) (us:List V5) (p:Nat→Bool) (I:Nat→World→Prop) (w:World)
  (hlen:us.length≤140737488351232)
  (hrow:∀i w,I i w→Cells5 w a us)
  (hcall:∀i (h:i<us.length) w1,I i w1→Calls Tryz.prog 103 #[us[i].val,cap1,cap2] w1 fun e w2=>e= .returned (.bool (p i))∧I (i+1) w2)
  (h0:I 0 w):
  Calls Tryz.prog 149 #[.slice a us.length c,.func (.func 103) #[] #[cap1,cap2]] w
   (IdxPost us.length p I):=by
 go_enter Tryz.func149,Tryz.ntmps149
 go_wp2
 go_loopw [4,5,8] (fun r j i wr=>∃k:Nat,k≤us.length∧i= .int .i64 k∧(∀m,m<k→p m=false)∧I k wr) (fun _ _ i _=>us.length - (intOf i).toNat)
 case atStart=>exact⟨0,Nat.zero_le _,rfl,fun m hm=>absurd hm (Nat.not_lt_zero _),h0⟩
 case round=>
  obtain⟨k,hk,rfl,hp,hI⟩:=hrel;by_cases hlt:k<us.length
  ·obtain ⟨b, off, rfl, g0, g1, g2, g3, g4⟩ := hrow k wr hI k hlt; have hc0 := hcall k hlt wr hI; cases hpk : p k
   ·rw [hpk] at hc0; clear hcall hrow; have HP := hHd hpk; clear hpk; go_wp2_with ((with_reducible refine hc0.mono ?_); rintro e w2 ⟨rfl, hI2⟩)
    go_roundw
    case rel=>exact⟨k+1,by omega,by go_num,fun m hm=>by
     by_cases e:m=k
     ·subst e;exact HP.out
     ·exact hp m (by omega),hI2⟩
    case measure=>simp [intOf];omega
   ·rw [hpk] at hc0; clear hcall hrow; have HP := hHd hpk; clear hpk; have HP0 := hHd hp; clear hp; go_wp2_with ((with_reducible refine hc0.mono ?_); rintro e w2 ⟨rfl, hI2⟩)
    go_ret;exact .inl ⟨k,hlt,HP.out,HP0.out,rfl,hI2⟩
  ·have hk' : k = us.length := by omega
   subst hk';have HP0:=hHd hp;clear hp;clear hcall hrow;go_wp2
   go_ret;exact .inr ⟨HP0.out,rfl,hI⟩
theorem cont_knd (cap1 cap2:Value) (a:Option Addr) (c:Nat) (us:List V5) (p:Nat→Bool) (I:Nat→World→Prop) (w:World)
  (hlen:us.length≤140737488351232)
  (hrow:∀i w,I i w→Cells5 w a us)
  (hcall:∀i (h:i<us.length) w1,I i w1→Calls Tryz.prog 103 #[us[i].val,cap1,cap2] w1 fun e w2=>e= .returned (.bool (p i))∧I (i+1) w2)
  (h0:I 0 w):
  Calls Tryz.prog 102 #[.slice a us.length c,.func (.func 103) #[] #[cap1,cap2]] w
   (ContPost us.length p I):=by
 have hi:=idx_knd cap1 cap2 a c us p I w hlen hrow hcall h0;clear hrow hcall h0;go_enter Tryz.func102,Tryz.ntmps102
 go_wp2_with ((with_reducible refine hi.mono ?_);rintro e w2 (⟨i,hi1,hi2,hi3,rfl,hi5⟩|⟨hi3,rfl,hi5⟩))
 ·have H2 := hHd hi2; clear hi2; have H3 := hHd hi3; clear hi3; go_wp2
  go_ret;exact ContPost.yes hi1 H2.out (by simp) hi5
 ·have H3 := hHd hi3; clear hi3; go_wp2
  go_ret;exact ContPost.no H3.out (by simp) hi5
theorem leave111_d (bk bo:Nat) (k:Knd) (out:List Int) (vout:Value) (i:Nat) (w:World) (hk:∀j,j<5→w.cell? ⟨bk,j,none⟩=some (.bool (k j))) (ho:w.cell? ⟨bo,0,none⟩=some vout) (hv:IntsV w vout out) (hi:i<5):
    Calls Tryz.prog 104 #[.int .i64 i,.pointer (some ⟨bk,0,none⟩),.pointer (some ⟨bo,0,none⟩)] w fun e w'=>e= .returned (.bool (k i||decide ((i:Int)∈out)))∧Ext w w':=by
  have HC:=hHd (fun W (hx:Ext w W)=>contains_p vout out (i:Int) W (hv.ext hx));have hki:=hk i hi;have hk0:(0:Int)≤(i:Int):=by omega
  have hk1:(i:Int)<5:=by omega
  obtain⟨a,q,rfl,-⟩:=hv;clear hk;generalize decide ((i:Int)∈out)=r at*;generalize k i=b at*;cases b with
  | true =>
    go_enter Tryz.func104,Tryz.ntmps104
    (go_wp2_with fail);go_ret;exact⟨rfl,Ext.refl _⟩
  | false =>
    go_enter Tryz.func104,Tryz.ntmps104
    (go_wp2_with fail);(with_reducible refine(HC.out _ EX).mono ?_);rintro e w1 ⟨rfl,hx⟩;(go_wp2_with fail);go_ret;exact⟨rfl,hx⟩
theorem leave11_d (be bo n:Nat) (k:Knd) (out:List Int) (vev vout:Value) (w:World) (he:w.cell? ⟨be,0,none⟩=some vev) (hev:IntsV w vev (everyI n)) (ho:w.cell? ⟨bo,0,none⟩=some vout) (hv:IntsV w vout out) (hn:n≤5):
  Calls Tryz.prog 103 #[(kndC k).val,.pointer (some ⟨be,0,none⟩),.pointer (some ⟨bo,0,none⟩)] w fun e w'=>e= .returned (.bool (okK n out k))∧Ext w w':=by
 have HAL:Hid (∀W bk,Ext w W→(∀j,j<5→W.cell? ⟨bk,j,none⟩=some (.bool (k j)))→Calls Tryz.prog 63 #[vev,.func (.func 104) #[] #[.pointer (some ⟨bk,0,none⟩),.pointer (some ⟨bo,0,none⟩)]] W fun e w'=>e= .returned (.bool (okK n out k))∧Ext W w'):=hHd (fun W bk hx hk=>by
  obtain⟨a,q,rfl,h1,h2,hr⟩:=hev.ext hx;have hc:Cells1 W a ((everyI n).map (.int .i64)):=ints_cells hr
  have h:=allx_dint 104 fn_leave111 #[] #[.pointer (some ⟨bk,0,none⟩),.pointer (some ⟨bo,0,none⟩)] a q ((everyI n).map (.int .i64)) (fun i=>(fun i:Int=>k i.toNat||decide (i∈out)) ((everyI n).getD i default)) W (by rw [List.length_map,everyI_len];omega) hc
   (fun i hi w1 hx1 => by
    have hi':i<n:=by simpa [everyI_len] using hi
    have e2:(everyI n)[i]'(by rw [everyI_len];exact hi')=(i:Int):=by simp [everyI]
    have e1:((everyI n).map (Value.int .i64))[i]= .int .i64 (i:Int):=by simp [everyI]
    have e3:(everyI n).getD i default=(i:Int):=by
     rw [List.getD_eq_getElem?_getD,List.getElem?_eq_getElem (by rw [everyI_len];exact hi')];exact e2
    rw [e1];refine(leave111_d bk bo k out vout i w1 (fun j hj=>hx1.keep (hk j hj)) (hx1.keep (hx.keep ho)) (hv.ext (hx.trans hx1)) (by omega)).mono ?_
    rintro e w2 ⟨rfl,h2⟩;exact⟨ret_bool (by simp only [e3];simp),h2⟩)
  rw [List.length_map,all_list (everyI n) (fun i:Int=>k i.toNat||decide (i∈out))] at h;exact h)
 obtain⟨ae,qe,rfl,-⟩:=hev;obtain⟨ao,qo,rfl,-⟩:=hv;have n1:be<w.heap.size:=lt_of_cell he;have n2:bo<w.heap.size:=lt_of_cell ho;have n1':¬be=w.heap.size:=by omega
 clear ho;generalize okK n out k=r at*;unfold kndC V5.val
 have HK:Hid (∀W,Ext (w.alloc (.cells #[.bool (k 0),.bool (k 1),.bool (k 2),.bool (k 3),.bool (k 4)] 177)) W→∀j,j<5→W.cell? ⟨w.heap.size,j,none⟩=some (.bool (k j))):=hHd (fun W hx j hj=>by
  rcases j with _|_|_|_|_|j
  ·exact hx.keep (by simp [go_sem])
  ·exact hx.keep (by simp [go_sem])
  ·exact hx.keep (by simp [go_sem])
  ·exact hx.keep (by simp [go_sem])
  ·exact hx.keep (by simp [go_sem])
  ·omega)
 generalize k 0=k0 at*;generalize k 1=k1 at*;generalize k 2=k2 at*;generalize k 3=k3 at*;generalize k 4=k4 at*;go_enter Tryz.func103,Tryz.ntmps103
 (go_wp2_with fail);(with_reducible refine(HAL.out _ w.heap.size EX (HK.out _ EX)).mono ?_);rintro e w1 ⟨rfl,hx⟩;have X1:Ext w w1:=EX;(go_wp2_with fail);go_ret;exact⟨rfl,X1⟩
end Go.Proofs.YtegkdnfeceomdaaGreat
namespace Go.Hs
open Go.RowKit
def scanN {α : Type} (f : Nat → Option α) : Nat → Nat → Option α
  |0,_=>none
  | n + 1, i => match f i with
    |some x=>some x
    |none=>scanN f n (i+1)
theorem scanN_yes {α:Type} {f:Nat→Option α} {n i:Nat} {x:α} (h:f i=some x):scanN f (n+1) i=some x:=by rw [scanN,h]
theorem scanN_no {α:Type} {f:Nat→Option α} {n i:Nat} (h:f i=none):scanN f (n+1) i=scanN f n (i+1):=by rw [scanN,h]
theorem anyB_list {α:Type} (l:List α) (d:α) (p:α→Bool):anyB l.length (fun i=>p (l.getD i d))=l.any p:=by
 rw [Bool.eq_iff_iff,anyB_iff,List.any_eq_true];constructor
 ·rintro ⟨i, hi, h⟩; have e : l.getD i d = l[i] := by simp [hi]
  rw [e] at h;exact⟨l[i],List.getElem_mem hi,h⟩
 ·rintro ⟨x,hx,h⟩;obtain⟨i,hi,rfl⟩:=List.getElem_of_mem hx;exact⟨i,hi,by rw [show l.getD i d=l[i] by simp [hi]];exact h⟩
def intsN (xs:List Nat):List Int:=xs.map (fun x:Nat=>(x:Int))
def strikeS (n:Nat) (ok:List Nat→Bool):Nat→List Nat→Nat→Option (List Nat)
 |0,out,_=>if ok out then some out else none
 |m+1,out,start=>scanN (fun i=>strikeS n ok m (out++ [i]) (i+1)) (n - m - start) start
theorem ints_kp {q:Nat→Prop} {w w':World} {v:Value} {xs:List Int} (h:IntsV w v xs) (k:KP q w w') (hn:∀b,v.ownBlock=some b→¬q b):IntsV w' v xs:=by
 obtain⟨a,c,rfl,h1,h2,h3⟩:=h;refine⟨a,c,rfl,h1,h2,fun i hi=> ?_⟩
 obtain⟨b,o,rfl,hc,hc2⟩:=h3 i hi;exact⟨b,o,rfl,k.keep (hn b rfl) hc,hc2⟩
structure StSt (F:FuncId) (wb:World) (B K E C:Nat) (W:World):Prop where
 ext:Ext wb W
 fc:∃v,W.cell? ⟨B,0,none⟩=some v
 ff:W.frozen? ⟨B,0,none⟩=false
 tc:W.cell? ⟨B+1,0,none⟩=some (.func (.func F) #[] #[.pointer (some ⟨B,0,none⟩),.pointer (some ⟨K,0,none⟩),.pointer (some ⟨E,0,none⟩),.pointer (some ⟨C,0,none⟩),.pointer (some ⟨B+1,0,none⟩)])
 o0:wb.heap.size≤B
section
variable {F:FuncId} {wb W W':World} {B K E C:Nat}
theorem StSt.lt (h:StSt F wb B K E C W):B+1<W.heap.size:=lt_of_cell h.tc
theorem StSt.grow (h:StSt F wb B K E C W) (hx:Ext W W'):StSt F wb B K E C W':=by
 obtain⟨v,hv⟩:=h.fc;exact⟨h.ext.trans hx,⟨v,hx.keep hv⟩,(hx.frozen (lt_of_cell hv)).trans h.ff,hx.keep h.tc,h.o0⟩
theorem StSt.set (h:StSt F wb B K E C W) (v:Value):StSt F wb B K E C (W.setCell ⟨B,0,none⟩ v):=by
 obtain⟨u,hu⟩:=h.fc;have n1:B+1≠B:=by omega
 exact⟨h.ext.setCell h.o0 _,⟨v,World.cell?_setCell_same _ _ _ hu⟩,by rw [World.frozen?_setCell];exact h.ff,cell_ne (.inl n1) h.tc,h.o0⟩
end
structure StP (F:FuncId) (wb:World) (B K E C:Nat) (want:Option (List Nat)) (W:World) (b:Bool) (w':World):Prop where
 kp:KP (fun j=>j=B) W w'
 yes:b=true→∃x vx,want=some x∧w'.cell? ⟨B,0,none⟩=some vx∧IntsV w' vx (intsN x)
 no:b=false→want=none
 st:StSt F wb B K E C w'
def StQ (F:FuncId) (wb:World) (B K E C:Nat) (want:Option (List Nat)) (W:World) (e:Ending) (w':World):Prop:=∃b,e= .returned (.bool b)∧StP F wb B K E C want W b w'
def StM (F:FuncId) (wb:World) (B K E C:Nat) (want:Option (List Nat)) (W:World) (s:Value) (w':World):Prop:=∃b,s= .bool b∧StP F wb B K E C want W b w'
structure StB (wb:World) (K E C n:Nat) (kn:List Knd) (ak:Option Addr) (ck:Nat) (vev:Value) (a4:Option Addr) (c4:Nat):Prop where
 kc:wb.cell? ⟨K,0,none⟩=some (.slice ak kn.length ck)
 kk:Cells5 wb ak (kn.map kndC)
 kl:kn.length≤3000
 ec:wb.cell? ⟨E,0,none⟩=some vev
 ev:IntsV wb vev (everyI n)
 cc:wb.cell? ⟨C,10,none⟩=some (.slice a4 n c4)
 n5:n≤5
end Go.Hs
namespace Go.Proofs.YtegkdnfeceomdaaGreat
open Go.RowKit Go.Hs
attribute [local irreducible] World.setCell World.alloc
theorem strike_zero (wb : World) (B K E C n : Nat) (kn : List Knd) (ak : Option Addr) (ck : Nat) (vev : Value) (a4 : Option Addr) (c4 : Nat) (hB : StB wb K E C n kn ak ck vev a4 c4) (start : Int) (out : List Nat) (vo : Value) (W : World)
    (hs:StSt 101 wb B K E C W) (ho:IntsV W vo (intsN out)) (hn:∀b,vo.ownBlock=some b→b≠B):
    Calls Tryz.prog 101 #[vo,.int .i64 start,.int .i64 0,.pointer (some ⟨B,0,none⟩),.pointer (some ⟨K,0,none⟩),.pointer (some ⟨E,0,none⟩),.pointer (some ⟨C,0,none⟩),.pointer (some ⟨B+1,0,none⟩)] W
      (StQ 101 wb B K E C (if kn.any (okK n (intsN out)) then some out else none) W):=by
  have HK:Hid (∀V,Ext wb V→V.cell? ⟨K,0,none⟩=some (.slice ak kn.length ck)):=hHd (fun V hx=>hx.keep hB.kc)
  have HCO:Hid (∀V,Ext wb V→V.cell? ⟨W.heap.size,0,none⟩=some vo→IntsV V vo (intsN out)→Calls Tryz.prog 102 #[.slice ak kn.length ck,.func (.func 103) #[] #[.pointer (some ⟨E,0,none⟩),.pointer (some ⟨W.heap.size,0,none⟩)]] V fun e w'=>e= .returned (.bool (kn.any (okK n (intsN out))))∧Ext V w'):=hHd (fun V hx h8 hv=>by
    have h:=cont_knd (.pointer (some ⟨E,0,none⟩)) (.pointer (some ⟨W.heap.size,0,none⟩)) ak ck (kn.map kndC) (fun i=>okK n (intsN out) (kn.getD i (fun _=>false))) (fun _ w'=>Ext V w') V (by rw [List.length_map];have:=hB.kl;omega)
      (fun _ _ hy=>(hB.kk.ext hx).ext hy)
      (fun i hi w1 hy=>by
        have hi':i<kn.length:=by simpa using hi
        have e1:(kn.map kndC)[i]=kndC kn[i]:=by simp
        have e2:kn.getD i (fun _=>false)=kn[i]:=by simp [hi']
        rw [e1,e2];refine(leave11_d E W.heap.size n kn[i] (intsN out) vev vo w1 (hy.keep (hx.keep hB.ec)) (hB.ev.ext (hx.trans hy)) (hy.keep h8) (hv.ext hy) hB.n5).mono ?_
        rintro e w2 ⟨rfl,h2⟩;exact⟨rfl,hy.trans h2⟩) (Ext.refl V)
    rw [List.length_map] at h;refine h.mono ?_
    rintro e w' ⟨i,-,hi,rfl⟩;exact⟨by rw [anyB_list kn (fun _=>false) (okK n (intsN out))],hi⟩)
  have hln:=hs.lt;have HO:=hHd ho;have HST:=hHd hs;obtain⟨vf,fc⟩:=hs.fc;have ff:=hs.ff;obtain⟨ao,co,rfl,-⟩:=ho;have hne:¬B=W.heap.size:=by omega
  have hne':¬W.heap.size=B:=by omega
  have hw1:¬wb.heap.size=0∨True:= .inr trivial
  have HX:Hid (∀V,V=(W.alloc (.cells #[.slice ao (intsN out).length co] 22)).setCell ⟨B,0,none⟩ (.slice ao (intsN out).length co)→StSt 101 wb B K E C V∧V.cell? ⟨B,0,none⟩=some (.slice ao (intsN out).length co)∧V.cell? ⟨W.heap.size,0,none⟩=some (.slice ao (intsN out).length co)∧IntsV V (.slice ao (intsN out).length co) (intsN out)∧KP (fun j=>j=B) W V):=hHd (fun V hV=>by
    subst hV;have Y:Ext W (W.alloc (.cells #[.slice ao (intsN out).length co] 22)):=EX;have hk:KP (fun j=>j=B) W ((W.alloc (.cells #[.slice ao (intsN out).length co] 22)).setCell ⟨B,0,none⟩ (.slice ao (intsN out).length co)):=KP.setCell (p:=fun j=>j=B) (Ext.kp Y) rfl _;exact⟨(HST.out.grow Y).set _,World.cell?_setCell_same _ _ _ (Y.keep fc),cell_ne (.inl hne') (by simp [go_sem]),ints_kp HO.out hk (fun b hb=>hn b hb),hk⟩)
  have fca:=fun o=>((Ext.refl W).alloc o).keep fc
  have ffa:=fun o=>(((Ext.refl W).alloc o).frozen (lt_of_cell fc)).trans ff
  clear hs hw1;generalize hlo:(intsN out).length=lo at*;have HLO:=hHd hlo;clear hlo;have HWY:Hid (kn.any (okK n (intsN out))=true→(if kn.any (okK n (intsN out)) then some out else none)=some out):=hHd (fun h=>if_pos h);have HWN:Hid (kn.any (okK n (intsN out))=false→(if kn.any (okK n (intsN out)) then some out else none)=none):=hHd (fun h=>if_neg (by simp [h]));generalize (if kn.any (okK n (intsN out)) then some out else none)=want at*;generalize kn.any (okK n (intsN out))=r at*;go_enter Tryz.func101,Tryz.ntmps101
  go_upto_region 3 with fail
  obtain⟨s1,s2,s3,s4,s5⟩:=HX.out _ rfl;generalize (W.alloc (.cells #[.slice ao lo co] 22)).setCell ⟨B,0,none⟩ (.slice ao lo co)=V at*;have kcell:=HK.out V s1.ext;have HS1:=hHd (And.intro s1 (And.intro s2 (And.intro s4 s5)));have HC2:=hHd (HCO.out V s1.ext s3 s4);clear s1 s2 s3 s4 s5 HX HCO;(go_wp2_with fail);(with_reducible refine HC2.out.mono ?_);rintro e w9 ⟨rfl,hx9⟩;obtain⟨s1,s2,s4,s5⟩:=HS1.out;have HE:=hHd (And.intro (s1.grow hx9) (And.intro (hx9.keep s2) (And.intro (s4.ext hx9) (s5.ext hx9))));clear s1 s2 s4 s5 HS1 hx9;cases r with
  | true =>
    (go_wp2_with fail);go_ret;exact⟨true,rfl,HE.out.2.2.2,fun _=>⟨out,_,HWY.out (by simp),HE.out.2.1,HE.out.2.2.1⟩,fun h=>(by cases h),HE.out.1⟩
  | false =>
    (go_wp2_with fail);go_ret;exact⟨false,rfl,HE.out.2.2.2,fun h=>(by cases h),fun _=>HWN.out (by simp),HE.out.1⟩
def StC (wb:World) (B K E C n:Nat) (kn:List Knd) (m:Nat):Prop:=∀(fI mI:Int) (start:Nat) (out:List Nat) (vo:Value) (W:World),fI=start→mI=m→
  StSt 101 wb B K E C W→IntsV W vo (intsN out)→(∀b,vo.ownBlock=some b→b≠B)→(∀x,x∈out→x<5)→out.length+m≤5→start≤5→
  Calls Tryz.prog 101 #[vo,.int .i64 fI,.int .i64 mI,.pointer (some ⟨B,0,none⟩),.pointer (some ⟨K,0,none⟩),.pointer (some ⟨E,0,none⟩),.pointer (some ⟨C,0,none⟩),.pointer (some ⟨B+1,0,none⟩)] W
   (StQ 101 wb B K E C (strikeS n (fun o=>kn.any (okK n (intsN o))) m out start) W)
theorem strike_succ (wb : World) (B K E C n : Nat) (kn : List Knd) (ak : Option Addr) (ck : Nat) (vev : Value) (a4 : Option Addr) (c4 : Nat) (hB : StB wb K E C n kn ak ck vev a4 c4) (m : Nat) (ih : StC wb B K E C n kn m) : StC wb B K E C n kn (m + 1) := by
  intro fI mI start out vo W hfI hmI hs ho hn hx5 hlm hst
  obtain⟨ok,hok⟩:∃ok,ok=fun o=>kn.any (okK n (intsN o)):=⟨_,rfl⟩
  unfold StC at ih;rw [←hok] at ih⊢
  have HIH:Hid (∀(fI mI:Int) (i:Nat) (vo':Value) (W':World),fI=(i:Int)+1→mI=m→i<n→StSt 101 wb B K E C W'→IntsV W' vo' (intsN (out++ [i]))→(∀b,vo'.ownBlock=some b→b≠B)→
      Calls Tryz.prog 101 #[vo',.int .i64 fI,.int .i64 mI,.pointer (some ⟨B,0,none⟩),.pointer (some ⟨K,0,none⟩),.pointer (some ⟨E,0,none⟩),.pointer (some ⟨C,0,none⟩),.pointer (some ⟨B+1,0,none⟩)] W' (StQ 101 wb B K E C (strikeS n ok m (out++ [i]) (i+1)) W')):=
    hHd (fun fI mI i vo' W' h1 h2 h3 h4 h5 h6 => ih fI mI (i + 1) (out ++ [i]) vo' W' (by omega) h2 h4 h5 h6 (fun x hx => by
      rcases List.mem_append.1 hx with h|h
      · exact hx5 x h
      · have : x = i := by simpa using h
        have:=hB.n5;omega) (by simp;omega) (by have:=hB.n5;omega))
  have HSC:Hid (strikeS n ok (m+1) out start=scanN (fun i=>strikeS n ok m (out++ [i]) (i+1)) (n - m - start) start):=hHd rfl;have HCC:Hid (∀V,Ext wb V→V.cell? ⟨C,10,none⟩=some (.slice a4 n c4)):=hHd (fun V hx=>hx.keep hB.cc);have hn5:=hB.n5;have HO:=hHd ho;have HST:=hHd hs;have hBl:=hs.lt;obtain⟨ao,co,rfl,hlo,hlo2,-⟩:=ho;have hlen:(intsN out).length=out.length:=by simp [intsN]
  rw [hlen] at HO hlo hlo2 hn⊢;obtain⟨i0,hi0,hz0,hz1,hz2⟩:=info_parts info_int;generalize hwa:strikeS n ok (m+1) out start=want at*;have hm0:¬mI=0:=by omega
  have hmb:(mI==0)=false:=by rw [beq_eq_false_iff_ne];exact hm0
  have hw1:IntKind.i64.wrap ((n:Int) - mI)=(n:Int) - mI:=IntWalk.i64_in _ (by omega);have hw2:IntKind.i64.wrap (mI - 1)=mI - 1:=IntWalk.i64_in _ (by omega);have hol:out.length≤5:=by omega
  have HM0:=hHd hmI;have HFI0:=hHd hfI;have HNB:=hHd hn;have hneB:¬W.heap.size=B:=by omega
  have h8:(W.alloc (.cells #[.slice ao out.length co] 22)).cell? ⟨W.heap.size,0,none⟩=some (.slice ao out.length co):=by simp [go_sem]
  have XW:Ext W (W.alloc (.cells #[.slice ao out.length co] 22)):=EX;clear hs ih hwa hlen hmI hfI hn;go_enter Tryz.func101,Tryz.ntmps101
  (go_wp2_with fail);have HST1:=hHd (HST.out.grow XW);have hz8:W.heap.size<(W.alloc (.cells #[.slice ao out.length co] 22)).heap.size:=by simp
  have HKW:Hid (KP (fun j=>j=B) W (W.alloc (.cells #[.slice ao out.length co] 22))):=hHd (Ext.kp XW);generalize (W.alloc (.cells #[.slice ao out.length co] 22))=W8 at*;go_loopw [12] (fun s12 wr=>∃i:Nat,i≤5∧s12= .int .i64 i∧Hid (StSt 101 wb B K E C wr)∧KP (fun j=>j=B) W8 wr∧Hid (want=scanN (fun i=>strikeS n ok m (out++ [i]) (i+1)) (n - m - i) i)) (fun s _=>10 - (intOf s).toNat)
  case atStart=>exact⟨start,hst,by rw [HFI0.out],HST1,KP.refl _,HSC⟩
  case round=>
    obtain⟨i,hi5,rfl,HS,hg,HSI⟩:=hrel;obtain⟨wo,rfl⟩:∃x,x=wr:=⟨_,rfl⟩;have cc:=HCC.out wo HS.out.ext;have tc:=HS.out.tc;have o8:=hg.keep hneB h8;by_cases hlt:i+m<n
    · have hd : decide ((i : Int) ≤ (n : Int) - mI) = true := decide_eq_true (by have := HM0.out; omega); have hw3 : IntKind.i64.wrap ((i : Int) + 1) = (i : Int) + 1 := IntWalk.i64_in _ (by omega); have hBo : B + 1 < wo.heap.size := HS.out.lt; have HV := hHd (ints_kp (ints_kp HO.out HKW.out (fun b hb => HNB.out b hb)) hg (fun b hb => HNB.out b hb))
      have HCLN:Hid (∀W',Ext wo W'→Calls Tryz.prog 66 #[.slice ao out.length co] W' fun e w'=>∃v',e= .returned v'∧w'.ownsRow wo.heap.size 3 1 v' out.length ((intsN out).map (.int .i64))∧Ext W' w'):=hHd (fun W' hx=>(clone_x _ (intsN out) W' (HV.out.ext hx) (by simp [intsN];omega)).mono (fun e w' ⟨v',g1,g2,g3⟩=>⟨v',g1,by
        have:=ownRow_down g2 hx.size;simpa [intsN] using this,g3⟩))
      have e2:n - m - i=(n - m - (i+1))+1:=by omega
      have HYES:Hid (∀x,strikeS n ok m (out++ [i]) (i+1)=some x→want=some x):=hHd (fun x h=>by rw [HSI.out,e2];exact scanN_yes h);have HNO:Hid (strikeS n ok m (out++ [i]) (i+1)=none→want=scanN (fun i=>strikeS n ok m (out++ [i]) (i+1)) (n - m - (i+1)) (i+1)):=hHd (fun h=>by rw [HSI.out,e2];exact scanN_no h);have HUS:Hid ((intsN out).map (Value.int .i64)++ [Value.int .i64 (i:Int)]=(intsN (out++ [i])).map (Value.int .i64)):=hHd (by simp [intsN]);have HUN:Hid (out.length+1=(intsN (out++ [i])).length):=hHd (by simp [intsN])
      have HU5:Hid (∀x∈intsN (out++ [i]),i64ok x):=hHd (fun x hx=>by
        obtain⟨y,hy,rfl⟩:=List.mem_map.1 hx;rcases List.mem_append.1 hy with h|h
        · have:=hx5 y h;unfold i64ok;omega
        · have : y = i := by simpa using h
          unfold i64ok;omega)
      have HUL:Hid ((intsN (out++ [i])).length≤1000):=hHd (by simp [intsN];omega)
      have HONE:Hid (∀u∈([.int .i64 (i:Int)]:List Value),u.oneCell'=true):=hHd (by
        intro u hu
        simp only [List.mem_cons,List.not_mem_nil,or_false] at hu;rw [hu];rfl)
      have HF1:Hid (out.length+1≤maxLen):=hHd (by simp only [maxLen];omega);have HF2:Hid ((out.length+1)*8≤140737488355328):=hHd (by omega);have HIL:Hid (i<n):=hHd (by omega);have HSS:Hid (∀w',KP (fun j=>j=B) wo w'→(w'.cell? ⟨B+1,0,none⟩=some (.func (.func 101) #[] #[.pointer (some ⟨B,0,none⟩),.pointer (some ⟨K,0,none⟩),.pointer (some ⟨E,0,none⟩),.pointer (some ⟨C,0,none⟩),.pointer (some ⟨B+1,0,none⟩)])∧w'.cell? ⟨W.heap.size,0,none⟩=some (.slice ao out.length co))∧KP (fun j=>j=B) wo w'):=hHd (fun w' hx=>⟨⟨hx.keep (by omega) tc,hx.keep hneB o8⟩,hx⟩);have HMI:Hid (mI - 1=(m:Int)):=hHd (by have:=HM0.out;omega);have HST2:=HS;clear e2 HSI HSC HS;generalize hn':out.length=lo at*;go_upto_region 7 with fail
      go_cut [39] from 29 to 39 (fun s39 wx=>StM 101 wb B K E C (strikeS n ok m (out++ [i]) (i+1)) wo s39 wx)
      case first=>
        go_region_held3 (fun w'=>(w'.cell? ⟨B+1,0,none⟩=some (.func (.func 101) #[] #[.pointer (some ⟨B,0,none⟩),.pointer (some ⟨K,0,none⟩),.pointer (some ⟨E,0,none⟩),.pointer (some ⟨C,0,none⟩),.pointer (some ⟨B+1,0,none⟩)])∧w'.cell? ⟨W.heap.size,0,none⟩=some (.slice ao lo co))∧KP (fun j=>j=B) wo w')
          ((refine HSS.out _ ?_;(repeat (first|exact KP.refl _|with_reducible (first|assumption|refine KP.drew ?_|refine KP.alloc ?_ _|refine KP.setCell ?_ (fail) _|refine KP.ext ?_ (by assumption)|refine KP.trans ?_ (by assumption)|refine Ext.kp (by assumption))))))
          (first
            |(go_at_call 66;(refine(HCLN.out _ EX).mono ?_);rintro e w3 ⟨v3,rfl,hown3,hx3⟩)
            |(go_at_call 101;(refine(HIH.out _ _ i _ _ rfl HMI.out HIL.out (HST2.out.grow (hx4.trans EX)) (hv4.ext EX) hnb4).mono ?_);rintro e w5 ⟨b5,rfl,hp5⟩;have hg5:=hp5.kp;have HP5:=hHd hp5)
            |((refine step_is_app' _ _ 22 rfl ?_);(refine step_append_lies _ (by rfl) _ _ 22 (by rfl) wo.heap.size 3 i0 (.int .i64 0) 1 8 Tryz.underlying22 hi0 hz0 hz1 hz2 rfl (by decide) v3 lo ((intsN out).map (.int .i64)) (by rfl) (own_keep hown3 (fun g hg=>Ext.heap EX (own_lt hown3 hg).2)) ⟨_,0,none⟩ 1 1 [.int .i64 (i:Int)] (by rfl) rfl (one_inN EX (by first|rfl|simp)) HONE.out (by decide) HF1.out HF2.out (Ext.size EX) _ rfl ?_);intro g cap w4 hown4 hgrow hat hlt4;have hx4:Ext wo w4:=grown_ext EX hgrow (fun g hg=>(own_lt hown3 hg).1);have hv4:=own_intsV hown4 HUS.out HUN.out HU5.out HUL.out;have hnb4:∀b,(Value.slice (some ⟨g,0,none⟩) (lo+1) cap).ownBlock=some b→b≠B:=(fun b hb=>(fun e=>absurd (own_lt hown4 hb).1 (Nat.not_le_of_lt (by rw [e];omega))))))
        all_goals
          (go_wp2_with fail);go_meet
          exact⟨_,rfl,⟨KP.trans (Ext.kp hx4) hg5,HP5.out.yes,HP5.out.no,HP5.out.st⟩⟩
      case rest=>
        obtain⟨b,rfl,hp⟩:=hcut;have HP:=hHd hp;have hgx:=hg.trans hp.kp;have HKE:=hHd (HKW.out.trans hgx);clear hp;obtain⟨wd,rfl⟩:∃x,x=wc:=⟨_,rfl⟩;cases b with
        | true =>
          obtain⟨x,vx,hx1,hx2,hx3⟩:=HP.out.yes rfl;have HF:=hHd (And.intro (HYES.out x hx1) (And.intro hx2 hx3));clear hx1 hx2 hx3;(go_wp2_with fail);go_ret;exact⟨true,rfl,⟨HKE.out,fun _=>⟨x,vx,HF.out.1,HF.out.2.1,HF.out.2.2⟩,fun h=>(by cases h),HP.out.st⟩⟩
        | false =>
          have HN1:=hHd (HNO.out (HP.out.no rfl));have HS2:=hHd HP.out.st;(go_wp2_with fail);go_roundw
          case rel=>exact⟨i+1,by omega,by go_num,HS2,hgx,HN1⟩
          case measure=>simp [intOf];omega
    · have hd:decide ((i:Int)≤(n:Int) - mI)=false:=decide_eq_false (by have:=HM0.out;omega);have HN:Hid (want=none):=hHd (by rw [HSI.out,show n - m - i=0 by omega];rfl);have HKE:=hHd (HKW.out.trans hg);clear HSI HSC;(go_wp2_with fail);go_ret;exact⟨false,rfl,HKE.out,fun h=>(by cases h),fun _=>HN.out,HS.out⟩
theorem strike_all (wb:World) (B K E C n:Nat) (kn:List Knd) (ak:Option Addr) (ck:Nat) (vev:Value) (a4:Option Addr) (c4:Nat) (hB:StB wb K E C n kn ak ck vev a4 c4):∀m,StC wb B K E C n kn m
  | 0 => by
    intro fI mI start out vo W hfI hmI hs ho hn hx5 hlm hst
    obtain rfl:mI=0:=by simpa using hmI
    exact strike_zero wb B K E C n kn ak ck vev a4 c4 hB fI out vo W hs ho hn
  |m+1=>strike_succ wb B K E C n kn ak ck vev a4 c4 hB m (strike_all wb B K E C n kn ak ck vev a4 c4 hB m)
end Go.Proofs.YtegkdnfeceomdaaGreat
namespace Go.Hs
open Go.RowKit
def takeC (c:DCas) (k:Nat):DCas:= { c with clms:=c.clms.take k }
theorem takeC_len {c:DCas} {k:Nat} (h:k≤c.clms.length):(takeC c k).clms.length=k:=by simp [takeC];omega
theorem takeC_all (c:DCas):takeC c c.clms.length=c:=by unfold takeC;rw [List.take_length]
theorem takeC_ok {c:DCas} (h:CasS c) (k:Nat):CasS (takeC c k):=
 ⟨h.bk,h.soc,h.nc,by have:=h.nm;simp [takeC];omega,h.day,h.parcel,h.loss,h.cov,fun x hx=>h.clm x (List.mem_of_mem_take hx)⟩
theorem takeC_mem {w:World} {A:CaseA} {c:DCas} (h:CaseM w A c) {k:Nat} (hk:k≤c.clms.length):CaseM w A (takeC c k):=by
 have h4:=h.l4;refine⟨h.pars,h.ents,h.covs,fun i hi=> ?_,h.l1,h.l2,h.l3,by rw [takeC_len hk];omega⟩
 have hi':i<k:=by simp [takeC] at hi;omega
 obtain⟨b,o,e,hc⟩:=h.clms i (by simp;omega);refine⟨b,o,e,?_⟩
 have e1:((takeC c k).clms.map Clm.c)[i]'hi=(c.clms.map Clm.c)[i]'(by simp;omega):=by simp [takeC]
 rw [e1];exact hc
theorem WkD.claims {W0 w:World} {p m:Nat} {A:CaseA} {c:DCas} {j k:Nat} (h:WkD W0 p m A (takeC c j) w) (hk:k≤c.clms.length):WkD W0 p m A (takeC c k) (w.setCell ⟨p,10,none⟩ (.slice A.a4 k A.c4)):=by
 have b:=h.cells;have q:∀i v,i≠10→w.cell? ⟨p,i,none⟩=some v→(w.setCell ⟨p,10,none⟩ (.slice A.a4 k A.c4)).cell? ⟨p,i,none⟩=some v:=fun i v hi hc=>cell_ne (.inr hi) hc
 have hs:Stl m (w.setCell ⟨p,10,none⟩ (.slice A.a4 k A.c4)):=h.stl.of (Below.heap_setCell _ _ _ _ (Ne.symm h.ne));refine BoxD.wkd ⟨q _ _ (by decide) b.c0,q _ _ (by decide) b.c1,q _ _ (by decide) b.c2,q _ _ (by decide) b.c3,q _ _ (by decide) b.c4,q _ _ (by decide) b.c5,q _ _ (by decide) b.c6,q _ _ (by decide) b.c7,q _ _ (by decide) b.c8,q _ _ (by decide) b.c9,?_,q _ _ (by decide) b.c11⟩ (h.ext.setCell h.hp _) hs (fun o=>by rw [World.frozen?_setCell];exact h.fr o) h.hp h.hm
 rw [takeC_len hk];exact World.cell?_setCell_same _ _ _ b.c10
def firstS (c:DCas):Option Nat:=(List.range c.clms.length).find? (fun n=>(truthsD (takeC c (n+1)) []).isEmpty)
def fstE (c:DCas):Int:=if askD c true≠0 then askD c true else if (firstS c).isSome then 0 else 7
def fstN (c:DCas):Int:=if askD c true≠0 then 0 else (((firstS c).getD 0:Nat):Int)
theorem firstS_at {c:DCas} {n:Nat} (hn:n<c.clms.length) (h0:∀j,j<n→(truthsD (takeC c (j+1)) []).isEmpty=false) (h1:(truthsD (takeC c (n+1)) []).isEmpty=true):firstS c=some n:=by
 unfold firstS;rw [List.find?_range_eq_some];exact⟨h1,by simpa using hn,fun j hj=>by simp [h0 j hj]⟩
theorem firstS_none {c:DCas} (h:∀j,j<c.clms.length→(truthsD (takeC c (j+1)) []).isEmpty=false):firstS c=none:=by
 unfold firstS;rw [List.find?_eq_none];intro x hx
 simp [h x (List.mem_range.1 hx)]
end Go.Hs
namespace Go.Proofs.YtegkdnfeceomdaaGreat
open Go.RowKit Go.Hs
attribute [local irreducible] World.setCell World.alloc
theorem run_slice_hi {a:Option Addr} {n q k:Nat} {v:Int} (hv:v=(k:Int)) (h:k≤q):∀w,(Instr.slice 55 (.slice a n q) none (some (.int .i64 v)) none).run Tryz.prog w= .ok (.slice a k q) w:=by
  subst hv;intro w
  simp [Instr.slice,Instr.sliceBounds,Instr.sliceBound,asIntOf,run_underlying Tryz.underlying55,h]
  intro _
  cases a with
  |none=>rfl
  | some b =>
    obtain⟨x,y,z⟩:=b;cases z<;>simp [Addr.add]
theorem First_d (A : CaseA) (c : DCas) (w : World) (hm : CaseM w A c) : Calls Tryz.prog 39 #[A.v c] w fun e w' => e = .returned (.tuple #[.int .i64 (fstN c), .int .i64 (fstE c)]) ∧ Ext w w' := by
  have HNO:=hHd (fun h W (hx:Ext w W)=>ask_no A c W (hm.ext hx) h);have HYE:=hHd (fun h W (hx:Ext w W)=>ask_yes A c W (hm.ext hx) h);have hnil:∀W,IntsV W (.slice none 0 0) []:=fun W=>⟨none,0,rfl,Nat.le_refl _,by simp,fun i hi=>absurd hi (Nat.not_lt_zero _)⟩
  have HPO:=hHd (fun(h:askD c true=0) p m k W W0 (hk:k≤c.clms.length) (hx:Ext w W0) (hb:WkD W0 p m A (takeC c k) W)=>possible_d p m A (takeC c k) (.slice none 0 0) [] W (takeC_ok (askD_cas h) k) (hb.kb (takeC_mem (hm.ext hx) hk)) (hnil W));have HB1:Hid (∀r,askD c true=r→r≠0→fstE c=r∧fstN c=0):=hHd (fun r h h0=>⟨by unfold fstE;rw [h,if_pos h0],by unfold fstN;rw [h,if_pos h0]⟩)
  have HB2:Hid (askD c true=0→∀n,n<c.clms.length→(∀j,j<n→(truthsD (takeC c (j+1)) []).isEmpty=false)→(truthsD (takeC c (n+1)) []).isEmpty=true→fstE c=0∧fstN c=n):=hHd (fun h n hn h0 h1=>by
    have e:=firstS_at hn h0 h1;exact⟨by unfold fstE;rw [h,e];rfl,by unfold fstN;rw [h,e];rfl⟩)
  have HB3:Hid (askD c true=0→(∀j,j<c.clms.length→(truthsD (takeC c (j+1)) []).isEmpty=false)→fstE c=7∧fstN c=0):=hHd (fun h h0=>by
    have e:=firstS_none h0;exact⟨by unfold fstE;rw [h,e];rfl,by unfold fstN;rw [h,e];rfl⟩)
  have hl4:=hm.l4;clear hm hnil;by_cases hE:askD c true=0
  · have HYE2 := hHd (HYE.out hE); have HPO2 := hHd (HPO.out hE); have HB22 := hHd (HB2.out hE); have HB32 := hHd (HB3.out hE); clear HNO HYE HPO HB1 HB2 HB3 hE; generalize fstE c = be at *; generalize fstN c = bn at *; obtain ⟨a1, c1, a2, c2, a3, c3, a4, c4⟩ := A; unfold CaseA.v caseV at *; simp only at *; go_enter Tryz.func39, Tryz.ntmps39
    (go_wp2_with fail);obtain⟨W0,hW,X,HS,HSf,HSz⟩:=bx11 w 57 (.int .i64 c.bk.last) (.int .i64 c.bk.owners) (.slice a1 c.bk.pars.length c1) (.slice a2 c.bk.ents.length c2) (.int .i64 c.soc) (.int .i64 c.day) (.int .i64 c.parcel) (.slice a3 c.covs.length c3) (.int .i64 c.llo) (.int .i64 c.lhi) (.slice a4 c.clms.length c4);rw [hW];clear hW;(with_reducible refine(HYE2.out _ X).mono ?_);rintro e w1 ⟨p,m,rfl,hwk⟩
    have HC0:Hid (∀W',Ext W0 W'→W'.cell? ⟨w.heap.size,10,none⟩=some (.slice a4 c.clms.length c4)):=hHd (fun W' h=>by
      obtain⟨⟨-,-,-,-,-,-,-,-,-,-,q10⟩,-⟩:=HS.out W' h;exact q10)
    have q10:=HC0.out w1 hwk.ext;have HW1:Hid (WkD W0 p m ⟨a1,c1,a2,c2,a3,c3,a4,c4⟩ (takeC c c.clms.length) w1):=hHd (by rw [takeC_all];exact hwk);clear hwk HYE2 HS HSf;(go_wp2_with fail);go_loopw [18] (fun s18 wr=>∃k j:Nat,k≤c.clms.length∧s18= .int .i64 k∧Hid (WkD W0 p m ⟨a1,c1,a2,c2,a3,c3,a4,c4⟩ (takeC c j) wr)∧Hid (∀j',j'<k→(truthsD (takeC c (j'+1)) []).isEmpty=false)) (fun s _=>c.clms.length - (intOf s).toNat)
    case atStart=>exact⟨0,c.clms.length,Nat.zero_le _,rfl,HW1,hHd (fun j hj=>absurd hj (Nat.not_lt_zero _))⟩
    case round=>
      obtain⟨k,j,hk,rfl,HW,HJ⟩:=hrel;obtain⟨wo,rfl⟩:∃x,x=wr:=⟨_,rfl⟩;by_cases hlt:k<c.clms.length
      · have hk0 : (0 : Int) ≤ (k : Int) := by omega
        have hk1:(k:Int)<(c.clms.length:Int):=by omega
        have hw:IntKind.i64.wrap ((k:Int)+1)=(k:Int)+1:=IntWalk.i64_in _ (by omega);have hsl:=run_slice_hi (a:=a4) (n:=c.clms.length) (q:=c4) (k:=k+1) (v:=(k:Int)+1) (by omega) (by omega);have q10:=HC0.out wo HW.out.ext;have p10:=HW.out.cells.c10;have pf:=HW.out.fr;have HW2:=hHd (WkD.claims (k:=k+1) HW.out (by omega));have HP:=hHd (fun W h=>HPO2.out p m (k+1) W W0 (by omega) X h);have HBY:=hHd (HB22.out k hlt HJ.out)
        have HJN:Hid ((truthsD (takeC c (k+1)) []).isEmpty=false→∀j',j'<k+1→(truthsD (takeC c (j'+1)) []).isEmpty=false):=hHd (fun h j' hj=>by
          by_cases e:j'=k
          · subst e;exact h
          · exact HJ.out j' (by omega))
        obtain⟨tb,htb⟩:∃tb,tb=(truthsD (takeC c (k+1)) []).isEmpty:=⟨_,rfl⟩;rw [←htb] at HP HBY HJN;clear htb;(go_wp2_with fail);(with_reducible refine(HP.out _ HW2.out).mono ?_);rintro e w3 ⟨rfl,hm3⟩;have HW3:=hHd (HW2.out.mm hm3);clear hm3 q10 p10 pf;cases tb with
        | true =>
          obtain⟨rfl,rfl⟩:=HBY.out rfl;have XE:Ext w w3:=X.trans HW3.out.ext;clear HBY HJN;(go_wp2_with fail);go_ret2;exact⟨rfl,XE⟩
        | false =>
          have HJ3:=hHd (HJN.out rfl);clear HBY HJN;(go_wp2_with fail);go_roundw
          case rel=>exact⟨k+1,k+1,by omega,by go_num,HW3,HJ3⟩
          case measure=>simp [intOf];omega
      · obtain rfl : k = c.clms.length := by omega
        obtain⟨rfl,rfl⟩:=HB32.out HJ.out;have XE:Ext w wo:=X.trans HW.out.ext;(go_wp2_with fail);go_ret2;exact⟨rfl,XE⟩
  · have HN := hHd hE; have hb : (askD c true != 0) = true := by rw [bne_iff_ne]; exact hE
    have HNO2:=hHd (HNO.out hE);have HR:=hHd (HB1.out _ rfl hE);clear HNO HYE HPO HB1 HB2 HB3 hE;rw [HR.out.1,HR.out.2];generalize askD c true=r at*;obtain⟨a1,c1,a2,c2,a3,c3,a4,c4⟩:=A;unfold CaseA.v caseV at*;simp only at*;go_enter Tryz.func39,Tryz.ntmps39
    (go_wp2_with fail);(with_reducible refine(HNO2.out _ EX).mono ?_);rintro e w1 ⟨rfl,hx1⟩;have X1:Ext w w1:=EX;clear hx1;(go_wp2_with fail);go_ret2;exact⟨rfl,X1⟩
end Go.Proofs.YtegkdnfeceomdaaGreat
namespace Go.Hs
def prodR (l:List (Int×Int)):Int:=l.foldl (fun n r=>n*(r.2 - r.1+1)) 1
theorem prodR_from (l:List (Int×Int)) (a:Int):l.foldl (fun n r=>n*(r.2 - r.1+1)) a=a*prodR l:=by
  induction l generalizing a with
  |nil=>simp [prodR]
  | cons x r ih =>
    simp only [prodR,List.foldl_cons];rw [ih (a*(x.2 - x.1+1)),ih (1*(x.2 - x.1+1)),Int.one_mul,Int.mul_assoc]
theorem prodR_cons (x:Int×Int) (r:List (Int×Int)):prodR (x::r)=(x.2 - x.1+1)*prodR r:=by
 simp only [prodR,List.foldl_cons];rw [prodR_from r (1*(x.2 - x.1+1)),Int.one_mul];rfl
theorem prodR_append (l r:List (Int×Int)):prodR (l++r)=prodR l*prodR r:=by
 unfold prodR;rw [List.foldl_append,prodR_from r];rfl
theorem prodR_pos:∀ {l:List (Int×Int)},(∀r∈l,r.1≤r.2)→1≤prodR l
  | [],_=>by simp [prodR]
  | x :: r, h => by
    rw [prodR_cons];have h1:=h x (by simp);have h2:=prodR_pos (l:=r) (fun y hy=>h y (by simp [hy]));have:1*1≤(x.2 - x.1+1)*prodR r:=Int.mul_le_mul (by omega) h2 (by omega) (by omega);omega
theorem cap_fold {C:Int} (hC:1≤C):∀(l:List (Int×Int)) (n:Int),(∀r∈l,r.1≤r.2)→1≤n→l.foldl (fun n r=>min (n*(r.2 - r.1+1)) C) (min n C)=min (n*prodR l) C
  | [],n,_,_=>by simp [prodR]
  | x :: r, n, h, hn => by
    have h1:=h x (by simp);have hr:=fun y hy=>h y (List.mem_cons_of_mem x hy)
    have hs:1≤x.2 - x.1+1:=by omega
    generalize hsz:x.2 - x.1+1=s at*
    have e:min (min n C*s) C=min (n*s) C:=by
      rcases Int.le_total n C with hc|hc
      · rw [Int.min_eq_left hc]
      · rw [Int.min_eq_right hc];have a1:C*1≤C*s:=Int.mul_le_mul_of_nonneg_left hs (by omega);have a2:n*1≤n*s:=Int.mul_le_mul_of_nonneg_left hs (by omega);omega
    have hns:1≤n*s:=by
      have a2:n*1≤n*s:=Int.mul_le_mul_of_nonneg_left hs (by omega);omega
    rw [List.foldl_cons,hsz,e,cap_fold hC r (n*s) hr hns,prodR_cons,hsz,Int.mul_assoc]
theorem manyL_eq {cap:Int} (hc:0≤cap) {l:List (Int×Int)} (h:∀r∈l,r.1≤r.2):manyL cap l=min (prodR l) (cap+1):=by
 have:=cap_fold (C:=cap+1) (by omega) l 1 h (Int.le_refl _);rw [Int.min_eq_left (by omega),Int.one_mul] at this;exact this
theorem manyL_lt {cap:Int} (hc:0≤cap) {l:List (Int×Int)} (h:∀r∈l,r.1≤r.2):cap<manyL cap l↔cap<prodR l:=by
 rw [manyL_eq hc h];omega
def manyTo (top:Int) (l:List (Int×Int)) (n:Int):Int:=l.foldl (fun n r=>min top (n*(r.2 - r.1+1))) n
theorem manyTo_eq {top:Int} (ht:1≤top) {l:List (Int×Int)} (h:∀r∈l,r.1≤r.2) {n:Int} (hn:1≤n):manyTo top l (min n top)=min (n*prodR l) top:=by
 have:=cap_fold (C:=top) ht l n h hn;rw [←this];unfold manyTo;congr 1
 funext m r
 exact Int.min_comm _ _
end Go.Hs
namespace Go.Hs
open Go.RowKit
def kndD (c:DCas) (d:Dmg):Knd:=fun i=>decide (i<c.clms.length)&&rightD (c.clms.getD i default) d
def sameK (f g:Knd):Bool:=f 0==g 0&&(f 1==g 1&&(f 2==g 2&&(f 3==g 3&&f 4==g 4)))
def stepK (kn:List Knd) (k:Knd):List Knd:=if kn= []∨sameK (kn.getLastD (fun _=>false)) k=false then kn++ [k] else kn
def knownD (c:DCas) (ts:List (DTr×Dmg)):List Knd:=(ts.map (fun x:DTr×Dmg=>kndD c x.2)).foldl stepK []
theorem knownD_snoc (c:DCas) (ts:List (DTr×Dmg)) (x:DTr×Dmg):knownD c (ts++ [x])=stepK (knownD c ts) (kndD c x.2):=by
 unfold knownD;rw [List.map_append,List.foldl_append];rfl
theorem stepK_len (kn:List Knd) (k:Knd):(stepK kn k).length≤kn.length+1:=by unfold stepK;split<;>simp
theorem stepK_ne (kn:List Knd) (k:Knd):stepK kn k≠ []:=by
 unfold stepK;split
 ·simp
 ·rename_i h;exact fun e=>h (.inl e)
theorem stepK_fold_len (l:List Knd):∀kn,(l.foldl stepK kn).length≤kn.length+l.length:=by
  induction l with
  |nil=>intro kn;simp
  | cons k l ih =>
    intro kn
    have h1:=ih (stepK kn k);have h2:=stepK_len kn k;simp only [List.foldl_cons,List.length_cons];omega
theorem knownD_len (c:DCas) (ts:List (DTr×Dmg)):(knownD c ts).length≤ts.length:=by
 have:=stepK_fold_len (ts.map (fun x:DTr×Dmg=>kndD c x.2)) [];simpa [knownD] using this
theorem knownD_ne {c:DCas} {ts:List (DTr×Dmg)} (h:ts≠ []):knownD c ts≠ []:=by
 rcases List.eq_nil_or_concat ts with h'|⟨l,x,rfl⟩
 ·exact absurd h' h
 ·rw [List.concat_eq_append,knownD_snoc];exact stepK_ne _ _
theorem allL_prod:∀ {rs:List (Int×Int)},(∀r∈rs,r.1≤r.2)→((allL rs).length:Int)=prodR rs
  | [],_=>by simp [allL,prodR]
  | r :: t, h => by
    rw [allL_len,prodR_cons,Int.natCast_mul,allL_prod (fun x hx=>h x (by simp [hx]))];have:=h r (by simp);congr 1
    omega
theorem truthsD_len {c:DCas} (h:caseD c=0) (out:List Int):(truthsD c out).length≤2000:=by
 obtain⟨-,hS,hm⟩:=caseD_zero h;have h1:(truthsD c out).length≤(allL (rngsD c)).length:=List.length_filterMap_le _ _;have hr:∀r∈rngsD c,r.1≤r.2:=fun r hr=>(rngsD_ok hS r hr).2.1
 have h2:=allL_prod hr;have h3:=manyL_lt (cap:=2000) (by decide) hr;omega
def okD (c:DCas):List Nat→Bool:=fun o=>(knownD c (truthsD c (everyI c.clms.length))).any (okK c.clms.length (intsN o))
def leaveD (c:DCas):List Nat:=((List.range (c.clms.length+1)).findSome? (fun m=>strikeS c.clms.length (okD c) m [] 0)).getD []
theorem strike_full {n:Nat} {ok:List Nat→Bool} (h:ok (List.range n)=true):∀m s,m+s=n→strikeS n ok m (List.range s) s=some (List.range n)
  | 0, s, hs => by
    obtain rfl:s=n:=by omega
    unfold strikeS;rw [if_pos h]
  | m + 1, s, hs => by
    unfold strikeS;rw [show n - m - s=0+1 by omega];refine scanN_yes ?_
    rw [←List.range_succ];exact strike_full h m (s+1) (by omega)
theorem okK_all (n:Nat) (k:Knd):okK n (intsN (List.range n)) k=true:=by
 unfold okK;rw [List.all_eq_true];intro i hi
 have:i∈intsN (List.range n):=hi;simp [this]
theorem okD_full {c:DCas} (h:(truthsD c (everyI c.clms.length)).isEmpty=false):okD c (List.range c.clms.length)=true:=by
 unfold okD;have hne:truthsD c (everyI c.clms.length)≠ []:=fun e=>by rw [e] at h;cases h
 obtain⟨x,r,e⟩:=List.exists_cons_of_ne_nil (knownD_ne (c:=c) hne);rw [e,List.any_cons,okK_all];rfl
theorem leave_some {c:DCas} {m:Nat} {x:List Nat} (hm:m≤c.clms.length) (h0:∀j,j<m→strikeS c.clms.length (okD c) j [] 0=none) (h1:strikeS c.clms.length (okD c) m [] 0=some x):leaveD c=x:=by
 unfold leaveD
 have:(List.range (c.clms.length+1)).findSome? (fun m=>strikeS c.clms.length (okD c) m [] 0)=some x:=by
  have e:List.range (c.clms.length+1)=List.range m++(m::List.range' (m+1) (c.clms.length - m)):=by
   have h:=(List.range'_append_1 (s:=0) (m:=m) (n:=c.clms.length+1 - m));rw [show m+(c.clms.length+1 - m)=c.clms.length+1 by omega,show c.clms.length+1 - m=c.clms.length - m+1 by omega,List.range'_succ,Nat.zero_add] at h;rw [List.range_eq_range',List.range_eq_range',←h]
  rw [e,List.findSome?_append,List.findSome?_eq_none_iff.2 (fun j hj=>h0 j (List.mem_range.1 hj)),List.findSome?_cons,h1];rfl
 rw [this];rfl
end Go.Hs
namespace Go.Proofs.YtegkdnfeceomdaaGreat
open Go.RowKit Go.Hs
theorem neq_knd (f g:Knd) (w:World):(binOp .neq 177 (kndC f).val (kndC g).val).run Tryz.prog w= .ok (.bool (!sameK f g)) w:=by
 unfold sameK kndC V5.val;generalize f 0=a0;generalize f 1=a1;generalize f 2=a2;generalize f 3=a3;generalize f 4=a4;generalize g 0=b0;generalize g 1=b1;generalize g 2=b2;generalize g 3=b3;generalize g 4=b4;have u3:=Tryz.underlying4;have a3':=Tryz.isAgg4;have z3:=Tryz.sizeOf4;rw [run_neq_struct];rw [show (10000:Nat)=9999+1 from rfl,Op.equalIn];simp only [Sem.run_bind,run_underlying Tryz.underlying177,Result.andThen_ok];simp only [Std.Legacy.Range.forIn_eq_forIn_range',Std.Legacy.Range.size,Nat.sub_zero,Nat.add_sub_cancel,Nat.div_one,List.range'_succ,List.range'_zero,List.forIn_cons,List.forIn_nil];go_simp;by_cases h0:a0=b0<;>by_cases h1:a1=b1<;>by_cases h2:a2=b2<;>by_cases h3:a3=b3<;>by_cases h4:a4=b4<;>simp [h0,h1,h2,h3,h4]
end Go.Proofs.YtegkdnfeceomdaaGreat
