/- Bundled: what the texts SN SO say one after another. -/
import Derived.Test.YtegkdnfeceomdaaGreatKDA13
import Derived.Test.YtegkdnfeceomdaaGreatKDA16
import Derived.Laws.EntriesVeiled
import Derived.Laws.MakeOwn
import Derived.Test.YtegkdnfeceomdaaGreatKDA4
set_option maxRecDepth 100000
set_option maxHeartbeats 16000000
set_option linter.unusedSimpArgs false
set_option linter.unusedVariables false
namespace Go.Hs
open Go.RowKit
theorem allL_cons (r:Int×Int) (t:List (Int×Int)):allL (r::t)=(List.range (r.2 - r.1+1).toNat).flatMap (fun n:Nat=>(allL t).map (fun l=>(r.1+(n:Int))::l)):=rfl
theorem flatMap_len {α β:Type} {f:α→List β} {k:Nat} (hf:∀x,(f x).length=k) (l:List α):(l.flatMap f).length=l.length*k:=by
 induction l with
 |nil=>simp
 |cons x r ih=>rw [List.flatMap_cons,List.length_append,hf,ih,List.length_cons,Nat.succ_mul];omega
theorem flat_at' {α β:Type} {C:α→List β} {k:Nat} (hC:∀x,(C x).length=k) (xs:List α) (i j:Nat) (h:i<xs.length) (hj:j<k):(xs.flatMap C)[i*k+j]?=(C xs[i])[j]?:=by
  induction xs generalizing i with
  |nil=>simp at h
  | cons x r ih =>
    cases i with
    |zero=>rw [Nat.zero_mul,Nat.zero_add,List.flatMap_cons,List.getElem?_append_left (by rw [hC];exact hj)];rfl
    | succ i =>
      have e:(i+1)*k=i*k+k:=Nat.succ_mul i k;rw [List.flatMap_cons,List.getElem?_append_right (by rw [hC];omega),hC,show (i+1)*k+j - k=i*k+j by omega,ih i (by simpa using h)];simp
theorem allL_len (r:Int×Int) (t:List (Int×Int)):(allL (r::t)).length=(r.2 - r.1+1).toNat*(allL t).length:=by
 rw [allL_cons,flatMap_len (k:=(allL t).length) (fun x=>by simp),List.length_range]
theorem allL_at {r:Int×Int} {t:List (Int×Int)} {a j:Nat} (ha:a<(r.2 - r.1+1).toNat) (hj:j<(allL t).length):(allL (r::t))[a*(allL t).length+j]?=some ((r.1+(a:Int))::(allL t)[j]):=by
 have h:=flat_at' (C:=fun n:Nat=>(allL t).map (fun l=>(r.1+(n:Int))::l)) (k:=(allL t).length) (fun x=>by simp) (List.range (r.2 - r.1+1).toNat) a j (by simpa using ha) hj;rw [allL_cons,h];simp [hj]
def AtL (rs:List (Int×Int)) (k i:Nat) (pre:List Int):Prop:=∀j (h:j<(allL (rs.drop i)).length),(allL rs)[k+j]?=some (pre++(allL (rs.drop i))[j])
theorem atL_zero (rs:List (Int×Int)):AtL rs 0 0 []:=fun j h=>by
 have h':j<(allL rs).length:=h;simp [h']
theorem atL_next {rs:List (Int×Int)} {k i:Nat} {pre:List Int} (h:AtL rs k i pre) (hi:i<rs.length) {a:Nat} (ha:a<(rs[i].2 - rs[i].1+1).toNat):AtL rs (k+a*(allL (rs.drop (i+1))).length) (i+1) (pre++ [rs[i].1+(a:Int)]):=fun j hj=>by
 have e:rs.drop i=rs[i]::rs.drop (i+1):=List.drop_eq_getElem_cons hi
 have hlt:a*(allL (rs.drop (i+1))).length+j<(allL (rs.drop i)).length:=by
  rw [e,allL_len];have h1:(a+1)*(allL (rs.drop (i+1))).length≤(rs[i].2 - rs[i].1+1).toNat*(allL (rs.drop (i+1))).length:=Nat.mul_le_mul_right _ ha;rw [Nat.succ_mul] at h1;omega
 have h2:=h _ hlt
 have h3:(allL (rs.drop i))[a*(allL (rs.drop (i+1))).length+j]=(rs[i].1+(a:Int))::(allL (rs.drop (i+1)))[j]:=by
  have:=allL_at (t:=rs.drop (i+1)) ha hj;rw [←e] at this;rw [List.getElem?_eq_getElem hlt] at this;exact Option.some.inj this
 rw [Nat.add_assoc,h2,h3];simp
def RngB (bl:Nat) (ar:Option Addr) (qr:Nat) (rs:List (Int×Int)) (w:World):Prop:=
 w.cell? ⟨bl,0,none⟩=some (.slice ar rs.length qr)∧∀k (h:k<rs.length),∃g,ar=some ⟨g,0,none⟩∧w.cell? ⟨g,k*2,none⟩=some (.int .i64 (rs[k]).1)∧w.cell? ⟨g,k*2+1,none⟩=some (.int .i64 (rs[k]).2)
structure LsSt (F:FuncId) (D L bl b1 b2 b3 g n:Nat) (pre:List Int) (w:World):Prop where
 y:w.cell? ⟨b1,0,none⟩=some (.func (.yield L) #[] #[])
 o:w.cell? ⟨b2,0,none⟩=some (.slice (some ⟨g,0,none⟩) n n)
 c:w.cell? ⟨b3,0,none⟩=some (.func (.func F) #[] #[.pointer (some ⟨bl,0,none⟩),.pointer (some ⟨b1,0,none⟩),.pointer (some ⟨b2,0,none⟩),.pointer (some ⟨b3,0,none⟩)])
 row:∀j,j<n→∃x,w.cell? ⟨g,j,none⟩=some x
 hd:∀j (h:j<pre.length),w.cell? ⟨g,j,none⟩=some (.int .i64 pre[j])
 len:pre.length≤n
 fr:∀o,w.frozen? ⟨g,o,none⟩=false
 d:D≤b1∧D≤b2∧D≤b3∧D≤g
 ne:b1≠g∧b2≠g∧b3≠g
 lt:g<w.heap.size
section
variable {F:FuncId} {D L bl b1 b2 b3 g n:Nat} {pre:List Int} {w w':World}
theorem LsSt.kept (h:LsSt F D L bl b1 b2 b3 g n pre w) (k:Kept D w w'):LsSt F D L bl b1 b2 b3 g n pre w':=
 ⟨k.cell h.d.1 h.y,k.cell h.d.2.1 h.o,k.cell h.d.2.2.1 h.c,fun j hj=>let ⟨x,hx⟩:=h.row j hj;⟨x,k.cell h.d.2.2.2 hx⟩,fun j hj=>k.cell h.d.2.2.2 (h.hd j hj),h.len,fun o=>(World.frozen?_of_block (w:=w) (k.2 g h.d.2.2.2 h.lt)).trans (h.fr o),h.d,h.ne,Nat.lt_of_lt_of_le h.lt k.1⟩
theorem LsSt.keptU {U:Nat} (h:LsSt F D L bl b1 b2 b3 g n pre w) (k:KeptU D U w w') (hu:b1<U∧b2<U∧b3<U∧g<U):LsSt F D L bl b1 b2 b3 g n pre w':=
 ⟨k.cell h.d.1 hu.1 h.y,k.cell h.d.2.1 hu.2.1 h.o,k.cell h.d.2.2.1 hu.2.2.1 h.c,fun j hj=>let ⟨x,hx⟩:=h.row j hj;⟨x,k.cell h.d.2.2.2 hu.2.2.2 hx⟩,fun j hj=>k.cell h.d.2.2.2 hu.2.2.2 (h.hd j hj),h.len,fun o=>(World.frozen?_of_block (w:=w) (k.2 g h.d.2.2.2 hu.2.2.2 h.lt)).trans (h.fr o),h.d,h.ne,Nat.lt_of_lt_of_le h.lt k.1⟩
theorem LsSt.ext (h:LsSt F D L bl b1 b2 b3 g n pre w) (hx:Ext w w'):LsSt F D L bl b1 b2 b3 g n pre w':=h.kept (Ext.kept hx D)
theorem LsSt.less {x:Int} (h:LsSt F D L bl b1 b2 b3 g n (pre++ [x]) w):LsSt F D L bl b1 b2 b3 g n pre w:=
 ⟨h.y, h.o, h.c, h.row, fun j hj => by
  have:=h.hd j (by simp;omega);rw [List.getElem_append_left hj] at this;exact this,by have:=h.len;simp at this;omega,h.fr,h.d,h.ne,h.lt⟩
theorem LsSt.set (h:LsSt F D L bl b1 b2 b3 g n pre w) (hl:pre.length<n) (x:Int):LsSt F D L bl b1 b2 b3 g n (pre++ [x]) (w.setCell ⟨g,pre.length,none⟩ (.int .i64 x)):=by
 obtain⟨n1,n2,n3⟩:=h.ne;refine⟨cell_ne (.inl n1) h.y,cell_ne (.inl n2) h.o,cell_ne (.inl n3) h.c,fun j hj=> ?_,fun j hj=> ?_,by simp;omega,fun o=>by rw [World.frozen?_setCell];exact h.fr o,h.d,h.ne,by rw [World.size_setCell];exact h.lt⟩
 ·obtain ⟨y, hy⟩ := h.row j hj; by_cases e : j = pre.length
  ·subst e;exact⟨_,World.cell?_setCell_same _ _ _ hy⟩
  ·exact⟨y,cell_ne (.inr e) hy⟩
 ·by_cases e : j = pre.length
  ·subst e;obtain⟨y,hy⟩:=h.row _ hl;simp only [List.getElem_append_right (Nat.le_refl _),Nat.sub_self,List.getElem_cons_zero];exact World.cell?_setCell_same _ _ _ hy
  ·have hj' : j < pre.length := by simp at hj; omega
   rw [List.getElem_append_left hj'];exact cell_ne (.inr e) (h.hd j hj')
theorem LsSt.ints (h:LsSt F D L bl b1 b2 b3 g n pre w) (hl:pre.length=n) (hn:n≤1000) (hp:∀x∈pre,0≤x∧x≤1000):IntsV w (.slice (some ⟨g,0,none⟩) n n) pre:=by
 subst hl;refine⟨_,_,rfl,Nat.le_refl _,by omega,fun i hi=>⟨g,0,rfl,?_,?_⟩⟩
 ·rw [Nat.zero_add,Nat.mul_one];exact h.hd i hi
 ·have:=hp _ (List.getElem_mem hi);omega
end
end Go.Hs
namespace Go.Proofs.YtegkdnfeceomdaaGreat
open Go.RowKit Go.Hs
attribute [local irreducible] World.setCell World.alloc
attribute [local go_sem] Oper.semAt_some
attribute [local simp] wide_fn wide_fn' wide_depth wide_round
attribute [local go_sem] wide_fn wide_fn' wide_depth wide_round
def ChQ (F:FuncId) (U D L bl b1 b2 b3 g n:Nat) (J:Nat→World→Prop) (Jx:World→Prop) (pre:List Int) (k':Nat) (e:Ending) (w':World):Prop:=
 ∃b,e= .returned (.bool b)∧(b=true→(J k' w'∧LsSt F D L bl b1 b2 b3 g n pre w')∧U≤w'.heap.size)∧(b=false→Jx w')
def YieldL (U D L:Nat) (ls:List (List Int)) (J:Nat→World→Prop) (Jx:World→Prop):Prop:=∀(k:Nat) (h:k<ls.length) (W1:World) (v:Value),J k W1→IntsV W1 v ls[k]→D≤W1.heap.size→U≤W1.heap.size→
  YieldAt Fence.wide 0 Tryz.prog L #[v] W1 fun e W2=>KeptU D U W1 W2∧((e= .returned (.bool true)∧J (k+1) W2)∨(e= .returned (.bool false)∧Jx W2))
theorem choose_end (U D L bl b1 b2 b3 g qr:Nat) (ar:Option Addr) (rs:List (Int×Int)) (J:Nat→World→Prop) (Jx:World→Prop) (hK:∀i W1,J i W1→RngB bl ar qr rs W1) (hY:YieldL U D L (allL rs) J Jx) (hgU:b1<U∧b2<U∧b3<U∧g<U)
  (pre:List Int) (k:Nat) (W:World) (hUW:U≤W.heap.size) (hj:J k W) (hs:LsSt 174 D L bl b1 b2 b3 g rs.length pre W) (hl:pre.length=rs.length) (hn:rs.length≤1000) (hp:∀x∈pre,0≤x∧x≤1000) (hA:AtL rs k rs.length pre):
  Calls Tryz.prog 174 #[.int .i64 rs.length,.pointer (some ⟨bl,0,none⟩),.pointer (some ⟨b1,0,none⟩),.pointer (some ⟨b2,0,none⟩),.pointer (some ⟨b3,0,none⟩)] W (ChQ 174 U D L bl b1 b2 b3 g rs.length J Jx pre (k+1)):=by
 obtain⟨hb,-⟩:=hK k W hj;have hi:=hs.ints hl hn hp;have hat:=hA 0 (by rw [List.drop_length];decide);have hd0:(allL (rs.drop rs.length))= [[]]:=by rw [List.drop_length];rfl
 obtain⟨hk,hke⟩:∃h:k<(allL rs).length,(allL rs)[k]=pre:=by
  have h1:(allL (rs.drop rs.length))[0]'(by rw [hd0];decide)= []:=(List.getElem_of_eq hd0 _).trans rfl;rw [h1,List.append_nil,Nat.add_zero] at hat;obtain⟨h2,h3⟩:=List.getElem?_eq_some_iff.1 hat;exact⟨h2,h3⟩
 have hy:=hY k hk W (.slice (some ⟨g,0,none⟩) rs.length rs.length) hj (by rw [hke];exact hi) (by have:=hs.d.2.2.2;have:=hs.lt;omega) hUW;obtain⟨fn,tmps,assign,body,hy,hrd⟩:=hy;have q1:=hs.y;have q2:=hs.o;have HS:=hHd hs;clear hs hi hat hd0 hke hA hK hY hp hl;refine Iff.mp (callsIn_wide (n:=0)) ?_
 gi_enter Tryz.func174,Tryz.ntmps174
 gi_wp2_with (first|((with_reducible refine hrd.mono ?_);rintro e w2 ⟨hk2,⟨rfl,hI2⟩|⟨rfl,hI2⟩⟩))
 ·(gi_wp2_with fail);go_ret;exact⟨true,rfl,fun _=>⟨⟨hI2,HS.out.keptU hk2 hgU⟩,Nat.le_trans hUW hk2.1⟩,fun h=>(by cases h)⟩
 ·(gi_wp2_with fail);go_ret;exact⟨false,rfl,fun h=>(by cases h),fun _=>hI2⟩
def ChI (U D L bl b1 b2 b3 g:Nat) (rs:List (Int×Int)) (J:Nat→World→Prop) (Jx:World→Prop) (m:Nat):Prop:=
 ∀(iv:Int) (i k:Nat) (pre:List Int) (W:World),iv=i→i+m=rs.length→U≤W.heap.size→J k W→LsSt 174 D L bl b1 b2 b3 g rs.length pre W→pre.length=i→(∀x∈pre,0≤x∧x≤1000)→AtL rs k i pre→
  Calls Tryz.prog 174 #[.int .i64 iv,.pointer (some ⟨bl,0,none⟩),.pointer (some ⟨b1,0,none⟩),.pointer (some ⟨b2,0,none⟩),.pointer (some ⟨b3,0,none⟩)] W (ChQ 174 U D L bl b1 b2 b3 g rs.length J Jx pre (k+(allL (rs.drop i)).length))
theorem choose_more (U D L bl b1 b2 b3 g qr : Nat) (ar : Option Addr) (rs : List (Int × Int)) (J : Nat → World → Prop) (Jx : World → Prop) (hK : ∀ i W1, J i W1 → RngB bl ar qr rs W1) (hJ : ∀ i A B, J i A → BelR (fun _ => False) (fun _ => True) D U A B → J i B) (hgU : b1 < U ∧ b2 < U ∧ b3 < U ∧ g < U)
    (hR:∀r∈rs,0≤r.1∧r.1≤r.2∧r.2≤1000) (hn:rs.length≤1000) (m:Nat) (ih:ChI U D L bl b1 b2 b3 g rs J Jx m):ChI U D L bl b1 b2 b3 g rs J Jx (m+1):=by
  intro iv i k pre W hiv him hUW hj hs hl hp hA
  subst hiv;have hi:i<rs.length:=by omega
  have HIH:Hid (∀(iv:Int) (a k':Nat) (W':World),iv=(i:Int)+1→(a:Int)≤rs[i].2 - rs[i].1→k'=k+a*(allL (rs.drop (i+1))).length→U≤W'.heap.size→J k' W'→LsSt 174 D L bl b1 b2 b3 g rs.length (pre++ [rs[i].1+(a:Int)]) W'→
      Calls Tryz.prog 174 #[.int .i64 iv,.pointer (some ⟨bl,0,none⟩),.pointer (some ⟨b1,0,none⟩),.pointer (some ⟨b2,0,none⟩),.pointer (some ⟨b3,0,none⟩)] W' (ChQ 174 U D L bl b1 b2 b3 g rs.length J Jx (pre++ [rs[i].1+(a:Int)]) (k'+(allL (rs.drop (i+1))).length))):=
    hHd (fun iv a k' W' h1 h2 h3 h0 h4 h5 => by
      have hr:=hR _ (List.getElem_mem hi);subst h3
      exact ih iv (i+1) _ _ W' (by omega) (by omega) h0 h4 h5 (by simp;omega) (fun x hx=>by
        rcases List.mem_append.1 hx with h|h
        · exact hp x h
        · have : x = rs[i].1 + (a : Int) := by simpa using h
          omega) (atL_next hA hi (by omega)))
  have HTOT:Hid (∀n:Nat,rs[i].2 - rs[i].1+1=(n:Int)→(allL (rs.drop i)).length=n*(allL (rs.drop (i+1))).length):=hHd (fun n hn=>by
    have e:rs.drop i=rs[i]::rs.drop (i+1):=List.drop_eq_getElem_cons hi;rw [e,allL_len,hn];simp)
  have HK:Hid (∀j W1,J j W1→W1.cell? ⟨bl,0,none⟩=some (.slice ar rs.length qr)∧∃gr,ar=some ⟨gr,0,none⟩∧W1.cell? ⟨gr,i*2,none⟩=some (.int .i64 rs[i].1)∧W1.cell? ⟨gr,i*2+1,none⟩=some (.int .i64 rs[i].2)):=hHd (fun j W1 h=>⟨(hK j W1 h).1,(hK j W1 h).2 i hi⟩);have hr:=hR _ (List.getElem_mem hi);have HSZ:=hHd (fun W=>size_d rs[i].1 rs[i].2 ⟨hr.1,hr.2.1,hr.2.2⟩ W);have HJ:=hHd hJ;obtain⟨N,hN⟩:∃N:Nat,rs[i].2 - rs[i].1+1=(N:Int):=⟨(rs[i].2 - rs[i].1+1).toNat,by omega⟩;have HT:=hHd (HTOT.out N hN);rw [hN] at HSZ;have HN:=hHd hN;generalize (allL (rs.drop i)).length=tot at*;generalize (allL (rs.drop (i+1))).length=c at*;generalize rs[i].1=lo at*;generalize rs[i].2=hi' at*;have hlo:0≤lo∧lo≤1000:=by omega
  have hNn:N≤1001:=by omega
  have HS:=hHd hs;have HL:=hHd hl;obtain⟨hb,gr,rfl,m0,m1⟩:=HK.out k W hj;have hk0:(0:Int)≤(i:Int):=by omega
  have hk1:(i:Int)<(rs.length:Int):=by omega
  have hne:((i:Int)==(rs.length:Int))=false:=by rw [beq_eq_false_iff_ne];omega
  have hne':¬(i:Int)=(rs.length:Int):=by omega
  have hDW:D≤W.heap.size:=by have:=hs.d.2.2.2;have:=hs.lt;omega
  clear HTOT hr hN hA hp hl hs ih hK hJ hR him;go_enter Tryz.func174,Tryz.ntmps174
  (go_wp2_with fail);(with_reducible refine(HSZ.out _).mono ?_);rintro e w1 ⟨rfl,hx1⟩;have HJ1:=hHd (HJ.out k W w1 hj (ext_toR hx1 inv_none (fun _ h=>h.elim)));have hUW1:U≤w1.heap.size:=Nat.le_trans hUW hx1.size;have HS1:=hHd (HS.out.ext hx1);clear hb m0 m1 hj HS;(go_wp2_with fail);go_loopw [20] (fun s20 wr=>∃a:Nat,a≤N∧s20= .int .i64 a∧U≤wr.heap.size∧Hid (J (k+a*c) wr)∧Hid (LsSt 174 D L bl b1 b2 b3 g rs.length pre wr)) (fun s _=>N - (intOf s).toNat)
  case atStart=>exact⟨0,Nat.zero_le _,rfl,hUW1,hHd (by rw [Nat.zero_mul];exact HJ1.out),HS1⟩
  case round=>
    obtain⟨a,ha,rfl,hUo,HJa,HSa⟩:=hrel;obtain⟨wo,rfl⟩:∃x,x=wr:=⟨_,rfl⟩;by_cases hlt:a<N
    · obtain ⟨hb, gr', ee, m0, -⟩ := HK.out _ wo HJa.out; cases ee
      have q2:=HSa.out.o;have q3:=HSa.out.c;have nn:=HSa.out.ne;obtain⟨y,hy⟩:=HSa.out.row i (by omega);have fr:=HSa.out.fr;have hw:IntKind.i64.wrap (lo+(a:Int))=lo+(a:Int):=IntWalk.i64_in _ (by omega);have hw2:IntKind.i64.wrap ((i:Int)+1)=(i:Int)+1:=IntWalk.i64_in _ (by omega);have hDg:=HSa.out.d.2.2.2;have XB:BelR (fun _=>False) (fun _=>True) D U wo (wo.setCell ⟨g,i,none⟩ (.int .i64 (lo+(a:Int)))):=belR_set inv_none (fun _ h=>h.elim) hDg hgU.2.2.2
      have HJ6:Hid (∀V,V=(wo.setCell ⟨g,i,none⟩ (.int .i64 (lo+(a:Int)))).drew→(J (k+a*c) V∧LsSt 174 D L bl b1 b2 b3 g rs.length (pre++ [lo+(a:Int)]) V)∧U≤V.heap.size):=hHd (fun V hV=>by
        subst hV;refine⟨⟨HJ.out _ _ _ HJa.out (XB.trans (ext_toR ((Ext.refl _).drew) inv_none (fun _ h=>h.elim))),?_⟩,by show U≤(wo.setCell _ _).heap.size;rw [World.size_setCell];exact hUo⟩
        have:=HSa.out.set (by rw [HL.out];exact hi) (lo+(a:Int));rw [HL.out] at this;exact this.ext (Ext.refl _).drew)
      clear HJa HSa XB hDg HK;(go_wp2_with fail);go_region;obtain⟨⟨hj6,hs6⟩,hU6⟩:=HJ6.out _ rfl;generalize (wo.setCell ⟨g,i,none⟩ (.int .i64 (lo+(a:Int)))).drew=W6 at*;clear HJ6 q2 q3 hy fr hb m0;have q3:=hs6.c;have HJ7:=hHd hj6;have HS7:=hHd hs6;clear hj6 hs6;(go_wp2_with fail);(with_reducible refine(HIH.out _ a _ _ rfl (by have:=HN.out;omega) rfl hU6 HJ7.out HS7.out).mono ?_);rintro e w7 ⟨b,rfl,hbt,hbf⟩;cases b with
      | true =>
        obtain⟨⟨hj7,hs7⟩,hU7⟩:=hbt rfl;have HJ8:Hid (J (k+(a+1)*c) w7):=hHd (by rw [Nat.succ_mul,←Nat.add_assoc];exact hj7);have HS8:=hHd hs7.less;clear hbt hbf hj7 hs7;(go_wp2_with fail);go_roundw
        case rel=>exact⟨a+1,by omega,by go_num,hU7,HJ8,HS8⟩
        case measure=>simp [intOf];omega
      | false =>
        have HF:=hHd (hbf rfl);clear hbt hbf;(go_wp2_with fail);go_ret;exact⟨false,rfl,fun h=>(by cases h),fun _=>HF.out⟩
    · obtain rfl : a = N := by omega
      (go_wp2_with fail);go_ret;exact⟨true,rfl,fun _=>⟨⟨by rw [HT.out];exact HJa.out,HSa.out⟩,hUo⟩,fun h=>(by cases h)⟩
theorem choose_all (U D L bl b1 b2 b3 g qr:Nat) (ar:Option Addr) (rs:List (Int×Int)) (J:Nat→World→Prop) (Jx:World→Prop) (hK:∀i W1,J i W1→RngB bl ar qr rs W1) (hJ:∀i A B,J i A→BelR (fun _=>False) (fun _=>True) D U A B→J i B) (hgU:b1<U∧b2<U∧b3<U∧g<U)
    (hY:YieldL U D L (allL rs) J Jx) (hR:∀r∈rs,0≤r.1∧r.1≤r.2∧r.2≤1000) (hn:rs.length≤1000):∀m,ChI U D L bl b1 b2 b3 g rs J Jx m
  | 0 => by
    intro iv i k pre W hiv him hUW hj hs hl hp hA
    obtain rfl:i=rs.length:=by omega
    subst hiv;have e:(allL (rs.drop rs.length)).length=1:=by rw [List.drop_length];rfl
    rw [e];exact choose_end U D L bl b1 b2 b3 g qr ar rs J Jx hK hY hgU pre k W hUW hj hs hl hn hp hA
  |m+1=>choose_more U D L bl b1 b2 b3 g qr ar rs J Jx hK hJ hgU hR hn m (choose_all U D L bl b1 b2 b3 g qr ar rs J Jx hK hJ hgU hY hR hn m)
theorem fn_lists1:FnOK 173:=fun args w=>by simp [go_sem]
def ArgL (ls:List (List Int)) (i:Nat) (as':Array Value) (w:World):Prop:=∃v,as'= #[v]∧∃h:i<ls.length,IntsV w v ls[i]
theorem lists_givesU (bl qr:Nat) (ar:Option Addr) (rs:List (Int×Int)) (hR:∀r∈rs,0≤r.1∧r.1≤r.2∧r.2≤1000) (hn:rs.length≤1000):
  GivesU (fun _=>False) (fun _=>True) 173 #[.pointer (some ⟨bl,0,none⟩)] (allL rs).length (fun _=>ArgL (allL rs)) (RngB bl ar qr rs):=by
 intro L J Jx W _ hK hJ hJx hY h0
 have hY':∀U,W.heap.size≤U→YieldL U W.heap.size L (allL rs) (J U) (Jx U):=fun U hU k h W1 v hj hv hs hUW=>hY U k h W1 #[v] hU hUW hj ⟨v,rfl,h,hv⟩
 have HCH:=hHd (fun U hU b1 b2 b3 g hg=>choose_all U W.heap.size L bl b1 b2 b3 g qr ar rs (J U) (Jx U) (hK U) (fun i A B h hb=>hJ U i A B hU h hb) hg (hY' U hU) hR hn rs.length);obtain⟨hb,-⟩:=hK W.heap.size 0 W (h0 _ (Nat.le_refl _));have HJ:=hHd hJ;have H0:=hHd h0;obtain⟨i0,hi0,hz0,hz1,hz2⟩:=info_parts info_int;obtain⟨M,hM⟩:∃M,M=madeCells (Value.int .i64 0).cells ((rs.length:Int).toNat*i0.size):=⟨_,rfl⟩;have hMs:M.size=rs.length:=by rw [hM,size_madeCells,hz1,Nat.mul_one];rfl
 have hmk:∀W:World,(Instr.makeSlice 22 (.int .i64 rs.length) (.int .i64 rs.length)).run Tryz.prog W= .ok (.slice (some ⟨W.heap.size,0,none⟩) rs.length rs.length) (W.alloc (.cells M 3)):=fun W=>by
  have h:=run_makeSlice (P:=Tryz.prog) W 22 3 i0 (.int .i64 0) Tryz.underlying22 hi0 hz0 .i64 .i64 (rs.length:Int) rs.length (by omega) (Int.le_refl _) (by rw [hz1];omega) (by rw [hz2];omega) (by omega);rw [←hM] at h;simpa using h
 have HMS:=hHd hMs;clear hM hY hY' hJ hK hJx h0 hMs;have hbl:bl<W.heap.size:=lt_of_cell hb;have hbl':¬bl=W.heap.size:=by omega
 refine Iff.mpr (callsIn_wide (n:=0)) ?_
 simp only [List.append_toArray,List.cons_append,List.nil_append];go_enter Tryz.func173,Tryz.ntmps173
 (go_wp2_with fail);have X:Ext W ((((W.alloc (.cells #[.func (.yield L) #[] #[]] 171)).alloc (.cells M 3)).alloc (.cells #[.slice (some ⟨W.heap.size+1,0,none⟩) rs.length rs.length] 22)).alloc (.cells #[.func (.func 174) #[] #[.pointer (some ⟨bl,0,none⟩),.pointer (some ⟨W.heap.size,0,none⟩),.pointer (some ⟨W.heap.size+1+1,0,none⟩),.pointer (some ⟨W.heap.size+1+1+1,0,none⟩)]] 131)):=EX
 have ST:LsSt 174 W.heap.size L bl W.heap.size (W.heap.size+1+1) (W.heap.size+1+1+1) (W.heap.size+1) rs.length [] ((((W.alloc (.cells #[.func (.yield L) #[] #[]] 171)).alloc (.cells M 3)).alloc (.cells #[.slice (some ⟨W.heap.size+1,0,none⟩) rs.length rs.length] 22)).alloc (.cells #[.func (.func 174) #[] #[.pointer (some ⟨bl,0,none⟩),.pointer (some ⟨W.heap.size,0,none⟩),.pointer (some ⟨W.heap.size+1+1,0,none⟩),.pointer (some ⟨W.heap.size+1+1+1,0,none⟩)]] 131)):=by
  refine⟨by simp [go_sem],by simp [go_sem],by simp [go_sem],fun j hj=>⟨M[j]'(by rw [HMS.out];exact hj),?_⟩,fun j hj=>absurd hj (Nat.not_lt_zero _),Nat.zero_le _,fun o=>by simp [go_sem],⟨by omega,by omega,by omega,by omega⟩,⟨by omega,by omega,by omega⟩,by simp⟩
  have hj2:j<M.size:=by rw [HMS.out];exact hj
  simp [go_sem,hj2]
 have hVz:((((W.alloc (.cells #[.func (.yield L) #[] #[]] 171)).alloc (.cells M 3)).alloc (.cells #[.slice (some ⟨W.heap.size+1,0,none⟩) rs.length rs.length] 22)).alloc (.cells #[.func (.func 174) #[] #[.pointer (some ⟨bl,0,none⟩),.pointer (some ⟨W.heap.size,0,none⟩),.pointer (some ⟨W.heap.size+1+1,0,none⟩),.pointer (some ⟨W.heap.size+1+1+1,0,none⟩)]] 131)).heap.size=W.heap.size+4:=by simp
 generalize ((((W.alloc (.cells #[.func (.yield L) #[] #[]] 171)).alloc (.cells M 3)).alloc (.cells #[.slice (some ⟨W.heap.size+1,0,none⟩) rs.length rs.length] 22)).alloc (.cells #[.func (.func 174) #[] #[.pointer (some ⟨bl,0,none⟩),.pointer (some ⟨W.heap.size,0,none⟩),.pointer (some ⟨W.heap.size+1+1,0,none⟩),.pointer (some ⟨W.heap.size+1+1+1,0,none⟩)]] 131))=V at*;have hc:=HCH.out (W.heap.size+4) (by omega) W.heap.size (W.heap.size+1+1) (W.heap.size+1+1+1) (W.heap.size+1) (by omega);unfold ChI at hc;have hj0:J (W.heap.size+4) 0 V:=HJ.out _ 0 W V (by omega) (H0.out _ (by omega)) (ext_toR X inv_none (fun _ h=>h.elim));have hUV:W.heap.size+4≤V.heap.size:=by omega
 have hnil:∀x∈([]:List Int),0≤x∧x≤1000:=fun x hx=>by cases hx
 (with_reducible refine(hc 0 0 0 [] V rfl (by omega) hUV hj0 ST rfl hnil (atL_zero rs)).mono ?_);rintro e w7 ⟨b,rfl,hbt,hbf⟩
 have HF:Hid (J (W.heap.size+4) (allL rs).length w7∨Jx (W.heap.size+4) w7):=hHd (by
  cases b with
  |true=>exact .inl (by have:=(hbt rfl).1.1;rwa [Nat.zero_add,List.drop_zero] at this)
  |false=>exact .inr (hbf rfl))
 clear hbt hbf ST;(go_wp2_with fail);go_end0
 exact⟨⟨_,rfl⟩,W.heap.size+4,by omega,HF.out⟩
end Go.Proofs.YtegkdnfeceomdaaGreat
namespace Go.Hs
open Go.RowKit
def TruV (w:World) (v:Value) (t:DTr):Prop:=∃vd vs vst,v= .agg #[vd,vs,vst,.int .i64 t.loss]∧IntsV w vd t.days∧IntsV w vs t.sown∧IntsV w vst t.starts
theorem TruV.ext {w w':World} {v:Value} {t:DTr} (h:TruV w v t) (hx:Ext w w'):TruV w' v t:=let ⟨a,b,c,e,h1,h2,h3⟩:=h;⟨a,b,c,e,h1.ext hx,h2.ext hx,h3.ext hx⟩
def TruB (U:Nat) (v:Value):Prop:=∃ad nd cd as' ns cs at' nt ct lo,v= .agg #[.slice ad nd cd,.slice as' ns cs,.slice at' nt ct,.int .i64 lo]∧(∀b o,ad=some ⟨b,o,none⟩→U≤b)∧(∀b o,as'=some ⟨b,o,none⟩→U≤b)∧(∀b o,at'=some ⟨b,o,none⟩→U≤b)
theorem TruB.mono {U V:Nat} {v:Value} (h:TruB U v) (hV:V≤U):TruB V v:=
 let ⟨ad,nd,cd,as',ns,cs,at',nt,ct,lo,e,h1,h2,h3⟩:=h
 ⟨ad,nd,cd,as',ns,cs,at',nt,ct,lo,e,fun b o k=>Nat.le_trans hV (h1 b o k),fun b o k=>Nat.le_trans hV (h2 b o k),fun b o k=>Nat.le_trans hV (h3 b o k)⟩
theorem slice_ints {w:World} {g n q lo hi:Nat} {X:Option Addr} {l:List Int} (hl:l.length=n) (hb:∀x∈l,i64ok x) (hn:n≤1000) (hc:∀j (h:j<l.length),w.cell? ⟨g,j,none⟩=some (.int .i64 l[j])) (h1:lo≤hi) (h2:hi≤n) (hq:hi - lo≤q) (hX:lo<hi→X=some ⟨g,lo,none⟩):IntsV w (.slice X (hi - lo) q) ((l.drop lo).take (hi - lo)):=by
 have hlen:((l.drop lo).take (hi - lo)).length=hi - lo:=by simp;omega
 refine⟨X,q,by rw [hlen],by rw [hlen];exact hq,by rw [hlen];omega,fun i hi'=> ?_⟩
 rw [hlen] at hi';have e:((l.drop lo).take (hi - lo))[i]'(by rw [hlen];exact hi')=l[lo+i]'(by omega):=by simp
 refine⟨g,lo,hX (by omega),?_,?_⟩
 ·rw [Nat.mul_one,e];exact hc _ _
 ·rw [e];exact hb _ (List.getElem_mem _)
end Go.Hs
namespace Go.Proofs.YtegkdnfeceomdaaGreat
open Go.RowKit Go.Hs
attribute [local irreducible] World.setCell World.alloc
theorem run_slice_low {g n q hi mx:Nat} (h1:hi≤mx) (h2:mx≤q):∀w,(Instr.slice 22 (.slice (some ⟨g,0,none⟩) n q) none (some (.int .i64 hi)) (some (.int .i64 mx))).run Tryz.prog w= .ok (.slice (some ⟨g,0,none⟩) hi mx) w:=by
 intro w
 have a1:(0:Int)≤(hi:Int)∧(hi:Int)≤(mx:Int):=by omega
 have a2:(0:Int)≤(mx:Int)∧(mx:Int)≤(q:Int):=by omega
 simp [Instr.slice,Instr.sliceBounds,Instr.sliceBound,asIntOf,run_underlying Tryz.underlying22,h1,h2,Addr.add_lit]
theorem run_slice_mid {g n q lo hi mx:Nat} (h0:lo≤hi) (h1:hi≤mx) (h2:mx≤q):∃X,((lo<hi→X=some ⟨g,lo,none⟩)∧∃o,X=some ⟨g,o,none⟩)∧∀w,(Instr.slice 22 (.slice (some ⟨g,0,none⟩) n q) (some (.int .i64 lo)) (some (.int .i64 hi)) (some (.int .i64 mx))).run Tryz.prog w= .ok (.slice X (hi - lo) (mx - lo)) w:=by
 refine⟨if mx=lo then some ⟨g,0,none⟩ else some ⟨g,lo,none⟩,⟨fun h=>if_neg (by omega),by split<;>exact⟨_,rfl⟩⟩,fun w=> ?_⟩
 have hz:=Tryz.sizeOf3;have a0:lo≤mx:=by omega
 by_cases hm:mx=lo
 ·subst hm;simp [Instr.slice,Instr.sliceBounds,Instr.sliceBound,asIntOf,run_underlying Tryz.underlying22,h0,h1,h2,hz]
 ·simp [Instr.slice,Instr.sliceBounds,Instr.sliceBound,asIntOf,run_underlying Tryz.underlying22,h0,h1,h2,hz,hm,Addr.add_lit]
theorem truth_d (A:CaseA) (c:DCas) (l:List Int) (v:Value) (w:World) (hv:IntsV w v l) (hl:l.length=c.bk.ents.length+c.bk.pars.length+c.covs.length+1) (h1:c.bk.ents.length≤100) (h2:c.bk.pars.length≤100) (h3:c.covs.length≤100):
  Calls Tryz.prog 148 #[A.v c,v] w fun e w'=>∃t,e= .returned t∧TruV w' t (truD c l)∧TruB w.heap.size t∧Ext w w':=by
 have HCL:=hHd (fun W (hx:Ext w W)=>clone_x v l W (hv.ext hx) (by omega))
 have hok:∀x∈l,i64ok x:=by
  obtain⟨a,k,rfl,-,-,hr⟩:=hv;intro x hx
  obtain⟨i,hi,rfl⟩:=List.getElem_of_mem hx;obtain⟨b,o,-,h⟩:=hr i hi;exact h.2
 have HOK:=hHd hok;have HTR:Hid (truD c l=⟨l.take c.bk.ents.length,(l.drop c.bk.ents.length).take c.bk.pars.length,(l.drop (c.bk.ents.length+c.bk.pars.length)).take c.covs.length,l.getD (c.bk.ents.length+c.bk.pars.length+c.covs.length) 0⟩):=rfl;have HL:=hHd hl;clear hv hok hl;generalize truD c l=tt at*;unfold CaseA.v caseV at*;obtain⟨a1,c1,a2,c2,a3,c3,a4,c4⟩:=A;simp only at*;generalize c.bk.pars.length=n1 at*;generalize c.bk.ents.length=n2 at*;generalize c.covs.length=n3 at*;generalize c.clms.length=n4 at*;generalize c.bk.last=last at*;generalize c.bk.owners=owners at*;generalize c.soc=soc at*;generalize c.day=day at*;generalize c.parcel=parcel at*;generalize c.llo=llo at*;generalize c.lhi=lhi at*;go_enter Tryz.func148,Tryz.ntmps148
 (go_wp2_with fail);obtain⟨W,hW,X,HS,HSf,HSz⟩:=bx11_4 w 57 (.int .i64 last) (.int .i64 owners) (.slice a1 n1 c1) (.slice a2 n2 c2) (.int .i64 soc) (.int .i64 day) (.int .i64 parcel) (.slice a3 n3 c3) (.int .i64 llo) (.int .i64 lhi) (.slice a4 n4 c4) 61 (.slice none 0 0) (.slice none 0 0) (.slice none 0 0) (.int .i64 0);rw [hW];clear hW;(with_reducible refine(HCL.out _ X).mono ?_);rintro e w1 ⟨v1,rfl,hown,hx1⟩;obtain⟨⟨-,-,q2,q3,-,-,-,q7,-,-,-,t0,t1,t2,t3⟩,-⟩:=HS.out w1 hx1;have tf:=HSf.out w1 hx1;have X1:=X.trans hx1;have hz1:=hx1.size;clear HS HSf HCL;have hlen:=HL.out;rcases own_open hown with ⟨-,h0⟩|⟨g,q,rfl,hB,hg,hq,hc⟩
 ·omega
 ·have HC : Hid (∀ j (h : j < l.length), w1.cell? ⟨g, j, none⟩ = some (.int .i64 l[j])) := hHd (fun j h => hc j _ (by simp [h])); have hlast := HC.out (n2 + n1 + n3) (by omega)
  have eg:l.getD (n2+n1+n3) 0=l[n2+n1+n3]'(by omega):=by
   have:n2+n1+n3<l.length:=by omega
   simp [this]
  have hq1:n2+n1+n3<q:=by omega
  have hsA:=run_slice_low (g:=g) (n:=l.length) (q:=q) (hi:=n2) (mx:=n2) (Nat.le_refl _) (by omega);obtain⟨XB,⟨hXB,oB,hoB⟩,hsB⟩:=run_slice_mid (g:=g) (n:=l.length) (q:=q) (lo:=n2) (hi:=n2+n1) (mx:=n2+n1) (by omega) (Nat.le_refl _) (by omega);obtain⟨XC,⟨hXC,oC,hoC⟩,hsC⟩:=run_slice_mid (g:=g) (n:=l.length) (q:=q) (lo:=n2+n1) (hi:=n2+n1+n3) (mx:=n2+n1+n3) (by omega) (Nat.le_refl _) (by omega);have eB:n2+n1 - n2=n1:=by omega
  have eC:n2+n1+n3 - (n2+n1)=n3:=by omega
  rw [eB] at hsB;rw [eC] at hsC
  have HEQ:Hid (∀V:World,(∀j (h:j<l.length),V.cell? ⟨g,j,none⟩=some (.int .i64 l[j]))→TruV V (.agg #[.slice (some ⟨g,0,none⟩) n2 n2,.slice XB n1 n1,.slice XC n3 n3,.int .i64 (l[n2+n1+n3]'(by omega))]) tt):=hHd (fun V hV=>by
   have sA:=slice_ints (w:=V) (g:=g) (n:=l.length) (q:=n2) (lo:=0) (hi:=n2) (X:=some ⟨g,0,none⟩) rfl HOK.out (by omega) hV (by omega) (by omega) (by omega) (fun _=>rfl);have sB:=slice_ints (w:=V) (g:=g) (n:=l.length) (q:=n1) (lo:=n2) (hi:=n2+n1) (X:=XB) rfl HOK.out (by omega) hV (by omega) (by omega) (by omega) hXB;have sC:=slice_ints (w:=V) (g:=g) (n:=l.length) (q:=n3) (lo:=n2+n1) (hi:=n2+n1+n3) (X:=XC) rfl HOK.out (by omega) hV (by omega) (by omega) (by omega) hXC;rw [eB] at sB;rw [eC] at sC;rw [HTR.out,←eg];exact⟨_,_,_,rfl,by simpa using sA,sB,sC⟩)
  generalize l[n2+n1+n3]'(by omega)=la at*;have hgw:w.heap.size≤g:=by have:=X.size;omega
  have HTB:Hid (TruB w.heap.size (.agg #[.slice (some ⟨g,0,none⟩) n2 n2,.slice XB n1 n1,.slice XC n3 n3,.int .i64 la])):=hHd ⟨_,_,_,_,_,_,_,_,_,_,rfl,fun b o e=>by cases e;exact hgw,fun b o e=>by rw [hoB] at e;cases e;exact hgw,fun b o e=>by rw [hoC] at e;cases e;exact hgw⟩;clear hoB hoC hgw;have w1':IntKind.i64.wrap ((n2:Int)+n1)=(n2:Int)+n1:=IntWalk.i64_in _ (by omega);have w2':IntKind.i64.wrap ((n2:Int)+n1+n3)=(n2:Int)+n1+n3:=IntWalk.i64_in _ (by omega);have k0:(0:Int)≤(n2:Int)+n1+n3:=by omega
  have k1:(n2:Int)+n1+n3<(l.length:Int):=by omega
  have k2:((n2:Int)+n1+n3).toNat=n2+n1+n3:=by omega
  rw [show (((n2+n1:Nat)):Int)=(n2:Int)+n1 by omega] at hsB hsC;rw [show (((n2+n1+n3:Nat)):Int)=(n2:Int)+n1+n3 by omega] at hsC;clear hown hc hXB hXC eg eB eC hlen hq1;(go_wp2_with fail);go_region;(go_wp2_with fail);refine bodyPost_ret (v:= .agg #[.slice (some ⟨g,0,none⟩) n2 n2,.slice XB n1 n1,.slice XC n3 n3,.int .i64 la]) (by simp [results,Tryz.results148,go_sem,t0,t1,t2,t3]) rfl ⟨_,rfl,HEQ.out _ (fun j h=> ?_),HTB.out,?_⟩
  ·have hne : g ≠ w.heap.size + 1 := by omega
   exact(Ext.refl _).drew.keep (cell_ne (.inl hne) (cell_ne (.inl hne) (cell_ne (.inl hne) (cell_ne (.inl hne) (HC.out j h)))))
  ·exact((((X1.setCell (by omega) _).setCell (by omega) _).setCell (by omega) _).setCell (by omega) _).drew
end Go.Proofs.YtegkdnfeceomdaaGreat
