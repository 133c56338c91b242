/- Bundled: what the texts JS JR say one after another. -/
import Derived.Test.YtegkdnfeceomdaaGreatKDA9
import Derived.Laws.IdiomCopy
import Derived.Deep.OwnRows
import Derived.Test.YtegkdnfeceomdaaGreatKDA8
set_option maxRecDepth 100000
set_option maxHeartbeats 16000000
set_option linter.unusedSimpArgs false
set_option linter.unusedVariables false
namespace Go.Hs
open Go.RowKit
theorem Ext.setCells {w0:World} {R:Nat} (hR:w0.heap.size≤R):∀(vs:List Value) (o:Nat) {w:World},Ext w0 w→Ext w0 (w.setCells R o vs)
 | [],_,_,h=>h
 |v::r,o,_,h=>Ext.setCells hR r (o+1) (h.setCell hR v)
theorem size_setCells (R:Nat):∀(vs:List Value) (o:Nat) (w:World),(w.setCells R o vs).heap.size=w.heap.size
 | [],_,_=>rfl
 |v::r,o,w=>by rw [World.setCells,size_setCells R r,World.size_setCell]
structure Room (R n:Nat) (w:World):Prop where
 c:∀j,j<n→(w.cell? ⟨R,j,none⟩).isSome=true
 fr:∀(o:Nat),w.frozen? ⟨R,o,none⟩=false
structure RowI (R:Nat) (xs:List Int) (w:World):Prop where
 c:∀j (h:j<xs.length),w.cell? ⟨R,j,none⟩=some (.int .i64 xs[j])
 fr:∀(o:Nat),w.frozen? ⟨R,o,none⟩=false
theorem RowI.ext {R:Nat} {xs:List Int} {w W:World} (h:RowI R xs w) (hR:R<w.heap.size) (hx:Ext w W):RowI R xs W:=
 ⟨fun j hj=>hx.keep (h.c j hj),fun o=>(hx.frozen hR).trans (h.fr o)⟩
theorem setCells_at {w:World} {R n o j:Nat} (vs:List Value) (h:∀j,j<n→(w.cell? ⟨R,j,none⟩).isSome=true) (hl:o+vs.length≤n) (hj:j<vs.length):(w.setCells R o vs).cell? ⟨R,o+j,none⟩=some vs[j]:=
 World.cell?_setCells_in R vs o w (fun i hi=>h _ (by omega)) j hj
theorem setCells_out {w:World} {R o b j:Nat} (vs:List Value) (h:b≠R∨j<o∨o+vs.length≤j):(w.setCells R o vs).cell? ⟨b,j,none⟩=w.cell? ⟨b,j,none⟩:=
 World.cell?_setCells_out R vs o w _ (fun e _=>by rcases h with h|h;exact absurd e h;exact h)
theorem Room.setCells {R n o:Nat} {w:World} (h:Room R n w) (vs:List Value) (hl:o+vs.length≤n):Room R n (w.setCells R o vs):=by
 refine⟨fun j hj=> ?_,fun i=>by rw [World.frozen?_setCells];exact h.fr i⟩
 by_cases g:o≤j∧j<o+vs.length
 ·obtain⟨k,rfl⟩:∃k,j=o+k:=⟨j - o,by omega⟩;rw [setCells_at vs h.c hl (by omega)];rfl
 ·rw [setCells_out vs (.inr (by omega))];exact h.c j hj
structure Box2 (B:Nat) (a:Option Addr) (n c:Nat) (a':Option Addr) (n' c':Nat) (w:World):Prop where
 c0:w.cell? ⟨B,0,none⟩=some (.slice a n c)
 c1:w.cell? ⟨B,1,none⟩=some (.slice a' n' c')
structure Box4 (B:Nat) (l o:Int) (a:Option Addr) (n c:Nat) (a':Option Addr) (n' c':Nat) (w:World):Prop where
 c0:w.cell? ⟨B,0,none⟩=some (.int .i64 l)
 c1:w.cell? ⟨B,1,none⟩=some (.int .i64 o)
 c2:w.cell? ⟨B,2,none⟩=some (.slice a n c)
 c3:w.cell? ⟨B,3,none⟩=some (.slice a' n' c')
structure Two (R:Nat) (xs:List Int) (n:Nat) (w:World):Prop where
 r:Room R (xs.length+n) w
 c:∀j (h:j<xs.length),w.cell? ⟨R,j,none⟩=some (.int .i64 xs[j])
theorem two_one {R n:Nat} {xs:List Int} {w:World} (h:Room R (xs.length+n) w):Two R xs n (w.setCells R 0 (xs.map (.int .i64))).drew:=by
 have h1:=h.setCells (xs.map (.int .i64)) (o:=0) (by simp);refine⟨⟨h1.c,h1.fr⟩,fun j g=> ?_⟩
 have:=setCells_at (o:=0) (xs.map (.int .i64)) h.c (by simp) (j:=j) (by simpa using g);rw [Nat.zero_add] at this;refine Eq.trans ?_ (this.trans (by simp))
 rfl
theorem two_two {R:Nat} {xs ys:List Int} {w:World} (h:Two R xs ys.length w):RowI R (xs++ys) (w.setCells R xs.length (ys.map (.int .i64))):=by
 refine⟨fun j hj=> ?_,fun o=>by rw [World.frozen?_setCells];exact h.r.fr o⟩
 rw [List.length_append] at hj;by_cases g:j<xs.length
 ·rw [setCells_out _ (.inr (.inl g)),h.c j g];simp [List.getElem_append_left g]
 ·obtain⟨k,rfl⟩:∃k,j=xs.length+k:=⟨j - xs.length,by omega⟩;have:=setCells_at (o:=xs.length) (ys.map (.int .i64)) h.r.c (by simp) (j:=k) (by simp;omega);rw [this];simp [List.getElem_append_right]
theorem rngsB_len (b:Bk):(rngsB b).length=b.ents.length+b.pars.length:=by simp [rngsB]
theorem listedK_eq {b:Bk} {days sown:List Int} (h1:days.length=b.ents.length) (h2:sown.length=b.pars.length):listedK b days sown=(List.range (rngsB b).length).all (fun i=>inR ((days++sown).getD i 0) ((rngsB b).getD i default).1 ((rngsB b).getD i default).2):=by
 rw [Bool.eq_iff_iff];unfold listedK;rw [decide_eq_true h1,decide_eq_true h2,Bool.true_and,Bool.true_and,Bool.and_eq_true,List.all_eq_true,List.all_eq_true,List.all_eq_true,rngsB_len];simp only [List.mem_range]
 have hA:∀i,i<b.ents.length→(days++sown).getD i 0=days.getD i 0∧(rngsB b).getD i default=((b.ents.getD i default).dlo,(b.ents.getD i default).dhi):=fun i hi=>by
  have:i<days.length:=by omega
  simp [rngsB,List.getElem?_append_left,this,hi]
 have hB:∀i,i<b.pars.length→(days++sown).getD (b.ents.length+i) 0=sown.getD i 0∧(rngsB b).getD (b.ents.length+i) default=((b.pars.getD i default).slo,(b.pars.getD i default).shi):=fun i hi=>by
  have:i<sown.length:=by omega
  rw [←h1];simp [rngsB,List.getElem?_append_right,this,hi,h1]
 constructor
 ·rintro ⟨p, q⟩ i hi; by_cases h : i < b.ents.length
  ·rw [(hA i h).1,(hA i h).2];exact p i h
  ·obtain⟨k,rfl⟩:∃k,i=b.ents.length+k:=⟨i - b.ents.length,by omega⟩;rw [(hB k (by omega)).1,(hB k (by omega)).2];exact q k (by omega)
 ·intro p
  refine⟨fun i hi=> ?_,fun i hi=> ?_⟩
  ·have:=p i (by omega);rw [(hA i hi).1,(hA i hi).2] at this;exact this
  ·have:=p (b.ents.length+i) (by omega);rw [(hB i hi).1,(hB i hi).2] at this;exact this
end Go.Hs
namespace Go.Proofs.YtegkdnfeceomdaaGreat
open Go.RowKit Go.Hs
attribute [local irreducible] World.setCell World.alloc
theorem copy_ints (W:World) (R o n q:Nat) (xs:List Int) (a:Option Addr) (c:Nat) (hv:Hs.Rows IntAt 1 W a xs) (hc:∀j,j<xs.length→(W.cell? ⟨R,o+j,none⟩).isSome=true) (hf:∀o,W.frozen? ⟨R,o,none⟩=false) (hn:xs.length≤n) (p:Option Addr) (hp:xs.length≠0→p=some ⟨R,o,none⟩):
  (Builtin.copy_ #[22,22] 3 #[.slice p n q,.slice a xs.length c]).run Tryz.prog W= .ok (.int .i64 xs.length) (W.setCells R o (xs.map (.int .i64))):=by
 have hs:(Tryz.prog.info? 3).map (·.size)=some 1:=by
  obtain⟨i,hi,h0,h1,h2⟩:=info_parts info_int;rw [hi];exact congrArg some h1
 by_cases h0:xs.length=0
 ·have e:xs= []:=List.eq_nil_of_length_eq_zero h0;subst e;exact run_copy_none W _ _ _ 3 p a n q 0 c Tryz.underlying22 hs (by simp)
 ·obtain ⟨b, off, rfl, -⟩ := hv 0 (by omega); rw [hp h0]; have hm : (xs.map (Value.int .i64)).length = Nat.min xs.length n := by rw [List.length_map]; exact (Nat.min_eq_left hn).symm
  have:=run_copy_cells (P:=Tryz.prog) W 22 22 3 3 R o n q ⟨b,off,none⟩ xs.length c (xs.map (.int .i64)) Tryz.underlying22 hs hm
   (fun j u hj => by
    have hj':j<xs.length:=by
     rcases Nat.lt_or_ge j xs.length with h|h
     ·exact h
     ·rw [List.getElem?_eq_none (by simpa using h)] at hj;cases hj
    have h1:=(Rows.at hv j hj').1;rw [Nat.mul_one] at h1;rw [add_none'];simp [hj'] at hj
    rw [←hj];exact h1)
   (fun j hj=>hc j (by simpa using hj)) (fun j _=>hf _)
   (fun u hu=>by obtain⟨x,-,rfl⟩:=List.mem_map.1 hu;rfl)
  rw [List.length_map] at this;exact this
theorem listed_p (b : Bk) (v vd vs : Value) (days sown : List Int) (w : World) (hv : BkV w v b) (hd : IntsV w vd days) (hs : IntsV w vs sown) (h1 : days.length ≤ 1000) (h2 : sown.length ≤ 1000) :
    Calls Tryz.prog 162 #[v,.agg #[vd,vs]] w fun e w'=>e= .returned (.bool (listedK b days sown))∧Ext w w':=by
  have HRG:Hid (∀W v,BkV W v b→Calls Tryz.prog 138 #[v] W fun e w'=>∃a q,e= .returned (.slice a (rngsB b).length q)∧Hs.Own 2 rngC W.heap.size 123 w' (.slice a (rngsB b).length q) (rngsB b)∧Ext W w'):=hHd (fun W v h=>ranges_p b v W h);have HB:Hid (∀W,Ext w W→BkV W v b):=hHd (fun W hx=>hv.ext hx);obtain⟨a1,c1,a2,c2,rfl,-⟩:=hv.open;clear hv;obtain⟨ad,cd,rfl,hd1,hd2,hdr⟩:=hd;obtain⟨az,cs,rfl,hs1,hs2,hsr⟩:=hs;have HD:Hid (∀W,Ext w W→Hs.Rows IntAt 1 W ad days):=hHd (fun W hx=>hdr.ext (IntAt.ext hx));have HS:Hid (∀W,Ext w W→Hs.Rows IntAt 1 W az sown):=hHd (fun W hx=>hsr.ext (IntAt.ext hx));clear hdr hsr hd1 hs1 hd2 hs2;have w1:IntKind.i64.wrap ((days.length:Int)+(sown.length:Int))=((days.length+sown.length:Nat):Int):=by rw [IntWalk.i64_in _ (by omega)];omega
  have hmk:=run_make_row' (P:=Tryz.prog) 22 3 (.int .i64 0) 8 Tryz.underlying22 info_int rfl .i64 .i64 (days.length+sown.length) (by omega) (by omega);simp only [Int.natCast_add] at hmk;have hnn:days.length+sown.length≤2000:=by omega
  obtain⟨r,hr⟩:∃r,r=listedK b days sown:=⟨_,rfl⟩;have HLK:=hHd hr;rw [←hr];clear hr;unfold bkV at*;go_enter Tryz.func162,Tryz.ntmps162
  (go_wp2_with fail);have X0:Ext w (((w.alloc (.cells #[.int .i64 b.last,.int .i64 b.owners,.slice a1 b.pars.length c1,.slice a2 b.ents.length c2] 52)).alloc (.cells #[.slice ad days.length cd,.slice az sown.length cs] 59)).alloc (.cells (madeCells #[.int .i64 0] (days.length+sown.length)) 3)):=EX
  have HRM:Hid (Room (w.heap.size+1+1) (days.length+sown.length) (((w.alloc (.cells #[.int .i64 b.last,.int .i64 b.owners,.slice a1 b.pars.length c1,.slice a2 b.ents.length c2] 52)).alloc (.cells #[.slice ad days.length cd,.slice az sown.length cs] 59)).alloc (.cells (madeCells #[.int .i64 0] (days.length+sown.length)) 3))):=hHd ⟨fun j hj=>by
    have h0:=heap_alloc_new ((w.alloc (.cells #[.int .i64 b.last,.int .i64 b.owners,.slice a1 b.pars.length c1,.slice a2 b.ents.length c2] 52)).alloc (.cells #[.slice ad days.length cd,.slice az sown.length cs] 59)) (.cells (madeCells #[.int .i64 0] (days.length+sown.length)) 3);rw [World.size_alloc,World.size_alloc] at h0;have h:=cell_of_row _ _ j _ _ (0,0) h0;rw [h];simp [madeCells,hj],fun o=>by simp [go_sem]⟩
  have HBX:Hid (∀W,Ext ((w.alloc (.cells #[.int .i64 b.last,.int .i64 b.owners,.slice a1 b.pars.length c1,.slice a2 b.ents.length c2] 52)).alloc (.cells #[.slice ad days.length cd,.slice az sown.length cs] 59)) W→Box4 w.heap.size b.last b.owners a1 b.pars.length c1 a2 b.ents.length c2 W∧Box2 (w.heap.size+1) ad days.length cd az sown.length cs W):=hHd (fun W hx=>by
    refine⟨⟨hx.keep ?_,hx.keep ?_,hx.keep ?_,hx.keep ?_⟩,hx.keep ?_,hx.keep ?_⟩<;>simp [go_sem])
  have X2:Ext ((w.alloc (.cells #[.int .i64 b.last,.int .i64 b.owners,.slice a1 b.pars.length c1,.slice a2 b.ents.length c2] 52)).alloc (.cells #[.slice ad days.length cd,.slice az sown.length cs] 59)) (((w.alloc (.cells #[.int .i64 b.last,.int .i64 b.owners,.slice a1 b.pars.length c1,.slice a2 b.ents.length c2] 52)).alloc (.cells #[.slice ad days.length cd,.slice az sown.length cs] 59)).alloc (.cells (madeCells #[.int .i64 0] (days.length+sown.length)) 3)):=(Ext.refl _).alloc _;have hR:((w.alloc (.cells #[.int .i64 b.last,.int .i64 b.owners,.slice a1 b.pars.length c1,.slice a2 b.ents.length c2] 52)).alloc (.cells #[.slice ad days.length cd,.slice az sown.length cs] 59)).heap.size≤w.heap.size+1+1:=by simp
  have hw2:w.heap.size≤((w.alloc (.cells #[.int .i64 b.last,.int .i64 b.owners,.slice a1 b.pars.length c1,.slice a2 b.ents.length c2] 52)).alloc (.cells #[.slice ad days.length cd,.slice az sown.length cs] 59)).heap.size:=by simp;omega
  have hsz:w.heap.size+1+1+1≤(((w.alloc (.cells #[.int .i64 b.last,.int .i64 b.owners,.slice a1 b.pars.length c1,.slice a2 b.ents.length c2] 52)).alloc (.cells #[.slice ad days.length cd,.slice az sown.length cs] 59)).alloc (.cells (madeCells #[.int .i64 0] (days.length+sown.length)) 3)).heap.size:=by simp
  generalize (((w.alloc (.cells #[.int .i64 b.last,.int .i64 b.owners,.slice a1 b.pars.length c1,.slice a2 b.ents.length c2] 52)).alloc (.cells #[.slice ad days.length cd,.slice az sown.length cs] 59)).alloc (.cells (madeCells #[.int .i64 0] (days.length+sown.length)) 3))=W0 at*;generalize ((w.alloc (.cells #[.int .i64 b.last,.int .i64 b.owners,.slice a1 b.pars.length c1,.slice a2 b.ents.length c2] 52)).alloc (.cells #[.slice ad days.length cd,.slice az sown.length cs] 59))=V0 at*;clear hmk;obtain⟨R,hRR⟩:∃R,R=w.heap.size+1+1:=⟨_,rfl⟩;rw [←hRR] at HRM hR⊢;have hcp1:=copy_ints W0 R 0 (days.length+sown.length) (days.length+sown.length) days ad cd (HD.out _ X0) (fun j hj=>by rw [Nat.zero_add];exact HRM.out.c j (by omega)) HRM.out.fr (by omega) (some ⟨R,0,none⟩) (fun _=>rfl);have X3:Ext V0 (W0.setCells R 0 (days.map (.int .i64))):=Ext.setCells hR _ _ X2;have X4:Ext w (W0.setCells R 0 (days.map (.int .i64))):=Ext.setCells (by omega) _ _ X0;have HRM1:Hid (Two R days sown.length (W0.setCells R 0 (days.map (.int .i64))).drew):=hHd (two_one HRM.out)
  have hs6:R<(W0.setCells R 0 (days.map (.int .i64))).heap.size:=by
    rw [size_setCells];omega
  generalize W0.setCells R 0 (days.map (.int .i64))=W1 at*;obtain⟨⟨b0,b1,b2,b3⟩,t0,t1⟩:=HBX.out W1 X3;have hwR:w.heap.size≤R:=by omega
  have HRR:=hHd hRR;clear HRM X2 hRR;rw [hcp1];(go_wp2_with fail);clear hcp1;have X3:=X3.drew;have X4:=X4.drew;have g0:(0:Int)≤(days.length:Int):=by omega
  have g1:(days.length:Int)≤(days.length:Int)+(sown.length:Int):=by omega
  have g2:days.length+sown.length - days.length=sown.length:=by omega
  have HCP:Hid (∀p,(sown.length≠0→p=some ⟨R,days.length,none⟩)→(Builtin.copy_ #[22,22] 3 #[.slice p sown.length sown.length,.slice az sown.length cs]).run Tryz.prog W1.drew= .ok (.int .i64 sown.length) (W1.drew.setCells R days.length (sown.map (.int .i64)))):=hHd (fun p hp=>copy_ints _ R days.length sown.length sown.length sown az cs (HS.out _ X4) (fun j hj=>HRM1.out.r.c _ (by omega)) HRM1.out.r.fr (Nat.le_refl _) p hp);have HRL:Hid (RowI R (days++sown) (W1.drew.setCells R days.length (sown.map (.int .i64)))):=hHd (two_two HRM1.out);have X5:Ext V0 (W1.drew.setCells R days.length (sown.map (.int .i64))):=Ext.setCells hR _ _ X3;have X6:Ext w (W1.drew.setCells R days.length (sown.map (.int .i64))):=Ext.setCells (by omega) _ _ X4
  have hs7:R<(W1.drew.setCells R days.length (sown.map (.int .i64))).heap.size:=by
    rw [size_setCells];exact hs6
  generalize W1.drew.setCells R days.length (sown.map (.int .i64))=W2 at*;obtain⟨⟨d0,d1,d2,d3⟩,u0,u1⟩:=HBX.out W2 X5;clear X3 X4 hs6;have hcp:=HCP.out (if sown= [] then some ⟨R,0,none⟩ else some ⟨R,days.length,none⟩) (fun h=>if_neg (fun e=>h (by rw [e];rfl)));clear HCP;go_region;clear g2 hcp;generalize (if sown= [] then some (⟨R,0,none⟩:Addr) else some ⟨R,days.length,none⟩)=pz;by_cases e1:days.length=b.ents.length
  by_cases e2:sown.length=b.pars.length
  · have z1 : ((days.length : Int) != (b.ents.length : Int)) = false := by rw [e1]; simp
    have z2:((sown.length:Int) !=(b.pars.length:Int))=false:=by rw [e2];simp
    have HP:=hHd (HLK.out.trans (listedK_eq e1 e2));have HLN:=hHd (rngsB_len b);have E1:=hHd e1;have E2:=hHd e2;have HLL:Hid ((rngsB b).length=(days++sown).length):=hHd (by rw [HLN.out,List.length_append,e1,e2]);clear e1 e2;clear HLK;have HBW:=hHd (HB.out W2 X6);clear HB;(go_wp2_with fail);(with_reducible refine(HRG.out _ _ HBW.out).mono ?_);rintro e w5 ⟨al,ql,rfl,hown,hx5⟩;have HO:=hHd hown;have X7:Ext w w5:=X6.trans hx5;have HRV:Hid (RowI R (days++sown) w5):=hHd (HRL.out.ext hs7 hx5);have hs8:R<w5.heap.size:=Nat.lt_of_lt_of_le hs7 hx5.size;clear hown hx5 HRL HRG HBW X5 X6 d0 d1 d2 d3 u0 u1 b0 b1 b2 b3 t0 t1 HRM1;generalize rngsB b=rs at*;generalize hl:days++sown=l at*;have hll:l.length=days.length+sown.length:=by rw [←hl,List.length_append]
    clear hl;have hle:rs.length≤days.length+sown.length:=by have:=HLL.out;omega
    (go_wp2_with fail);go_loopw [47] (fun s47 wr=>∃k:Nat,k≤rs.length∧s47= .int .i64 k∧Hid (∀j,j<k→inR (l.getD j 0) (rs.getD j default).1 (rs.getD j default).2=true)∧Ext w5 wr) (fun s _=>rs.length - (intOf s).toNat)
    case atStart=>exact⟨0,Nat.zero_le _,rfl,hHd (fun j hj=>absurd hj (Nat.not_lt_zero _)),Ext.refl _⟩
    case round =>
      obtain⟨k,hk,rfl,HJ,hx⟩:=hrel;obtain⟨wo,rfl⟩:∃x,x=wr:=⟨_,rfl⟩;by_cases hlt:k<rs.length
      · obtain ⟨g, rfl, -, -, hc⟩ := Hs.Own.at rngC_len HO.out hlt; have m0 := hx.keep (hc 0 _ rfl); have m1 := hx.keep (hc 1 _ rfl); simp only [Nat.add_zero] at m0; have v0 := hx.keep (HRV.out.c k (by omega)); have HX1 : Hid (l.getD k 0 = l[k]'(by omega)) := hHd (by simp [show k < l.length by omega]); have HX2 : Hid (rs.getD k default = rs[k]) := hHd (by simp [hlt]); generalize l[k]'(by omega) = x at *; generalize rs[k] = rr at *; obtain ⟨lo, hi⟩ := rr; simp only at m0 m1; clear hc; have hk0 : (0 : Int) ≤ (k : Int) := by omega
        have hk1:(k:Int)<(rs.length:Int):=by omega
        have hk2:(k:Int)<((days.length+sown.length:Nat):Int):=by omega
        have hk3:(k:Int)<(days.length:Int)+(sown.length:Int):=by omega
        have HIN:Hid (inR (l.getD k 0) (rs.getD k default).1 (rs.getD k default).2=inR x lo hi):=hHd (by rw [HX1.out,HX2.out]);have HHS:=hHd (has_p lo hi x);clear HX1 HX2;cases hq:inR x lo hi with
        | true =>
          rw [hq] at HIN HHS;clear hq;(go_wp2_with fail);have y0:(wo.alloc (.cells #[.int .i64 lo,.int .i64 hi] 123)).cell? ⟨wo.heap.size,0,none⟩=some (.int .i64 lo):=by simp [go_sem]
          have y1:(wo.alloc (.cells #[.int .i64 lo,.int .i64 hi] 123)).cell? ⟨wo.heap.size,1,none⟩=some (.int .i64 hi):=by simp [go_sem]
          have v0:(wo.alloc (.cells #[.int .i64 lo,.int .i64 hi] 123)).cell? ⟨R,k,none⟩=some (.int .i64 x):=((Ext.refl _).alloc _).keep v0;have hx8:=hx.alloc (.cells #[.int .i64 lo,.int .i64 hi] 123);generalize wo.alloc (.cells #[.int .i64 lo,.int .i64 hi] 123)=w6 at*;refine wp_region_quiet (C:=Ext w6) (by kernel_rfl) (by kernel_rfl) (Ext.drew EX) ?_
          rw [tl]
          repeat (first
            |go_big_quiet_skip
            | (go_big_quiet_want
               first
                |(go_big_quiet_op;go_big_quiet_on)
                | (apply Exists.intro
                   refine⟨fun w' hxw=> ?_,?_⟩
                   focus (have y0:=hxw.keep y0;have y1:=hxw.keep y1;have v0:=hxw.keep v0;go_simp;first|exact rfl|(with_reducible refine(HHS.out w').mono ?_;exact fun e w'' h=>⟨h.1,hxw.trans h.2⟩))
                   simp only [Act.put,List.setIfInBounds_toArray,List.set_cons_zero,List.set_cons_succ];go_big_quiet_on)))
          refine wpQuiet_nil ?_
          intro w2 hx2
          have X9:=hx8.trans hx2;clear hx2 y0 y1 v0;(go_wp2_with fail);go_roundw
          case rel=>exact⟨k+1,by omega,by go_num,hHd (fun j hj=>by
            by_cases e:j=k
            · rw [e];exact HIN.out
            · exact HJ.out j (by omega)),X9⟩
          case measure=>simp [intOf];omega
        | false =>
          rw [hq] at HIN HHS;clear hq
          obtain rfl:r=false:=by
            rw [HP.out,List.all_eq_false];exact⟨k,by simp [hlt],by rw [HIN.out];simp⟩
          (go_wp2_with fail);have y0:(wo.alloc (.cells #[.int .i64 lo,.int .i64 hi] 123)).cell? ⟨wo.heap.size,0,none⟩=some (.int .i64 lo):=by simp [go_sem]
          have y1:(wo.alloc (.cells #[.int .i64 lo,.int .i64 hi] 123)).cell? ⟨wo.heap.size,1,none⟩=some (.int .i64 hi):=by simp [go_sem]
          have v0:(wo.alloc (.cells #[.int .i64 lo,.int .i64 hi] 123)).cell? ⟨R,k,none⟩=some (.int .i64 x):=((Ext.refl _).alloc _).keep v0;have hx8:=hx.alloc (.cells #[.int .i64 lo,.int .i64 hi] 123);generalize wo.alloc (.cells #[.int .i64 lo,.int .i64 hi] 123)=w6 at*;refine wp_region_quiet (C:=Ext w6) (by kernel_rfl) (by kernel_rfl) (Ext.drew EX) ?_
          rw [tl]
          repeat (first
            |go_big_quiet_skip
            | (go_big_quiet_want
               first
                |(go_big_quiet_op;go_big_quiet_on)
                | (apply Exists.intro
                   refine⟨fun w' hxw=> ?_,?_⟩
                   focus (have y0:=hxw.keep y0;have y1:=hxw.keep y1;have v0:=hxw.keep v0;go_simp;first|exact rfl|(with_reducible refine(HHS.out w').mono ?_;exact fun e w'' h=>⟨h.1,hxw.trans h.2⟩))
                   simp only [Act.put,List.setIfInBounds_toArray,List.set_cons_zero,List.set_cons_succ];go_big_quiet_on)))
          refine wpQuiet_nil ?_
          intro w2 hx2
          have X9:=hx8.trans hx2;clear hx2 y0 y1 v0;(go_wp2_with fail);go_ret;exact⟨by rfl,X7.trans X9⟩
      · obtain rfl : k = rs.length := by omega
        obtain rfl:r=true:=by
          rw [HP.out,List.all_eq_true];intro j hj
          exact HJ.out j (by simpa using hj)
        (go_wp2_with fail);go_ret;exact⟨rfl,X7.trans hx⟩
  · have z1 : ((days.length : Int) != (b.ents.length : Int)) = false := by rw [e1]; simp
    have z2:((sown.length:Int) !=(b.pars.length:Int))=true:=by rw [bne_iff_ne];omega
    have HF:Hid (r=false):=hHd (by rw [HLK.out];unfold listedK;rw [decide_eq_false e2];simp);obtain rfl:r=false:=HF.out;clear HF HLK e1 e2;(go_wp2_with fail);go_ret;exact⟨rfl,X6⟩
  · have z1 : ((days.length : Int) != (b.ents.length : Int)) = true := by rw [bne_iff_ne]; omega
    have HF:Hid (r=false):=hHd (by rw [HLK.out];unfold listedK;rw [decide_eq_false e1];simp);obtain rfl:r=false:=HF.out;clear HF HLK e1;(go_wp2_with fail);go_ret;exact⟨rfl,X6⟩
abbrev fdVal (x:Hs.Fd):Value:= .agg #[.bool x.there,.bool x.gone,.int .i64 x.owner,.int .i64 x.value,.int .i64 x.sown]
theorem covered_p (x : Hs.Fd) (day : Int) (w : World) : Calls Tryz.prog 118 #[fdVal x, .int .i64 day] w fun e w' => e = .returned (.bool (x.covers day)) ∧ Ext w w' := by
  have HC:Hid (x.covers day=(x.there&&(!x.gone&&decide (x.sown≤day)))):=rfl;generalize x.covers day=r at*;obtain⟨th,go,ow,va,so⟩:=x;unfold fdVal;simp only at HC⊢;cases th with
  | false =>
    obtain rfl:r=false:=HC.out;clear HC;go_enter Tryz.func118,Tryz.ntmps118
    (go_wp2_with fail);go_ret;exact⟨rfl,EX⟩
  | true =>
    cases go with
    | true =>
      obtain rfl:r=false:=HC.out;clear HC;go_enter Tryz.func118,Tryz.ntmps118
      (go_wp2_with fail);go_ret;exact⟨rfl,EX⟩
    | false =>
      by_cases h:so≤day
      · have hd : decide (so ≤ day) = true := decide_eq_true h; obtain rfl : r = true := by rw [HC.out, hd]; rfl
        clear HC;go_enter Tryz.func118,Tryz.ntmps118
        (go_wp2_with fail);go_ret;exact⟨rfl,EX⟩
      · have hd : decide (so ≤ day) = false := decide_eq_false h; obtain rfl : r = false := by rw [HC.out, hd]; rfl
        clear HC;go_enter Tryz.func118,Tryz.ntmps118
        (go_wp2_with fail);go_ret;exact⟨rfl,EX⟩
end Go.Proofs.YtegkdnfeceomdaaGreat
