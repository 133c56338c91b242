/- Bundled: what the texts JT SA SE HA say one after another. -/
import Derived.Test.YtegkdnfeceomdaaGreatKDA10
import Derived.Deep.AppendLies
import Derived.Test.YtegkdnfeceomdaaGreatKDA4
import Derived.Test.YtegkdnfeceomdaaGreatKDA1
import Derived.Test.YtegkdnfeceomdaaGreatKDA5
set_option maxRecDepth 100000
set_option maxHeartbeats 16000000
set_option linter.unusedSimpArgs false
set_option linter.unusedVariables false
namespace Go.Hs
open Go.RowKit
def playK (b:Bk) (days sown:List Int) (day:Int):Int:=
 if bookE b≠0 then bookE b else if listedK b days sown&&dayB b day then (if (playB b days sown day.toNat (fun _=>false)).isSome then 0 else 11) else 2
theorem bks_of {b:Bk} (h:bookE b=0):BkS b:=by
 unfold bookE at h;split at h
 ·cases h
 ·split at h
  ·rename_i h1 h2
   simp only [Bool.and_eq_true,decide_eq_true_eq,inR_iff,List.all_eq_true] at h2;exact⟨by omega,by omega,by omega,h2.1,h2.2.2.1,h2.2.2.2⟩
  ·cases h
theorem dayB_iff {b:Bk} {n:Int} :dayB b n=true↔0≤n∧n≤b.last:=inR_iff
theorem listed_lenK {b:Bk} {days sown:List Int} (h:listedK b days sown=true):days.length=b.ents.length∧sown.length=b.pars.length:=by
 unfold listedK at h;simp only [Bool.and_eq_true,decide_eq_true_eq] at h;exact⟨h.1,h.2.1⟩
def holdC (day:Int) (x:Hs.Fd):List Value:= [.bool x.there,.bool (x.covers day),.int .i64 x.owner,.int .i64 x.value]
theorem holdC_len (day:Int) (x:Hs.Fd):(holdC day x).length=4:=rfl
theorem cells_four {w wa:World} {b:Nat} {x y z u:Value} {t:TypeId} (h:Ext (w.alloc (.cells #[x,y,z,u] t)) wa) (hb:b=w.heap.size):∀j v,([x,y,z,u]:List Value)[j]?=some v→wa.cell? ((⟨b,0,none⟩:Addr).add j)=some v:=by
 subst hb;intro j v hj
 have e:∀j,(⟨w.heap.size,0,none⟩:Addr).add j=⟨w.heap.size,j,none⟩:=fun j=>by unfold Addr.add;split<;>simp_all
 rw [e];rcases j with _|_|_|_|j
 all_goals first
  |(simp at hj;subst hj;exact h.keep (by simp [go_sem]))
  |(simp at hj)
end Go.Hs
namespace Go.Proofs.YtegkdnfeceomdaaGreat
open Go.RowKit Go.Hs
attribute [local irreducible] World.setCell World.alloc
theorem rowf_new (w:World):RowF w.heap.size (fun _=>Hs.Fd.zero) (w.alloc (.cells #[.bool false,.bool false,.int .i64 0,.int .i64 0,.int .i64 0,.bool false,.bool false,.int .i64 0,.int .i64 0,.int .i64 0,.bool false,.bool false,.int .i64 0,.int .i64 0,.int .i64 0,.bool false,.bool false,.int .i64 0,.int .i64 0,.int .i64 0,.bool false,.bool false,.int .i64 0,.int .i64 0,.int .i64 0,.bool false,.bool false,.int .i64 0,.int .i64 0,.int .i64 0,.bool false,.bool false,.int .i64 0,.int .i64 0,.int .i64 0,.bool false,.bool false,.int .i64 0,.int .i64 0,.int .i64 0,.bool false,.bool false,.int .i64 0,.int .i64 0,.int .i64 0,.bool false,.bool false,.int .i64 0,.int .i64 0,.int .i64 0] 198)):=⟨range_fds (fun i hi=>by
  rcases i with _|_|_|_|_|_|_|_|_|_|i
  all_goals first|omega|exact⟨by simp [go_sem,Hs.Fd.zero],by simp [go_sem,Hs.Fd.zero],by simp [go_sem,Hs.Fd.zero],by simp [go_sem,Hs.Fd.zero],by simp [go_sem,Hs.Fd.zero]⟩),fun o=>by simp [go_sem]⟩
theorem store_new (g:Fds) (w:World):(storeCells ⟨w.heap.size,0,none⟩ (fdsL g)).run Tryz.prog (w.alloc (.cells #[.bool false,.bool false,.int .i64 0,.int .i64 0,.int .i64 0,.bool false,.bool false,.int .i64 0,.int .i64 0,.int .i64 0,.bool false,.bool false,.int .i64 0,.int .i64 0,.int .i64 0,.bool false,.bool false,.int .i64 0,.int .i64 0,.int .i64 0,.bool false,.bool false,.int .i64 0,.int .i64 0,.int .i64 0,.bool false,.bool false,.int .i64 0,.int .i64 0,.int .i64 0,.bool false,.bool false,.int .i64 0,.int .i64 0,.int .i64 0,.bool false,.bool false,.int .i64 0,.int .i64 0,.int .i64 0,.bool false,.bool false,.int .i64 0,.int .i64 0,.int .i64 0,.bool false,.bool false,.int .i64 0,.int .i64 0,.int .i64 0] 198))= .ok () ((w.alloc (.cells #[.bool false,.bool false,.int .i64 0,.int .i64 0,.int .i64 0,.bool false,.bool false,.int .i64 0,.int .i64 0,.int .i64 0,.bool false,.bool false,.int .i64 0,.int .i64 0,.int .i64 0,.bool false,.bool false,.int .i64 0,.int .i64 0,.int .i64 0,.bool false,.bool false,.int .i64 0,.int .i64 0,.int .i64 0,.bool false,.bool false,.int .i64 0,.int .i64 0,.int .i64 0,.bool false,.bool false,.int .i64 0,.int .i64 0,.int .i64 0,.bool false,.bool false,.int .i64 0,.int .i64 0,.int .i64 0,.bool false,.bool false,.int .i64 0,.int .i64 0,.int .i64 0,.bool false,.bool false,.int .i64 0,.int .i64 0,.int .i64 0] 198)).setCells w.heap.size 0 (fdsL g)):=by
 have hr:=rowf_new w;generalize w.alloc (.cells #[.bool false,.bool false,.int .i64 0,.int .i64 0,.int .i64 0,.bool false,.bool false,.int .i64 0,.int .i64 0,.int .i64 0,.bool false,.bool false,.int .i64 0,.int .i64 0,.int .i64 0,.bool false,.bool false,.int .i64 0,.int .i64 0,.int .i64 0,.bool false,.bool false,.int .i64 0,.int .i64 0,.int .i64 0,.bool false,.bool false,.int .i64 0,.int .i64 0,.int .i64 0,.bool false,.bool false,.int .i64 0,.int .i64 0,.int .i64 0,.bool false,.bool false,.int .i64 0,.int .i64 0,.int .i64 0,.bool false,.bool false,.int .i64 0,.int .i64 0,.int .i64 0,.bool false,.bool false,.int .i64 0,.int .i64 0,.int .i64 0] 198)=W at*
 exact run_storeCells_cells (P:=Tryz.prog) w.heap.size 0 (fdsL g) 0 W (fun j hj=>by
  rw [fdsL_len] at hj;have:=(hr.there j hj).1;rwa [Nat.add_zero,Nat.zero_add] at*) (fun j _=>hr.fr _) (fdsL_one g)
theorem rowf_put (g:Fds) (w:World):RowF w.heap.size g ((w.alloc (.cells #[.bool false,.bool false,.int .i64 0,.int .i64 0,.int .i64 0,.bool false,.bool false,.int .i64 0,.int .i64 0,.int .i64 0,.bool false,.bool false,.int .i64 0,.int .i64 0,.int .i64 0,.bool false,.bool false,.int .i64 0,.int .i64 0,.int .i64 0,.bool false,.bool false,.int .i64 0,.int .i64 0,.int .i64 0,.bool false,.bool false,.int .i64 0,.int .i64 0,.int .i64 0,.bool false,.bool false,.int .i64 0,.int .i64 0,.int .i64 0,.bool false,.bool false,.int .i64 0,.int .i64 0,.int .i64 0,.bool false,.bool false,.int .i64 0,.int .i64 0,.int .i64 0,.bool false,.bool false,.int .i64 0,.int .i64 0,.int .i64 0] 198)).setCells w.heap.size 0 (fdsL g)):=(rowf_new w).put
theorem fds_new (f:Fds) (w:World):∃W,(storeCells ⟨w.heap.size,0,none⟩ (fdsL f)).run Tryz.prog (w.alloc (.cells #[.bool false,.bool false,.int .i64 0,.int .i64 0,.int .i64 0,.bool false,.bool false,.int .i64 0,.int .i64 0,.int .i64 0,.bool false,.bool false,.int .i64 0,.int .i64 0,.int .i64 0,.bool false,.bool false,.int .i64 0,.int .i64 0,.int .i64 0,.bool false,.bool false,.int .i64 0,.int .i64 0,.int .i64 0,.bool false,.bool false,.int .i64 0,.int .i64 0,.int .i64 0,.bool false,.bool false,.int .i64 0,.int .i64 0,.int .i64 0,.bool false,.bool false,.int .i64 0,.int .i64 0,.int .i64 0,.bool false,.bool false,.int .i64 0,.int .i64 0,.int .i64 0,.bool false,.bool false,.int .i64 0,.int .i64 0,.int .i64 0] 198))= .ok () W∧RowF w.heap.size f W∧Ext w W∧W.heap.size=w.heap.size+1:=
 ⟨_,store_new f w,rowf_put f w,Ext.setCells (R:=w.heap.size) (Nat.le_refl _) (fdsL f) 0 ((Ext.refl w).alloc _),by rw [size_setCells];simp⟩
theorem step_is_app' {P:Program} {w:World} {ops:Array Oper} {o:Oper} {a:Act} {K:Act→World→Prop} {Q:Exit→Act→World→Prop} {E:Prop} (s x:Operand) (t:TypeId)
  (_:o.op= .call { callee:= .builtin .append,args:= #[s,x],argTypes:= #[t,t] }) (h:if Region.wanted o (yielded ops a.tmps)=true then Oper.wp P o a w K Q else E):if Region.wanted o (yielded ops a.tmps)=true then Oper.wp P o a w K Q else E:=h
theorem own_extR {W W':World} {B e k n:Nat} {v:Value} {us:List Value} (h:W.ownsRow B e k v n us) (hx:Ext W W'):W'.ownsRow B e k v n us:=own_keep h (fun _ hg=>hx.heap (own_lt h hg).2)
theorem le_extR {W W':World} {n:Nat} (h:n≤W.heap.size) (hx:Ext W W'):n≤W'.heap.size:=Nat.le_trans h hx.size
theorem info_hold:(Tryz.prog.info? 211).map (fun i=>(i.zero,i.size,i.bytes))=some (some (.agg #[.bool false,.bool false,.int .i64 0,.int .i64 0]),4,24):=by kernel_rfl
theorem Play_pbad (b : Bk) (v vd vs : Value) (days sown : List Int) (day : Int) (w : World) (hv : BkV w v b) (hd : IntsV w vd days) (hs : IntsV w vs sown) (h1 : days.length ≤ 1000) (h2 : sown.length ≤ 1000) (hE : playK b days sown day ≠ 0) :
    Calls Tryz.prog 128 #[v,.agg #[vd,vs],.int .i64 day] w fun e w'=>e= .returned (.tuple #[.slice none 0 0,.int .i64 (playK b days sown day)])∧Ext w w':=by
  obtain⟨r,hr⟩:∃r,r=playK b days sown day:=⟨_,rfl⟩;rw [←hr] at hE⊢;have HE:Hid (r=if bookE b≠0 then bookE b else if listedK b days sown&&dayB b day then (if (playB b days sown day.toNat (fun _=>false)).isSome then 0 else 11) else 2):=hHd (by rw [hr];rfl);clear hr;have HCK:Hid (∀W,Ext w W→Calls Tryz.prog 80 #[v] W fun e w'=>e= .returned (.int .i64 (bookE b))∧Ext W w'):=hHd (fun W hx=>check_p b v W (hv.ext hx));have HLS:Hid (∀W,Ext w W→Calls Tryz.prog 162 #[v,.agg #[vd,vs]] W fun e w'=>e= .returned (.bool (listedK b days sown))∧Ext W w'):=hHd (fun W hx=>listed_p b v vd vs days sown W (hv.ext hx) (hd.ext hx) (hs.ext hx) h1 h2);have HDY:Hid (∀W,Ext w W→Calls Tryz.prog 154 #[v,.int .i64 day] W fun e w'=>e= .returned (.bool (dayB b day))∧Ext W w'):=hHd (fun W hx=>day_p b v day W (hv.ext hx))
  have HPL:Hid (bookE b=0→listedK b days sown=true→dayB b day=true→∀W,Ext w W→Calls Tryz.prog 163 #[v,.agg #[vd,vs],.int .i64 day,.slice none 0 0] W fun e w'=>(∃g,e= .returned (.tuple #[.agg (fdsL g).toArray,.bool (playB b days sown day.toNat (fun _=>false)).isSome])∧∀f,playB b days sown day.toNat (fun _=>false)=some f→g=f)∧Ext W w'):=hHd (fun h0 hl hdy W hx=>by
    obtain⟨a1,c1,a2,c2,rfl,-⟩:=hv.open;have hdb:=dayB_iff.1 hdy;have:=play_p b (bks_of h0) a1 a2 c1 c2 vd vs (.slice none 0 0) days sown [] day.toNat W (hv.ext hx) (hd.ext hx) (hs.ext hx) ⟨none,0,rfl,Nat.le_refl _,by simp,fun i hi=>absurd hi (Nat.not_lt_zero _)⟩ (listed_lenK hl).1 (listed_lenK hl).2 (by omega);rw [show (day.toNat:Int)=day by omega] at this;simpa using this)
  obtain⟨a1,c1,a2,c2,rfl,-⟩:=hv.open;clear hv h1 h2;obtain⟨a3,c3,rfl,-⟩:=hd;obtain⟨a4,c4,rfl,-⟩:=hs;unfold bkV at*;generalize bookE b=eb at*;generalize listedK b days sown=l at*;generalize dayB b day=dy at*;generalize playB b days sown day.toNat (fun _=>false)=pl at*;generalize days.length=n3 at*;generalize sown.length=n4 at*;generalize b.pars.length=n1 at*;generalize b.ents.length=n2 at*;generalize b.last=last at*;generalize b.owners=owners at*;clear days sown b;go_enter Tryz.func128,Tryz.ntmps128
  (go_wp2_with fail);obtain⟨W,hW,X,HS,HSf,HSz⟩:=bx4_2 w 52 (.int .i64 last) (.int .i64 owners) (.slice a1 n1 c1) (.slice a2 n2 c2) 59 (.slice a3 n3 c3) (.slice a4 n4 c4);rw [hW];clear hW;(with_reducible refine(HCK.out _ X).mono ?_);rintro e w1 ⟨rfl,hx1⟩;obtain⟨⟨q0,q1,q2,q3,t0,t1⟩,-⟩:=HS.out w1 hx1;by_cases h0:eb=0
  · have hb : (eb != 0) = false := by rw [h0]; rfl
    have X1:=X.trans hx1;have HB:=hHd h0;have HPL:=hHd (HPL.out h0);have HE:Hid (r=if (l&&dy)=true then if pl.isSome=true then 0 else 11 else 2):=hHd (by rw [HE.out,if_neg (fun h=>h HB.out)]);clear HCK h0;cases l with
    | false =>
      obtain rfl:r=2:=HE.out;clear HE HPL HDY hE;(go_wp2_with fail);(with_reducible refine(HLS.out _ X1).mono ?_);rintro e w2 ⟨rfl,hx2⟩;have X2:=X1.trans hx2;clear hx2 HLS q0 q1 q2 q3 t0 t1;(go_wp2_with fail);go_ret2;exact⟨rfl,X2⟩
    | true =>
      (go_wp2_with fail);(with_reducible refine(HLS.out _ X1).mono ?_);rintro e w2 ⟨rfl,hx2⟩;have X2:=X1.trans hx2;have HPL:=hHd (HPL.out (by first|rfl|trivial));obtain⟨⟨q0,q1,q2,q3,t0,t1⟩,-⟩:=HS.out w2 (hx1.trans hx2);have hx1:=hx1.trans hx2;clear hx2 HLS;cases dy with
      | false =>
        obtain rfl:r=2:=HE.out;clear HE HPL hE;(go_wp2_with fail);(with_reducible refine(HDY.out _ X2).mono ?_);rintro e w3 ⟨rfl,hx3⟩;have X3:=X2.trans hx3;clear hx3 HDY q0 q1 q2 q3 t0 t1;(go_wp2_with fail);go_ret2;exact⟨rfl,X3⟩
      | true =>
        (go_wp2_with fail);(with_reducible refine(HDY.out _ X2).mono ?_);rintro e w3 ⟨rfl,hx3⟩;have X3:=X2.trans hx3;obtain⟨⟨q0,q1,q2,q3,t0,t1⟩,-⟩:=HS.out w3 (hx1.trans hx3);have hx1:=hx1.trans hx3;have HPL:=hHd (HPL.out (by first|rfl|trivial));clear hx3 HDY
        have hps:pl.isSome=false:=by
          cases hq:pl.isSome with
          |false=>rfl
          |true=>exact absurd (by rw [HE.out,hq];rfl) hE
        obtain rfl:r=11:=by rw [HE.out,hps];rfl
        rw [hps] at HPL;clear HE hE hps;(go_wp2_with fail);(with_reducible refine(HPL.out _ X3).mono ?_);rintro e w4 ⟨⟨g,rfl,-⟩,hx4⟩;have X4:=X3.trans hx4;clear hx4 HPL q0 q1 q2 q3 t0 t1;obtain⟨w5,hst,-,x5,-⟩:=fds_new g w4;have X5:=X4.trans x5;clear x5;(go_wp2_with fail);go_ret2;exact⟨rfl,X5⟩
  · have hb : (eb != 0) = true := by rw [bne_iff_ne]; exact h0
    obtain rfl:r=eb:=by rw [HE.out,if_pos h0]
    have X1:=X.trans hx1;clear h0 HCK HLS HDY HPL HE hE;(go_wp2_with fail);go_ret2;exact⟨rfl,X1⟩
theorem Play_pgood (b:Bk) (v vd vs:Value) (days sown:List Int) (day:Int) (w:World) (hv:BkV w v b) (hd:IntsV w vd days) (hs:IntsV w vs sown) (h1:days.length≤1000) (h2:sown.length≤1000) (hE:playK b days sown day=0):
  Calls Tryz.prog 128 #[v,.agg #[vd,vs],.int .i64 day] w fun e w'=>∃f a q,playB b days sown day.toNat (fun _=>false)=some f∧e= .returned (.tuple #[.slice a (numsB b) q,.int .i64 0])∧Hs.Own 4 (holdC day) w.heap.size 211 w' (.slice a (numsB b) q) ((List.range (numsB b)).map f)∧Ext w w':=by
 obtain⟨i1,hi1,hz10,hz11,hz12⟩:=info_parts info_hold
 have h0:bookE b=0:=by
  by_cases h:bookE b=0
  ·exact h
  ·unfold playK at hE;rw [if_pos h] at hE;exact absurd hE h
 have hll:(listedK b days sown&&dayB b day)=true:=by
  cases hq:(listedK b days sown&&dayB b day) with
  |true=>rfl
  |false=>unfold playK at hE;rw [if_neg (by simp [h0]),hq] at hE;simp at hE
 rw [Bool.and_eq_true] at hll
 obtain⟨f,hf⟩:∃f,playB b days sown day.toNat (fun _=>false)=some f:=by
  cases hq:playB b days sown day.toNat (fun _=>false) with
  |some f=>exact⟨f,rfl⟩
  |none=>unfold playK at hE;rw [if_neg (by simp [h0]),hll.1,hll.2,hq] at hE;simp at hE
 have HCK:Hid (∀W,Ext w W→Calls Tryz.prog 80 #[v] W fun e w'=>e= .returned (.int .i64 0)∧Ext W w'):=hHd (fun W hx=>h0 ▸ check_p b v W (hv.ext hx));have HLS:Hid (∀W,Ext w W→Calls Tryz.prog 162 #[v,.agg #[vd,vs]] W fun e w'=>e= .returned (.bool true)∧Ext W w'):=hHd (fun W hx=>hll.1 ▸ listed_p b v vd vs days sown W (hv.ext hx) (hd.ext hx) (hs.ext hx) h1 h2);have HDY:Hid (∀W,Ext w W→Calls Tryz.prog 154 #[v,.int .i64 day] W fun e w'=>e= .returned (.bool true)∧Ext W w'):=hHd (fun W hx=>hll.2 ▸ day_p b v day W (hv.ext hx));have HNM:Hid (∀W,Ext w W→Calls Tryz.prog 164 #[v] W fun e w'=>e= .returned (.int .i64 (numsB b))∧Ext W w'):=hHd (fun W hx=>numbers_p b v W (hv.ext hx))
 have HPL:Hid (∀W,Ext w W→Calls Tryz.prog 163 #[v,.agg #[vd,vs],.int .i64 day,.slice none 0 0] W fun e w'=>e= .returned (.tuple #[.agg (fdsL f).toArray,.bool true])∧Ext W w'):=hHd (fun W hx=>by
  obtain⟨a1,c1,a2,c2,rfl,-⟩:=hv.open;have hdb:=dayB_iff.1 hll.2;have:=play_p b (bks_of h0) a1 a2 c1 c2 vd vs (.slice none 0 0) days sown [] day.toNat W (hv.ext hx) (hd.ext hx) (hs.ext hx) ⟨none,0,rfl,Nat.le_refl _,by simp,fun i hi=>absurd hi (Nat.not_lt_zero _)⟩ (listed_lenK hll.1).1 (listed_lenK hll.1).2 (by omega);rw [show (day.toNat:Int)=day by omega] at this;refine this.mono ?_
  rintro e w' ⟨⟨g,rfl,hg⟩,hx'⟩;have hfe:(fun i:Nat=>decide ((i:Int)∈([]:List Int)))=fun _=>false:=by funext i;simp
  rw [hfe] at hg;rw [hfe,hf,hg f hf];exact⟨rfl,hx'⟩)
 have HFF:=hHd hf;have hn10:numsB b≤10:=nums_ten (bks_of h0) _;have HCV:Hid (∀x W,Calls Tryz.prog 118 #[fdVal x,.int .i64 day] W fun e w'=>e= .returned (.bool (x.covers day))∧Ext W w'):=hHd (fun x W=>covered_p x day W);obtain⟨a1,c1,a2,c2,rfl,-⟩:=hv.open;clear hv h1 h2 h0 hll hE hf;obtain⟨a3,c3,rfl,-⟩:=hd;obtain⟨a4,c4,rfl,-⟩:=hs;unfold bkV at*;generalize playB b days sown day.toNat (fun _=>false)=pl at*;generalize days.length=n3 at*;generalize sown.length=n4 at*;generalize b.pars.length=n1 at*;generalize b.ents.length=n2 at*;generalize b.last=last at*;generalize b.owners=owners at*;generalize numsB b=N at*;clear days sown b;go_enter Tryz.func128,Tryz.ntmps128
 (go_wp2_with fail);obtain⟨W,hW,X,HS,HSf,HSz⟩:=bx4_2 w 52 (.int .i64 last) (.int .i64 owners) (.slice a1 n1 c1) (.slice a2 n2 c2) 59 (.slice a3 n3 c3) (.slice a4 n4 c4);rw [hW];clear hW;(with_reducible refine(HCK.out _ X).mono ?_);rintro e w1 ⟨rfl,hx1⟩;obtain⟨⟨q0,q1,q2,q3,t0,t1⟩,-⟩:=HS.out w1 hx1;have X1:=X.trans hx1;clear HCK;(go_wp2_with fail);(with_reducible refine(HLS.out _ X1).mono ?_);rintro e w2 ⟨rfl,hx2⟩;clear q0 q1 q2 q3 t0 t1;obtain⟨⟨q0,q1,q2,q3,t0,t1⟩,-⟩:=HS.out w2 (hx1.trans hx2);replace hx1:=hx1.trans hx2;have X2:=X1.trans hx2;clear hx2 HLS X1;(go_wp2_with fail);(with_reducible refine(HDY.out _ X2).mono ?_);rintro e w3 ⟨rfl,hx3⟩;clear q0 q1 q2 q3 t0 t1;obtain⟨⟨q0,q1,q2,q3,t0,t1⟩,-⟩:=HS.out w3 (hx1.trans hx3);replace hx1:=hx1.trans hx3;have X3:=X2.trans hx3;clear hx3 HDY X2;(go_wp2_with fail);(with_reducible refine(HPL.out _ X3).mono ?_);rintro e w4 ⟨rfl,hx4⟩;clear q0 q1 q2 q3 t0 t1;replace hx1:=hx1.trans hx4;have X4:=X3.trans hx4;clear hx4 HPL X3;obtain⟨w5,hst,hrf,x5,z5⟩:=fds_new f w4;have X5:Ext w w5:=X4.trans x5;have hy1:Ext W w5:=hx1.trans x5;have HRF:Hid (RowF w4.heap.size f w5):=hHd hrf;have hR:w4.heap.size<w5.heap.size:=by omega
 clear hrf x5 z5;obtain⟨⟨q0,q1,q2,q3,t0,t1⟩,-⟩:=HS.out w5 hy1;clear t0 t1;obtain⟨R,hRR⟩:∃R,R=w4.heap.size:=⟨_,rfl⟩;rw [←hRR] at HRF hR;(go_wp2_with fail);rw [←hRR];have HRR:=hHd hRR;clear hRR hst;(with_reducible refine(HNM.out _ X5).mono ?_);rintro e w6 ⟨rfl,hx6⟩;have X6:=X5.trans hx6;have HRW:Hid (∀W,Ext w6 W→RowF R f W):=hHd (fun W hx=>HRF.out.kp (p:=fun _=>False) (hx6.trans hx).kp id);have hR6:R<w6.heap.size:=Nat.lt_of_lt_of_le hR hx6.size;clear HNM hx6 X5 HRF hR q0 q1 q2 q3 hx1 HS HSf HSz;have hN0:(0:Int)≤(N:Int):=by omega
 have hN1:(N:Int)≤10:=by omega
 (go_wp2_with fail);go_loopw [11,42] (fun s11 s42 wr=>∃(k:Nat) (a5:Option Addr) (q5:Nat),k≤N∧s42= .int .i64 k∧s11= .slice a5 k q5∧Hid (Hs.Own 4 (holdC day) w6.heap.size 211 wr (.slice a5 k q5) ((List.range k).map f))∧Ext w6 wr) (fun _ s _=>N - (intOf s).toNat)
 case atStart=>exact⟨0,none,0,Nat.zero_le _,rfl,rfl,hHd (Hs.Own.nil _),Ext.refl _⟩
 case round=>
  obtain⟨k,a5,q5,hk,rfl,rfl,HO,hx⟩:=hrel;obtain⟨wo,rfl⟩:∃x,x=wr:=⟨_,rfl⟩;by_cases hlt:k<N
  ·have hrow := (HRW.out wo hx).c; have HT : Hid (((List.range (k + 1)).map f).flatMap (holdC day) = ((List.range k).map f).flatMap (holdC day) ++ holdC day (f k)) := hHd (by rw [List.range_succ, List.map_append, List.flatMap_append]; simp); have m0 := hrow _ _ (fdsL_at f (i := k) (j := 0) (by omega) (by decide)); have m1 := hrow _ _ (fdsL_at f (i := k) (j := 1) (by omega) (by decide)); have m2 := hrow _ _ (fdsL_at f (i := k) (j := 2) (by omega) (by decide)); have m3 := hrow _ _ (fdsL_at f (i := k) (j := 3) (by omega) (by decide)); have m4 := hrow _ _ (fdsL_at f (i := k) (j := 4) (by omega) (by decide)); have HOL : Hid (((List.range k).map f).length = k) := hHd (by simp); have HC1 := hHd (HCV.out (f k)); have HXK : Hid (((List.range (k + 1)).map f) = (List.range k).map f ++ [f k]) := hHd (by rw [List.range_succ, List.map_append]; simp); have HH : Hid (holdC day (f k) = [.bool (f k).there, .bool ((f k).covers day), .int .i64 (f k).owner, .int .i64 (f k).value]) := rfl
   have HON:Hid (wo.ownsRow w6.heap.size 211 4 (.slice a5 k q5) k (((List.range k).map f).flatMap (holdC day))):=hHd (by
    have:=HO.out;unfold Hs.Own at this;rw [HOL.out] at this;exact this)
   clear hrow HO HT;simp only [Nat.zero_add,Nat.add_zero,fdL,List.getElem?_cons_zero,List.getElem?_cons_succ] at m0 m1 m2 m3 m4;generalize (List.range k).map f=l0 at*;generalize (f k).covers day=cv at*;generalize hfk:f k=x at*;clear hfk;obtain⟨th,gn,ow,va,so⟩:=x;unfold fdVal at HC1;simp only at m0 m1 m2 m3 m4 HH HC1;have hk0:(0:Int)≤(k:Int):=by omega
   have hk1:(k:Int)<(N:Int):=by omega
   go_upto_region 13 with fail
   have y0:(wo.alloc (.cells #[.bool th,.bool gn,.int .i64 ow,.int .i64 va,.int .i64 so] 196)).cell? ⟨wo.heap.size,0,none⟩=some (.bool th):=by simp [go_sem]
   have y1:(wo.alloc (.cells #[.bool th,.bool gn,.int .i64 ow,.int .i64 va,.int .i64 so] 196)).cell? ⟨wo.heap.size,1,none⟩=some (.bool gn):=by simp [go_sem]
   have y2:(wo.alloc (.cells #[.bool th,.bool gn,.int .i64 ow,.int .i64 va,.int .i64 so] 196)).cell? ⟨wo.heap.size,2,none⟩=some (.int .i64 ow):=by simp [go_sem]
   have y3:(wo.alloc (.cells #[.bool th,.bool gn,.int .i64 ow,.int .i64 va,.int .i64 so] 196)).cell? ⟨wo.heap.size,3,none⟩=some (.int .i64 va):=by simp [go_sem]
   have y4:(wo.alloc (.cells #[.bool th,.bool gn,.int .i64 ow,.int .i64 va,.int .i64 so] 196)).cell? ⟨wo.heap.size,4,none⟩=some (.int .i64 so):=by simp [go_sem]
   have HOW:Hid ((wo.alloc (.cells #[.bool th,.bool gn,.int .i64 ow,.int .i64 va,.int .i64 so] 196)).ownsRow w6.heap.size 211 4 (.slice a5 k q5) k (l0.flatMap (holdC day))):=hHd (own_keep HON.out (fun _ hg=>((Ext.refl wo).alloc _).heap (own_lt HON.out hg).2));have HX7:Hid (Ext w6 (wo.alloc (.cells #[.bool th,.bool gn,.int .i64 ow,.int .i64 va,.int .i64 so] 196))):=hHd (hx.alloc _);have HNB:Hid (¬(Value.slice a5 k q5).ownBlock=some wo.heap.size):=hHd (fun e=>by have:=(own_lt HON.out e).2;omega);obtain⟨B,hB⟩:∃B,B=wo.heap.size:=⟨_,rfl⟩;rw [←hB] at y0 y1 y2 y3 y4 HNB⊢;clear hB;generalize wo.alloc (.cells #[.bool th,.bool gn,.int .i64 ow,.int .i64 va,.int .i64 so] 196)=w7 at*;have HSS:Hid (∀w',KP (fun j=>(Value.slice a5 k q5).ownBlock=some j) w7 w'→(w'.cell? ⟨B,0,none⟩=some (.bool th)∧w'.cell? ⟨B,1,none⟩=some (.bool gn)∧w'.cell? ⟨B,2,none⟩=some (.int .i64 ow)∧w'.cell? ⟨B,3,none⟩=some (.int .i64 va)∧w'.cell? ⟨B,4,none⟩=some (.int .i64 so))∧KP (fun j=>(Value.slice a5 k q5).ownBlock=some j) w7 w'):=hHd (fun w' h=>⟨⟨h.keep HNB.out y0,h.keep HNB.out y1,h.keep HNB.out y2,h.keep HNB.out y3,h.keep HNB.out y4⟩,h⟩)
   have HONE:Hid (∀u∈([.bool th,.bool cv,.int .i64 ow,.int .i64 va]:List Value),u.oneCell'=true):=hHd (by
    intro u hu
    simp only [List.mem_cons,List.not_mem_nil,or_false] at hu;rcases hu with rfl|rfl|rfl|rfl<;>rfl)
   have HF1:Hid (k+1≤maxLen):=hHd (by simp only [maxLen];omega);have HF2:Hid ((k+1)*24≤140737488355328):=hHd (by omega);have HF3:Hid (w6.heap.size≤w7.heap.size):=hHd HX7.out.size;have HOB:Hid (∀g,(Value.slice a5 k q5).ownBlock=some g→w6.heap.size≤g):=hHd (fun g hg=>(own_lt HON.out hg).1);clear y0 y1 y2 y3 y4 m0 m1 m2 m3 m4 hx HON HNB hR6
   go_region_held3 (fun w'=>(w'.cell? ⟨B,0,none⟩=some (.bool th)∧w'.cell? ⟨B,1,none⟩=some (.bool gn)∧w'.cell? ⟨B,2,none⟩=some (.int .i64 ow)∧w'.cell? ⟨B,3,none⟩=some (.int .i64 va)∧w'.cell? ⟨B,4,none⟩=some (.int .i64 so))∧KP (fun j=>(Value.slice a5 k q5).ownBlock=some j) w7 w')
    ((refine HSS.out _ ?_;(repeat (first|exact KP.refl _|with_reducible (first|assumption|refine KP.drew ?_|refine KP.alloc ?_ _|refine KP.setCell ?_ (by assumption) _|refine KP.ext ?_ (by assumption)|refine KP.trans ?_ (by assumption)|refine Ext.kp (by assumption))))))
    (first
     |((with_reducible refine(HC1.out _).mono ?_);rintro e w8 ⟨rfl,hx8⟩)
     |((refine step_is_app' _ _ 207 rfl ?_);(refine step_append_lies _ (by rfl) _ _ 207 (by rfl) w6.heap.size 211 i1 (.agg #[.bool false,.bool false,.int .i64 0,.int .i64 0]) 4 24 Tryz.underlying207 hi1 hz10 hz11 hz12 rfl (by decide) (.slice a5 k q5) k (l0.flatMap (holdC day)) rfl (own_extR HOW.out EX) ⟨_,0,none⟩ 1 1 [.bool th,.bool cv,.int .i64 ow,.int .i64 va] (by rfl) rfl (cells_four EX (by first|rfl|simp)) HONE.out (by decide) HF1.out HF2.out (le_extR HF3.out EX) _ rfl ?_);intro gr cap w9 hown9 hgrow hat hlt9;have hk9:KP (fun j=>(Value.slice a5 k q5).ownBlock=some j) w7 w9:=KP.trans (Ext.kp EX) (KP.grown hgrow (fun _ hg=>hg));have HX9:Hid (Ext w6 w9):=hHd (grown_ext (HX7.out.trans EX) hgrow HOB.out)))
   all_goals
    have HO9:Hid (Hs.Own 4 (holdC day) w6.heap.size 211 w9 (.slice (some ⟨gr,0,none⟩) (k+1) cap) ((List.range (k+1)).map f)):=hHd (by rw [HXK.out];exact Hs.Own.next hown9 (by rw [HOL.out]) (by rw [HH.out]));clear hk9 hown9 hgrow hat HSS HOW HONE;(go_wp2_with fail);go_roundw
    case rel=>exact⟨k+1,_,cap,by omega,by go_num,rfl,HO9,HX9.out⟩
    case measure=>simp [intOf];omega
  ·obtain rfl : k = N := by omega
   have HF:Hid (Hs.Own 4 (holdC day) w.heap.size 211 wo (.slice a5 k q5) ((List.range k).map f)):=hHd (HO.out.base X6.size);have X7:=X6.trans hx;clear HO hx X6;(go_wp2_with fail);go_ret2;exact⟨f,a5,q5,HFF.out,rfl,HF.out,X7⟩
end Go.Proofs.YtegkdnfeceomdaaGreat
namespace Go.Hs
def settleGo (amount all:Int):Int→Int→List Int→List Int
 |_,_,[]=> []
 |before,paid,x::r=>(amount*(before+x) / all - paid)::settleGo amount all (before+x) (amount*(before+x) / all) r
def sumI (l:List Int):Int:=l.foldl (· + ·) 0
def settleL (amount:Int) (sums:List Int):List Int:=if sumI sums≤amount then sums else settleGo amount (sumI sums) 0 0 sums
theorem sumI_from (l:List Int) (a:Int):l.foldl (· + ·) a=a+sumI l:=by
  induction l generalizing a with
  |nil=>simp [sumI]
  | cons x r ih =>
    simp only [sumI,List.foldl_cons];rw [ih (a+x),ih (0+x)];omega
theorem sumI_cons (x:Int) (r:List Int):sumI (x::r)=x+sumI r:=by
 simp only [sumI,List.foldl_cons];rw [sumI_from r (0+x)];simp only [sumI];omega
theorem settleGo_len (amount all:Int):∀(l:List Int) (before paid:Int),(settleGo amount all before paid l).length=l.length
 | [],_,_=>rfl
 |x::r,before,paid=>by simp only [settleGo,List.length_cons,settleGo_len amount all r]
theorem settleL_len (amount:Int) (l:List Int):(settleL amount l).length=l.length:=by
 unfold settleL;split
 ·rfl
 ·exact settleGo_len _ _ _ _ _
structure ShareOK (amount all x y:Int):Prop where
 lo:0≤y
 hi:y≤x
 less:y*all<amount*x+all
 more:amount*x - all<y*all
theorem share_ok {amount all before x:Int} (ha:0≤amount) (hl:amount<all) (_:0≤before) (hx:0≤x):ShareOK amount all x (amount*(before+x) / all - amount*before / all):=by
 have h0:0<all:=by omega
 have e1:=Int.emod_add_mul_ediv (amount*(before+x)) all;have e2:=Int.emod_add_mul_ediv (amount*before) all;have m1:=Int.emod_nonneg (amount*(before+x)) (b:=all) (by omega);have m2:=Int.emod_lt_of_pos (amount*(before+x)) h0;have n1:=Int.emod_nonneg (amount*before) (b:=all) (by omega);have n2:=Int.emod_lt_of_pos (amount*before) h0;have hd:amount*(before+x)=amount*before+amount*x:=Int.mul_add _ _ _;have hax:0≤amount*x:=Int.mul_nonneg ha hx;have hle:amount*x≤all*x:=Int.mul_le_mul_of_nonneg_right (by omega) hx;generalize amount*(before+x) / all=p at*;generalize amount*before / all=q at*;generalize amount*(before+x) % all=r at*;generalize amount*before % all=s at*;have ep:(p - q)*all=all*p - all*q:=by rw [Int.sub_mul,Int.mul_comm p,Int.mul_comm q]
 have hlo:0≤p - q:=by
  rcases Int.lt_or_le (p - q) 0 with h|h
  ·have:(p - q)*all≤ -1*all:=Int.mul_le_mul_of_nonneg_right (by omega) (by omega);omega
  ·exact h
 have hhi:p - q≤x:=by
  rcases Int.lt_or_le x (p - q) with h|h
  ·have : (x + 1) * all ≤ (p - q) * all := Int.mul_le_mul_of_nonneg_right (by omega) (by omega); have e3 : (x + 1) * all = all * x + all := by rw [Int.add_mul, Int.mul_comm x]; omega
   omega
  ·exact h
 exact⟨hlo,hhi,by omega,by omega⟩
theorem settleGo_ok {amount all:Int} (ha:0≤amount) (hl:amount<all):∀(l:List Int) (before:Int),0≤before→(∀x∈l,0≤x)→
    (∀(i:Nat) (x y:Int),l[i]?=some x→(settleGo amount all before (amount*before / all) l)[i]?=some y→ShareOK amount all x y)∧
    sumI (settleGo amount all before (amount*before / all) l)=amount*(before+sumI l) / all - amount*before / all
  | [],before,_,_=>⟨fun i x y h=>by simp at h,by simp [settleGo,sumI]⟩
  | x :: r, before, hb, h => by
    have hx:=h x (by simp);have hr:=fun y hy=>h y (List.mem_cons_of_mem x hy)
    obtain⟨k1,k2⟩:=settleGo_ok ha hl r (before+x) (by omega) hr;refine⟨fun i u y hu hy=> ?_,?_⟩
    · rcases i with _ | i
      · simp only [settleGo,List.getElem?_cons_zero,Option.some.injEq] at hu hy;subst hu;subst hy;exact share_ok ha hl hb hx
      · simp only [settleGo,List.getElem?_cons_succ] at hu hy;exact k1 i u y hu hy
    · simp only [settleGo];rw [sumI_cons,k2,sumI_cons,←Int.add_assoc];omega
theorem settleL_ok {amount:Int} {l:List Int} (ha:0≤amount) (h:∀x∈l,0≤x):
  (∀(i:Nat) (x y:Int),l[i]?=some x→(settleL amount l)[i]?=some y→0≤y∧y≤x∧(amount<sumI l→y*sumI l<amount*x+sumI l∧amount*x - sumI l<y*sumI l))∧sumI (settleL amount l)=min amount (sumI l):=by
 by_cases hc:sumI l≤amount
 ·have e : settleL amount l = l := by unfold settleL; rw [if_pos hc]
  rw [e];refine⟨fun i x y hx hy=> ?_,by omega⟩
  rw [hx] at hy;cases hy;have:=h x (List.mem_of_getElem? hx);exact⟨this,Int.le_refl _,fun hlt=>by omega⟩
 ·have hl : amount < sumI l := by omega
  have e:settleL amount l=settleGo amount (sumI l) 0 0 l:=by unfold settleL;rw [if_neg hc]
  obtain⟨k1,k2⟩:=settleGo_ok ha hl l 0 (Int.le_refl _) h;have z:amount*0 / sumI l=0:=by simp
  rw [z] at k1 k2;rw [e];refine⟨fun i x y hx hy=> ?_,?_⟩
  ·have s:=k1 i x y hx hy;exact⟨s.lo,s.hi,fun _=>⟨s.less,s.more⟩⟩
  ·rw [k2,Int.zero_add,Int.mul_ediv_cancel _ (by omega)];omega
end Go.Hs
namespace Go.Hs
open Go.RowKit
def caseL (a1:Option Addr) (n1 c1:Nat) (a2:Option Addr) (n2 c2:Nat) (a3:Option Addr) (n3 c3:Nat) (a4:Option Addr) (n4 c4:Nat) (last owners soc day parcel llo lhi:Int):List Value:=
 [.int .i64 last,.int .i64 owners,.slice a1 n1 c1,.slice a2 n2 c2,.int .i64 soc,.int .i64 day,.int .i64 parcel,.slice a3 n3 c3,.int .i64 llo,.int .i64 lhi,.slice a4 n4 c4]
def caseV (a1:Option Addr) (n1 c1:Nat) (a2:Option Addr) (n2 c2:Nat) (a3:Option Addr) (n3 c3:Nat) (a4:Option Addr) (n4 c4:Nat) (last owners soc day parcel llo lhi:Int):Value:=
 .agg #[.int .i64 last,.int .i64 owners,.slice a1 n1 c1,.slice a2 n2 c2,.int .i64 soc,.int .i64 day,.int .i64 parcel,.slice a3 n3 c3,.int .i64 llo,.int .i64 lhi,.slice a4 n4 c4]
structure CaseA where
 a1:Option Addr
 c1:Nat
 a2:Option Addr
 c2:Nat
 a3:Option Addr
 c3:Nat
 a4:Option Addr
 c4:Nat
structure CaseM (w:World) (A:CaseA) (c:DCas):Prop where
 pars:Cells4 w A.a1 (c.bk.pars.map Par.c)
 ents:Cells8 w A.a2 (c.bk.ents.map Ent.c)
 covs:Cells7 w A.a3 (c.covs.map Cov.c)
 clms:Cells3 w A.a4 (c.clms.map Clm.c)
 l1:c.bk.pars.length≤A.c1∧c.bk.pars.length≤1000
 l2:c.bk.ents.length≤A.c2∧c.bk.ents.length≤1000
 l3:c.covs.length≤A.c3∧c.covs.length≤1000
 l4:c.clms.length≤A.c4∧c.clms.length≤1000
theorem CaseM.ext {w w':World} {A:CaseA} {c:DCas} (h:CaseM w A c) (hx:Ext w w'):CaseM w' A c:=⟨h.pars.ext hx,h.ents.ext hx,h.covs.ext hx,h.clms.ext hx,h.l1,h.l2,h.l3,h.l4⟩
abbrev CaseA.v (A:CaseA) (c:DCas):Value:=caseV A.a1 c.bk.pars.length A.c1 A.a2 c.bk.ents.length A.c2 A.a3 c.covs.length A.c3 A.a4 c.clms.length A.c4 c.bk.last c.bk.owners c.soc c.day c.parcel c.llo c.lhi
abbrev CaseA.b (A:CaseA) (c:DCas):Value:=bkV A.a1 c.bk.pars.length A.c1 A.a2 c.bk.ents.length A.c2 c.bk.last c.bk.owners
theorem CaseM.bk {w:World} {A:CaseA} {c:DCas} (h:CaseM w A c):BkV w (A.b c) c.bk:=⟨_,_,rfl,⟨_,_,rfl,h.l1.1,h.l1.2,h.pars⟩,⟨_,_,rfl,h.l2.1,h.l2.2,h.ents⟩⟩
def rngsD (c:DCas):List (Int×Int):=c.bk.ents.map (fun e=>(e.dlo,e.dhi))++(c.bk.pars.map (fun p=>(p.slo,p.shi))++(c.covs.map (fun x=>(x.slo,x.shi))++ [(c.llo,c.lhi)]))
def ofR (lo hi high:Int):Bool:=decide (0≤lo)&&(decide (lo≤hi)&&decide (hi≤high))
theorem ofR_iff {lo hi high:Int} :ofR lo hi high=true↔0≤lo∧lo≤hi∧hi≤high:=by simp [ofR]
def socB (c:DCas) (n:Int):Bool:=inR n 0 (c.soc - 1)
def covB (c:DCas) (x:Cov):Bool:=socB c x.soc&&(inR x.owner 0 (c.bk.owners - 1)&&(numberB c.bk x.parcel&&(inR x.sum 0 1000&&(dayB c.bk x.till&&ofR x.slo x.shi c.bk.last))))
def clmB (c:DCas) (x:Clm):Bool:=socB c x.soc&&ofR x.plo x.phi 1000
def caseD (c:DCas):Int:=
 if bookE c.bk≠0 then bookE c.bk
 else if 3<c.soc∨5<c.covs.length∨5<c.clms.length then 3
 else if decide (1≤c.soc)&&(dayB c.bk c.day&&(numberB c.bk c.parcel&&(ofR c.llo c.lhi 100&&(c.covs.all (covB c)&&c.clms.all (clmB c))))) then (if 2000<manyL 2000 (rngsD c) then 3 else 0)
 else 1
structure CasS (c:DCas):Prop where
 bk:BkS c.bk
 soc:1≤c.soc∧c.soc≤3
 nc:c.covs.length≤5
 nm:c.clms.length≤5
 day:0≤c.day∧c.day≤c.bk.last
 parcel:numberB c.bk c.parcel=true
 loss:0≤c.llo∧c.llo≤c.lhi∧c.lhi≤100
 cov:∀x∈c.covs,covB c x=true
 clm:∀x∈c.clms,clmB c x=true
theorem rngsD_ok {c:DCas} (h:CasS c):∀r∈rngsD c,0≤r.1∧r.1≤r.2∧r.2≤100:=by
 intro r hr
 have hl:=h.bk.last;have hb:=rngs_ok h.bk;unfold rngsD at hr;unfold rngsB at hb;simp only [List.mem_append] at hr hb;rcases hr with hr|hr|hr|hr
 ·have:=hb r (.inl hr);omega
 ·have:=hb r (.inr hr);omega
 ·obtain⟨x,hx,rfl⟩:=List.mem_map.1 hr;have:=h.cov x hx;simp only [covB,Bool.and_eq_true,ofR_iff] at this;simp only;omega
 ·simp only [List.mem_singleton] at hr;subst hr;have:=h.loss;simp only;omega
theorem rngsD_len (c:DCas):(rngsD c).length=c.bk.ents.length+c.bk.pars.length+c.covs.length+1:=by simp [rngsD];omega
theorem caseD_zero {c:DCas} (h:caseD c=0):bookE c.bk=0∧CasS c∧manyL 2000 (rngsD c)≤2000:=by
 unfold caseD at h;split at h
 ·contradiction
 ·rename_i hb
  have hb:bookE c.bk=0:=by omega
  split at h
  ·cases h
  ·split at h
   ·rename_i h1 h2
    simp only [Bool.and_eq_true,decide_eq_true_eq,ofR_iff,List.all_eq_true] at h2;have hd:=dayB_iff.1 h2.2.1;refine⟨hb,⟨bks_of hb,by omega,by omega,by omega,hd,h2.2.2.1,h2.2.2.2.1,h2.2.2.2.2.1,h2.2.2.2.2.2⟩,?_⟩
    split at h
    ·cases h
    ·omega
   ·cases h
def allL:List (Int×Int)→List (List Int)
 | []=> [[]]
 |r::rs=>(List.range (r.2 - r.1+1).toNat).flatMap (fun n:Nat=>(allL rs).map (fun l=>(r.1+(n:Int))::l))
structure DTr where
 days:List Int
 sown:List Int
 starts:List Int
 loss:Int
deriving Inhabited
def truD (c:DCas) (l:List Int):DTr:=
 ⟨l.take c.bk.ents.length,(l.drop c.bk.ents.length).take c.bk.pars.length,(l.drop (c.bk.ents.length+c.bk.pars.length)).take c.covs.length,l.getD (c.bk.ents.length+c.bk.pars.length+c.covs.length) 0⟩
def listedD (c:DCas) (t:DTr):Bool:=
 decide (t.days.length=c.bk.ents.length)&&(decide (t.sown.length=c.bk.pars.length)&&(decide (t.starts.length=c.covs.length)&&(List.range (rngsD c).length).all (fun i=>inR ((t.days++(t.sown++(t.starts++ [t.loss]))).getD i 0) ((rngsD c).getD i default).1 ((rngsD c).getD i default).2)))
structure Dmg where
 amount:Int
 s0:Int
 s1:Int
 s2:Int
deriving DecidableEq,Inhabited
def covs1 (c:DCas) (x:Fd) (starts:List Int) (i:Nat):Bool:=
 let k:=c.covs.getD i default
 decide (k.parcel=c.parcel)&&(x.covers c.day&&(decide (x.owner=k.owner)&&(decide (starts.getD i 0≤c.day)&&decide (c.day≤k.till))))
def sumsD (c:DCas) (x:Fd) (starts:List Int) (j:Int):Nat→Int
 |0=>0
 |n+1=>sumsD c x starts j n+(if covs1 c x starts n&&decide ((c.covs.getD n default).soc=j) then (c.covs.getD n default).sum else 0)
def damD (c:DCas) (t:DTr):Option Dmg:=
 if playK c.bk t.days t.sown c.day=0 then
  let x:=((playB c.bk t.days t.sown c.day.toNat (fun _=>false)).getD (fun _=>Fd.zero)) c.parcel.toNat
  some ⟨x.value*t.loss / 100,sumsD c x t.starts 0 c.covs.length,sumsD c x t.starts 1 c.covs.length,sumsD c x t.starts 2 c.covs.length⟩
 else none
def soldC (clms:List Clm):DCas:=⟨⟨9,2,[⟨0,100,0,0⟩],[⟨0,0,0,0,1,0,4,5⟩]⟩,2,4,0,[⟨0,0,0,60,9,1,1⟩,⟨1,0,0,90,9,3,5⟩,⟨1,1,0,50,9,0,0⟩],40,50,clms⟩
def twoL:List Clm:= [⟨0,16,20⟩,⟨1,10,20⟩]
def laterT:DTr:=⟨[5],[0],[1,4,0],50⟩
end Go.Hs
