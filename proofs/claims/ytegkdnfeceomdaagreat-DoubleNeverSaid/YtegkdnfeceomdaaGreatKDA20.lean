/- Bundled: what the texts SK SL SP say one after another. -/
import Derived.Test.YtegkdnfeceomdaaGreatKDA19
import Derived.Test.YtegkdnfeceomdaaGreatKDA4
import Derived.Deep.Quiet
import Derived.BigQuiet
import Derived.Deep.QuietTactic
import Derived.Test.YtegkdnfeceomdaaGreatKDA17
set_option maxRecDepth 100000
set_option maxHeartbeats 16000000
set_option linter.unusedSimpArgs false
set_option linter.unusedVariables false
namespace Go.Hs
open Go.RowKit
structure WkD (W0:World) (p m:Nat) (A:CaseA) (c:DCas) (w:World):Prop where
 ext:Ext W0 w
 box:∀i x,(caseL A.a1 c.bk.pars.length A.c1 A.a2 c.bk.ents.length A.c2 A.a3 c.covs.length A.c3 A.a4 c.clms.length A.c4 c.bk.last c.bk.owners c.soc c.day c.parcel c.llo c.lhi)[i]?=some x→w.cell? ⟨p,i,none⟩=some x
 map:w.cell? ⟨p,11,none⟩=some (.map (some m))
 stl:Stl m w
 fr:∀o,w.frozen? ⟨p,o,none⟩=false
 hp:W0.heap.size≤p
 hm:W0.heap.size≤m
section
variable {W0 w w':World} {p m:Nat} {A:CaseA} {c:DCas}
theorem WkD.lt (h:WkD W0 p m A c w):p<w.heap.size:=lt_of_cell h.map
theorem WkD.ne (h:WkD W0 p m A c w):p≠m:=h.stl.ne h.map
theorem WkD.mm (h:WkD W0 p m A c w) (k:MM m w w'):WkD W0 p m A c w':=
 ⟨k.toExt h.ext h.hm,fun i x hi=>k.keep' h.ne (h.box i x hi),k.keep' h.ne h.map,k.stl h.stl,fun o=>(k.kp.frozen h.lt h.ne).trans (h.fr o),h.hp,h.hm⟩
theorem WkD.grow (h:WkD W0 p m A c w) (k:Ext w w'):WkD W0 p m A c w':=h.mm k.mm
structure BoxD (p m:Nat) (A:CaseA) (c:DCas) (w:World):Prop where
 c0:w.cell? ⟨p,0,none⟩=some (.int .i64 c.bk.last)
 c1:w.cell? ⟨p,1,none⟩=some (.int .i64 c.bk.owners)
 c2:w.cell? ⟨p,2,none⟩=some (.slice A.a1 c.bk.pars.length A.c1)
 c3:w.cell? ⟨p,3,none⟩=some (.slice A.a2 c.bk.ents.length A.c2)
 c4:w.cell? ⟨p,4,none⟩=some (.int .i64 c.soc)
 c5:w.cell? ⟨p,5,none⟩=some (.int .i64 c.day)
 c6:w.cell? ⟨p,6,none⟩=some (.int .i64 c.parcel)
 c7:w.cell? ⟨p,7,none⟩=some (.slice A.a3 c.covs.length A.c3)
 c8:w.cell? ⟨p,8,none⟩=some (.int .i64 c.llo)
 c9:w.cell? ⟨p,9,none⟩=some (.int .i64 c.lhi)
 c10:w.cell? ⟨p,10,none⟩=some (.slice A.a4 c.clms.length A.c4)
 c11:w.cell? ⟨p,11,none⟩=some (.map (some m))
theorem WkD.cells (h:WkD W0 p m A c w):BoxD p m A c w:=
 ⟨h.box 0 _ rfl,h.box 1 _ rfl,h.box 2 _ rfl,h.box 3 _ rfl,h.box 4 _ rfl,h.box 5 _ rfl,h.box 6 _ rfl,h.box 7 _ rfl,h.box 8 _ rfl,h.box 9 _ rfl,h.box 10 _ rfl,h.map⟩
theorem BoxD.wkd (h:BoxD p m A c w) (hx:Ext W0 w) (hs:Stl m w) (fr:∀o,w.frozen? ⟨p,o,none⟩=false) (hp:W0.heap.size≤p) (hm:W0.heap.size≤m):WkD W0 p m A c w:=by
 refine⟨hx,fun i x hi=> ?_,h.c11,hs,fr,hp,hm⟩
 rcases i with _|_|_|_|_|_|_|_|_|_|_|i
 all_goals first
  |(simp [caseL] at hi;done)
  |(simp [caseL] at hi;subst hi;first|exact h.c0|exact h.c1|exact h.c2|exact h.c3|exact h.c4|exact h.c5|exact h.c6|exact h.c7|exact h.c8|exact h.c9|exact h.c10)
end
theorem stl_at {w W:World} {r:Nat} (h:w.heap.size=r) (hx:Ext (w.alloc (.map #[] 0)) W):Stl r W:=by subst h;exact(Stl.empty w).ext hx
def payD (d:Dmg) (k:Int):Int:=if k=0 then (paysD d).1 else if k=1 then (paysD d).2.1 else (paysD d).2.2
def rightD (x:Clm) (d:Dmg):Bool:=inR (payD d x.soc) x.plo x.phi
end Go.Hs
namespace Go.Proofs.YtegkdnfeceomdaaGreat
open Go.RowKit Go.Hs
attribute [local irreducible] World.setCell World.alloc
theorem work_d (W0:World) (A:CaseA) (c:DCas) (w:World) (hx:Ext W0 w):
  Calls Tryz.prog 70 #[A.v c] w fun e w'=>∃p m,e= .returned (.pointer (some ⟨p,0,none⟩))∧WkD W0 p m A c w'∧Ext w w':=by
 obtain⟨a1,c1,a2,c2,a3,c3,a4,c4⟩:=A
 have HB:Hid (∀W V,BoxD (w.heap.size+2) (w.heap.size+1) ⟨a1,c1,a2,c2,a3,c3,a4,c4⟩ c W→Ext w W→Stl (w.heap.size+1) W→(∀o,W.frozen? ⟨w.heap.size+2,o,none⟩=false)→W=V→WkD W0 (w.heap.size+2) (w.heap.size+1) ⟨a1,c1,a2,c2,a3,c3,a4,c4⟩ c V∧Ext w V):=hHd (by
  rintro W V hB hE hS hF rfl;have:=hx.size;exact⟨hB.wkd (hx.trans hE) hS hF (by omega) (by omega),hE⟩)
 have HB2:Hid (∀W,W.cell? ⟨w.heap.size+2,0,none⟩=some (.int .i64 c.bk.last)→W.cell? ⟨w.heap.size+2,1,none⟩=some (.int .i64 c.bk.owners)→W.cell? ⟨w.heap.size+2,2,none⟩=some (.slice a1 c.bk.pars.length c1)→W.cell? ⟨w.heap.size+2,3,none⟩=some (.slice a2 c.bk.ents.length c2)→W.cell? ⟨w.heap.size+2,4,none⟩=some (.int .i64 c.soc)→W.cell? ⟨w.heap.size+2,5,none⟩=some (.int .i64 c.day)→W.cell? ⟨w.heap.size+2,6,none⟩=some (.int .i64 c.parcel)→W.cell? ⟨w.heap.size+2,7,none⟩=some (.slice a3 c.covs.length c3)→W.cell? ⟨w.heap.size+2,8,none⟩=some (.int .i64 c.llo)→W.cell? ⟨w.heap.size+2,9,none⟩=some (.int .i64 c.lhi)→W.cell? ⟨w.heap.size+2,10,none⟩=some (.slice a4 c.clms.length c4)→W.cell? ⟨w.heap.size+2,11,none⟩=some (.map (some (w.heap.size+1)))→BoxD (w.heap.size+2) (w.heap.size+1) ⟨a1,c1,a2,c2,a3,c3,a4,c4⟩ c W):=hHd (fun W h0 h1 h2 h3 h4 h5 h6 h7 h8 h9 h10 h11=>⟨h0,h1,h2,h3,h4,h5,h6,h7,h8,h9,h10,h11⟩);unfold CaseA.v caseV;simp only at*;clear hx;generalize c.bk.pars.length=n1 at*;generalize c.bk.ents.length=n2 at*;generalize c.covs.length=n3 at*;generalize c.clms.length=n4 at*;generalize c.bk.last=last at*;generalize c.bk.owners=owners at*;generalize c.soc=soc at*;generalize c.day=day at*;generalize c.parcel=parcel at*;generalize c.llo=llo at*;generalize c.lhi=lhi at*;have hmm:= @run_makeMap Tryz.prog;go_enter Tryz.func70,Tryz.ntmps70
 (go_wp2_with fail);go_ret;refine⟨w.heap.size+2,w.heap.size+1,rfl,HB.out _ _ (HB2.out _ ?_ ?_ ?_ ?_ ?_ ?_ ?_ ?_ ?_ ?_ ?_ ?_) EX (stl_at (w:=w.alloc _) (by simp) EX) (fun o=>by simp [go_sem]) rfl⟩
 all_goals simp [go_sem]
theorem right_d (p m:Nat) (x:Clm) (d:Dmg) (w:World) (hp:w.cell? ⟨p,11,none⟩=some (.map (some m))) (hs:Stl m w) (hd:DmgOK d) (hx:x.soc=0∨x.soc=1∨x.soc=2):
  Calls Tryz.prog 74 #[.pointer (some ⟨p,0,none⟩),x.c.val,d.v] w fun e w'=>e= .returned (.bool (rightD x d))∧MM m w w':=by
 have HP0:=hHd (fun W (h1:W.cell? ⟨p,11,none⟩=some (.map (some m))) (h2:Stl m W)=>pays_d p m d W h1 h2 hd);have HH:=hHd (fun W=>has_d x.plo x.phi (payD d x.soc) W);have HR:Hid (rightD x d=inR (payD d x.soc) x.plo x.phi):=rfl
 have HI:Hid (∀w,(Instr.index 133 (paysV d) (.int .i64 x.soc)).run Tryz.prog w= .ok (.int .i64 (payD d x.soc)) w):=hHd (by
  rcases hx with h|h|h
  ·intro w;rw [h];exact index_sh0 _ _ _ w
  ·intro w;rw [h];exact index_sh1 _ _ _ w
  ·intro w;rw [h];exact index_sh2 _ _ _ w)
 have hne:¬p=m:=hs.ne hp;have hS:=hHd hs;have hml:m<w.heap.size:=hs.lt;clear hd hx hs;generalize rightD x d=r at*;generalize payD d x.soc=py at*;generalize paysV d=pv at*;obtain⟨am,s0,s1,s2⟩:=d;obtain⟨so,lo,hi⟩:=x;simp only [Dmg.v,Clm.c,V3.val] at*;rw [HR.out];clear HR;generalize inR py lo hi=r at*;go_enter Tryz.func74,Tryz.ntmps74
 (go_wp2_with fail);obtain⟨W,hW,X,HS,HSf,HSz⟩:=bx3_4 w 121 (.int .i64 so) (.int .i64 lo) (.int .i64 hi) 139 (.int .i64 am) (.int .i64 s0) (.int .i64 s1) (.int .i64 s2);rw [hW];clear hW;obtain⟨⟨q0,q1,q2,r0,r1,r2,r3⟩,-⟩:=HS.out W (Ext.refl _);have hpW:=X.keep hp;have hSW:=hS.out.ext X
 have HSS:Hid (∀w',MM m W w'→(w'.cell? ⟨w.heap.size,0,none⟩=some (.int .i64 so)∧w'.cell? ⟨w.heap.size,1,none⟩=some (.int .i64 lo)∧w'.cell? ⟨w.heap.size,2,none⟩=some (.int .i64 hi)∧w'.cell? ⟨w.heap.size+1,0,none⟩=some (.int .i64 am)∧w'.cell? ⟨w.heap.size+1,1,none⟩=some (.int .i64 s0)∧w'.cell? ⟨w.heap.size+1,2,none⟩=some (.int .i64 s1)∧w'.cell? ⟨w.heap.size+1,3,none⟩=some (.int .i64 s2))∧MM m W w'):=hHd (fun w' h=>
  ⟨⟨h.keep' (by omega) q0,h.keep' (by omega) q1,h.keep' (by omega) q2,h.keep' (by omega) r0,h.keep' (by omega) r1,h.keep' (by omega) r2,h.keep' (by omega) r3⟩,h⟩)
 have hix:=HI.out;have HP:=hHd (fun W' (h:MM m W W')=>HP0.out W' (h.keep' hne hpW) (h.stl hSW));clear HP0 HS HSf hp hpW q0 q1 q2 r0 r1 r2 r3 hSW HI
 go_region_held3 (fun w'=>(w'.cell? ⟨w.heap.size,0,none⟩=some (.int .i64 so)∧w'.cell? ⟨w.heap.size,1,none⟩=some (.int .i64 lo)∧w'.cell? ⟨w.heap.size,2,none⟩=some (.int .i64 hi)∧w'.cell? ⟨w.heap.size+1,0,none⟩=some (.int .i64 am)∧w'.cell? ⟨w.heap.size+1,1,none⟩=some (.int .i64 s0)∧w'.cell? ⟨w.heap.size+1,2,none⟩=some (.int .i64 s1)∧w'.cell? ⟨w.heap.size+1,3,none⟩=some (.int .i64 s2))∧MM m W w')
  ((refine HSS.out _ ?_;(repeat (first|exact MM.refl _|with_reducible (first|assumption|refine MM.drew ?_|refine MM.alloc ?_ _|refine MM.ext ?_ (by assumption)|refine MM.trans ?_ (by assumption)|refine Ext.mm (by assumption))))))
  (first
   |(go_at_call 75;(refine(HP.out _ (by(repeat (first|exact MM.refl _|with_reducible (first|assumption|refine MM.drew ?_|refine MM.alloc ?_ _|refine MM.ext ?_ (by assumption)|refine MM.trans ?_ (by assumption)|refine Ext.mm (by assumption)))))).mono ?_);rintro e w3 ⟨rfl,hx3⟩)
   |(go_at_call 127;(refine(HH.out _).mono ?_);rintro e w4 ⟨rfl,hx4⟩))
 all_goals
  (go_wp2_with fail);go_ret;exact⟨rfl,X.mm.trans (by(repeat (first|exact MM.refl _|with_reducible (first|assumption|refine MM.drew ?_|refine MM.alloc ?_ _|refine MM.ext ?_ (by assumption)|refine MM.trans ?_ (by assumption)|refine Ext.mm (by assumption)))))⟩
end Go.Proofs.YtegkdnfeceomdaaGreat
namespace Go.Hs
open Go.RowKit
theorem dayS_ok {b:Bk} (hb:BkS b) {days:List Int} {out:Nat→Bool} {d:Nat} :∀(n:Nat) {f g:Fds},n≤b.ents.length→FdsOK f→dayS b days out d n f=some g→FdsOK g
  |0,f,g,_,hf,h=>by simp [dayS] at h;subst h;exact hf
  | n + 1, f, g, hn, hf, h => by
    rw [dayS_next] at h;cases hq:dayS b days out d n f with
    |none=>rw [hq] at h;cases h
    | some f' =>
      rw [hq] at h;have:=dayS_ok hb n (by omega) hf hq;unfold stepS at h;simp only [Option.bind_some] at h;split at h
      · exact happen_ok hb (by omega) this h
      · cases h;exact this
theorem stateS_ok {b:Bk} (hb:BkS b) {days sown:List Int} {out:Nat→Bool} :∀(d:Nat) {f:Fds},stateS b days sown out d=some f→FdsOK f
  |0,f,h=>by simp only [stateS,Option.some.injEq] at h;subst h;exact begin_ok hb sown
  | d + 1, f, h => by
    simp only [stateS] at h;cases hq:stateS b days sown out d with
    |none=>rw [hq] at h;cases h
    |some f'=>rw [hq] at h;exact dayS_ok hb _ (Nat.le_refl _) (stateS_ok hb d hq) h
theorem playB_ok {b:Bk} (hb:BkS b) {days sown:List Int} {out:Nat→Bool} {day:Nat} {f:Fds} (h:playB b days sown day out=some f):FdsOK f:=by
 unfold playB at h;cases hq:stateS b days sown out (b.last.toNat+1) with
 |none=>rw [hq] at h;cases h
 |some f'=>rw [hq] at h;exact stateS_ok hb _ h
theorem sumsD_next (c:DCas) (x:Fd) (starts:List Int) (j:Int) (n:Nat):sumsD c x starts j (n+1)=sumsD c x starts j n+(if covs1 c x starts n&&decide ((c.covs.getD n default).soc=j) then (c.covs.getD n default).sum else 0):=rfl
theorem sumsD_bd {c:DCas} (hS:CasS c) (x:Fd) (starts:List Int) (j:Int):∀n,n≤c.covs.length→0≤sumsD c x starts j n∧sumsD c x starts j n≤1000*(n:Int)
  |0,_=>by simp [sumsD]
  | n + 1, hn => by
    have ih:=sumsD_bd hS x starts j n (by omega);have h1:=hS.cov (c.covs[n]) (List.getElem_mem (by omega));simp only [covB,Bool.and_eq_true,inR_iff] at h1
    have e:c.covs.getD n default=c.covs[n]:=by
      have:n<c.covs.length:=by omega
      simp [this]
    rw [sumsD_next,e];split<;>omega
theorem damD_ok {c:DCas} (hS:CasS c) {t:DTr} (hlo:0≤t.loss∧t.loss≤100) {d:Dmg} (h:damD c t=some d):DmgOK d:=by
 unfold damD at h;split at h
 ·rename_i h0
  simp only [Option.some.injEq] at h
  have hf:FdsOK ((playB c.bk t.days t.sown c.day.toNat (fun _=>false)).getD (fun _=>Fd.zero)):=by
   cases hq:playB c.bk t.days t.sown c.day.toNat (fun _=>false) with
   |none=>intro i;simp [Fd.zero]
   |some f=>exact playB_ok hS.bk hq
  have hv:=hf c.parcel.toNat;have hn:=hS.nc;have b0:=sumsD_bd hS (((playB c.bk t.days t.sown c.day.toNat (fun _=>false)).getD (fun _=>Fd.zero)) c.parcel.toNat) t.starts 0 _ (Nat.le_refl _);have b1:=sumsD_bd hS (((playB c.bk t.days t.sown c.day.toNat (fun _=>false)).getD (fun _=>Fd.zero)) c.parcel.toNat) t.starts 1 _ (Nat.le_refl _);have b2:=sumsD_bd hS (((playB c.bk t.days t.sown c.day.toNat (fun _=>false)).getD (fun _=>Fd.zero)) c.parcel.toNat) t.starts 2 _ (Nat.le_refl _);subst h;refine⟨?_,by dsimp only;omega,by dsimp only;omega,by dsimp only;omega⟩
  dsimp only
  generalize (((playB c.bk t.days t.sown c.day.toNat (fun _=>false)).getD (fun _=>Fd.zero)) c.parcel.toNat).value=v at*;have h1:0≤v*t.loss:=Int.mul_nonneg hv.1 hlo.1;have h2:v*t.loss≤1000*100:=Int.mul_le_mul hv.2 hlo.2 hlo.1 (by omega);omega
 ·cases h
def dmgO:Option Dmg→Value
 |none=>(⟨0,0,0,0⟩:Dmg).v
 |some d=>d.v
structure DamC (T:Nat) (am:Int) (S:Nat→Int) (w:World):Prop where
 a:w.cell? ⟨T,0,none⟩=some (.int .i64 am)
 s:∀j,j<3→w.cell? ⟨T,1+j,none⟩=some (.int .i64 (S j))
 fr:∀o,w.frozen? ⟨T,o,none⟩=false
theorem DamC.ext {T:Nat} {am:Int} {S:Nat→Int} {w w':World} (h:DamC T am S w) (hx:Ext w w'):DamC T am S w':=⟨hx.keep h.a,fun j hj=>hx.keep (h.s j hj),fun o=>(hx.frozen (lt_of_cell h.a)).trans (h.fr o)⟩
theorem DamC.put {T:Nat} {am:Int} {S S':Nat→Int} {w:World} (h:DamC T am S w) (n:Nat) (v:Int) (hn:n<3) (hS:∀j,S' j=if j=n then v else S j):DamC T am S' (w.setCell ⟨T,1+n,none⟩ (.int .i64 v)):=by
 refine⟨cell_ne (.inr (by omega)) h.a,fun j hj=> ?_,fun o=>by rw [World.frozen?_setCell];exact h.fr o⟩
 rw [hS j];by_cases e:j=n
 ·subst e;rw [if_pos rfl];exact World.cell?_setCell_same _ _ _ (h.s j hj)
 ·rw [if_neg e];exact cell_ne (.inr (by omega)) (h.s j hj)
end Go.Hs
namespace Go.Proofs.YtegkdnfeceomdaaGreat
open Go.RowKit Go.Hs
attribute [local irreducible] World.setCell World.alloc
theorem damage_bad (p m:Nat) (A:CaseA) (c:DCas) (t:DTr) (vd vs vst:Value) (w:World) (hbx:BoxD p m A c w) (hm:CaseM w A c) (hd:IntsV w vd t.days) (hs:IntsV w vs t.sown) (h1:t.days.length≤1000) (h2:t.sown.length≤1000)
  (hst:IntsV w vst t.starts) (hE:playK c.bk t.days t.sown c.day≠0):
  Calls Tryz.prog 71 #[.pointer (some ⟨p,0,none⟩),.agg #[vd,vs,vst,.int .i64 t.loss]] w fun e w'=>e= .returned (.tuple #[(⟨0,0,0,0⟩:Dmg).v,.bool false])∧Ext w w':=by
 have HP:=hHd (fun W (hx:Ext w W)=>Play_pbad c.bk (A.b c) vd vs t.days t.sown c.day W ((hm.ext hx).bk) (hd.ext hx) (hs.ext hx) h1 h2 hE);generalize playK c.bk t.days t.sown c.day=r at*;have hr:(r !=0)=true:=by rw [bne_iff_ne];exact hE
 obtain⟨b0,b1,b2,b3,-,b5,-,-,-,-,-,-⟩:=hbx;unfold CaseA.b bkV at*;obtain⟨a1,c1,a2,c2,a3,c3,a4,c4⟩:=A;simp only at*;clear hm h1 h2 hE;obtain⟨a5,n5,rfl,-⟩:=hd;obtain⟨a6,n6,rfl,-⟩:=hs;obtain⟨a7,n7,rfl,-⟩:=hst;generalize t.days.length=n8 at*;generalize t.sown.length=n9 at*;generalize t.starts.length=n10 at*;generalize t.loss=lo at*;generalize c.bk.pars.length=n1 at*;generalize c.bk.ents.length=n2 at*;generalize c.bk.last=last at*;generalize c.bk.owners=owners at*;generalize c.day=day at*;simp only [Dmg.v];go_enter Tryz.func71,Tryz.ntmps71
 (go_wp2_with fail);obtain⟨W,hW,X,HS,HSf,HSz⟩:=bx4_4 w 61 (.slice a5 n8 n5) (.slice a6 n9 n6) (.slice a7 n10 n7) (.int .i64 lo) 139 (.int .i64 0) (.int .i64 0) (.int .i64 0) (.int .i64 0);rw [hW];clear hW
 have HSS:Hid (∀w',Ext W w'→(w'.cell? ⟨w.heap.size,0,none⟩=some (.slice a5 n8 n5)∧w'.cell? ⟨w.heap.size,1,none⟩=some (.slice a6 n9 n6)∧w'.cell? ⟨p,0,none⟩=some (.int .i64 last)∧w'.cell? ⟨p,1,none⟩=some (.int .i64 owners)∧w'.cell? ⟨p,2,none⟩=some (.slice a1 n1 c1)∧w'.cell? ⟨p,3,none⟩=some (.slice a2 n2 c2)∧w'.cell? ⟨p,5,none⟩=some (.int .i64 day))∧Ext W w'):=hHd (fun w' h=>by
  obtain⟨⟨q0,q1,q2,q3,r0,r1,r2,r3⟩,-⟩:=HS.out w' h;have Z:=X.trans h;exact⟨⟨q0,q1,Z.keep b0,Z.keep b1,Z.keep b2,Z.keep b3,Z.keep b5⟩,h⟩)
 obtain⟨⟨-,-,-,-,r0,r1,r2,r3⟩,-⟩:=HS.out W (Ext.refl _);have rf:=HSf.out W (Ext.refl _);clear HS HSf b0 b1 b2 b3 b5
 go_region_held3 (fun w'=>(w'.cell? ⟨w.heap.size,0,none⟩=some (.slice a5 n8 n5)∧w'.cell? ⟨w.heap.size,1,none⟩=some (.slice a6 n9 n6)∧w'.cell? ⟨p,0,none⟩=some (.int .i64 last)∧w'.cell? ⟨p,1,none⟩=some (.int .i64 owners)∧w'.cell? ⟨p,2,none⟩=some (.slice a1 n1 c1)∧w'.cell? ⟨p,3,none⟩=some (.slice a2 n2 c2)∧w'.cell? ⟨p,5,none⟩=some (.int .i64 day))∧Ext W w')
  ((refine HSS.out _ ?_;exact EX))
  ((go_at_call 128;(refine(HP.out _ EX).mono ?_);rintro e w3 ⟨rfl,hx3⟩))
 all_goals
  have Y:Ext W w3:=EX;replace rf:=fun o=>(Y.frozen (o:=o) (lt_of_cell r0)).trans (rf o)
  replace r0:=Y.keep r0;replace r1:=Y.keep r1;replace r2:=Y.keep r2;replace r3:=Y.keep r3;(go_wp2_with fail);refine bodyPost_ret (v:= .tuple #[.agg #[.int .i64 0,.int .i64 0,.int .i64 0,.int .i64 0],.bool false]) (by simp [results,Tryz.results71,go_sem,r0,r1,r2,r3]) rfl ⟨rfl,?_⟩
  have Z:=X.trans Y;exact(((Z.setCell (by omega) _).setCell (by omega) _).setCell (by omega) _).setCell (by omega) _
theorem damage_good (p m : Nat) (A : CaseA) (c : DCas) (t : DTr) (vd vs vst : Value) (w : World) (hbx : BoxD p m A c w) (hm : CaseM w A c) (hS : CasS c) (hd : IntsV w vd t.days) (hs : IntsV w vs t.sown) (h1 : t.days.length ≤ 1000) (h2 : t.sown.length ≤ 1000)
    (hst:IntsV w vst t.starts) (hls:t.starts.length=c.covs.length) (hlo:0≤t.loss∧t.loss≤100) (hE:playK c.bk t.days t.sown c.day=0):
    Calls Tryz.prog 71 #[.pointer (some ⟨p,0,none⟩),.agg #[vd,vs,vst,.int .i64 t.loss]] w fun e w'=>e= .returned (.tuple #[dmgO (damD c t),.bool true])∧Ext w w':=by
  have HP:=hHd (fun W (hx:Ext w W)=>Play_pgood c.bk (A.b c) vd vs t.days t.sown c.day W ((hm.ext hx).bk) (hd.ext hx) (hs.ext hx) h1 h2 hE)
  obtain⟨f,hf⟩:∃f,playB c.bk t.days t.sown c.day.toNat (fun _=>false)=some f:=by
    cases hq:playB c.bk t.days t.sown c.day.toNat (fun _=>false) with
    |some f=>exact⟨f,rfl⟩
    |none=>unfold playK at hE;rw [hq] at hE;split at hE;(· exact absurd hE ‹_›);split at hE<;>simp at hE
  have hFOK:=playB_ok hS.bk hf
  obtain⟨pn,hpn,hpl⟩:∃pn:Nat,c.parcel=(pn:Int)∧pn<numsB c.bk:=by
    have:=inR_iff.1 hS.parcel;exact⟨c.parcel.toNat,by omega,by omega⟩
  have HD:Hid (dmgO (damD c t)=(⟨(f pn).value*t.loss / 100,sumsD c (f pn) t.starts 0 c.covs.length,sumsD c (f pn) t.starts 1 c.covs.length,sumsD c (f pn) t.starts 2 c.covs.length⟩:Dmg).v):=hHd (by
    unfold damD;rw [if_pos hE,hf,hpn];rfl)
  have hv:=hFOK pn
  have hmul:0≤(f pn).value*t.loss∧(f pn).value*t.loss≤100000:=⟨Int.mul_nonneg hv.1 hlo.1,by
    have:(f pn).value*t.loss≤1000*100:=Int.mul_le_mul hv.2 hlo.2 hlo.1 (by omega);omega⟩
  have HC:Hid (∀W,Ext w W→Cells7 W A.a3 (c.covs.map Cov.c)):=hHd (fun W hx=>hm.covs.ext hx);have HST:Hid (∀W,Ext w W→IntsV W vst t.starts):=hHd (fun W hx=>hst.ext hx);have hnc:c.covs.length≤5:=hS.nc
  have HSO:Hid (∀k (h:k<c.covs.length),∃n:Nat,n<3∧(c.covs[k]).soc=(n:Int)∧0≤(c.covs[k]).sum∧(c.covs[k]).sum≤1000):=hHd (fun k h=>by
    have h1:=hS.cov (c.covs[k]) (List.getElem_mem h);have h2:=hS.soc;simp only [covB,socB,Bool.and_eq_true,inR_iff] at h1;exact⟨(c.covs[k]).soc.toNat,by omega,by omega,by omega,by omega⟩)
  have HBD:=hHd (fun j n hn=>sumsD_bd hS (f pn) t.starts j n hn)
  have HNX:Hid (∀(j:Int) k (h:k<c.covs.length),sumsD c (f pn) t.starts j (k+1)=sumsD c (f pn) t.starts j k+(if covs1 c (f pn) t.starts k&&decide ((c.covs[k]).soc=j) then (c.covs[k]).sum else 0)):=hHd (fun j k h=>by
    rw [sumsD_next];have e:c.covs.getD k default=c.covs[k]:=by simp [h]
    rw [e])
  have HC1:Hid (∀k (h:k<c.covs.length) (h':k<t.starts.length),covs1 c (f pn) t.starts k=(decide ((c.covs[k]).parcel=(pn:Int))&&((f pn).covers c.day&&(decide ((f pn).owner=(c.covs[k]).owner)&&(decide (t.starts[k]≤c.day)&&decide (c.day≤(c.covs[k]).till)))))):=hHd (fun k h h'=>by
    unfold covs1;have e:c.covs.getD k default=c.covs[k]:=by simp [h]
    have e2:t.starts.getD k 0=t.starts[k]:=by simp [h']
    dsimp only
    rw [e,e2,hpn])
  have HG:Hid (∀k,k<numsB c.bk→((List.range (numsB c.bk)).map f)[k]?=some (f k)):=hHd (fun k hk=>by simp [hk]);have HF:=hHd hf;obtain⟨b0,b1,b2,b3,-,b5,b6,b7,-,-,-,-⟩:=hbx;rw [hpn] at b6;rw [HD.out];clear hE hS hFOK HD hpn hm h1 h2 hf;unfold CaseA.b bkV at*;obtain⟨a1,c1,a2,c2,a3,c3,a4,c4⟩:=A;simp only at*;obtain⟨a5,n5,rfl,-⟩:=hd;obtain⟨a6,n6,rfl,-⟩:=hs;obtain⟨a7,n7,rfl,-⟩:=hst;obtain⟨dys,swn,sts,lo⟩:=t;simp only at*;rw [hls] at HST⊢;generalize hn8:dys.length=n8 at*;generalize hn9:swn.length=n9 at*;generalize c.bk.pars.length=n1 at*;generalize c.bk.ents.length=n2 at*;generalize c.bk.last=last at*;generalize c.bk.owners=owners at*;generalize c.day=day at*;generalize numsB c.bk=N at*;clear hn8 hn9;generalize hx:f pn=x at*;generalize hcv:c.covs=cvs at*;have HX:=hHd hx;clear hx hcv;simp only [Dmg.v];go_enter Tryz.func71,Tryz.ntmps71
  (go_wp2_with fail);obtain⟨W,hW,X,HS,HSf,HSz⟩:=bx4_4 w 61 (.slice a5 n8 n5) (.slice a6 n9 n6) (.slice a7 cvs.length n7) (.int .i64 lo) 139 (.int .i64 0) (.int .i64 0) (.int .i64 0) (.int .i64 0);rw [hW];clear hW
  have HSS:Hid (∀w',Ext W w'→(w'.cell? ⟨w.heap.size,0,none⟩=some (.slice a5 n8 n5)∧w'.cell? ⟨w.heap.size,1,none⟩=some (.slice a6 n9 n6)∧w'.cell? ⟨p,0,none⟩=some (.int .i64 last)∧w'.cell? ⟨p,1,none⟩=some (.int .i64 owners)∧w'.cell? ⟨p,2,none⟩=some (.slice a1 n1 c1)∧w'.cell? ⟨p,3,none⟩=some (.slice a2 n2 c2)∧w'.cell? ⟨p,5,none⟩=some (.int .i64 day)∧w'.cell? ⟨p,6,none⟩=some (.int .i64 pn))∧Ext W w'):=hHd (fun w' h=>by
    obtain⟨⟨q0,q1,q2,q3,r0,r1,r2,r3⟩,-⟩:=HS.out w' h;have Z:=X.trans h;exact⟨⟨q0,q1,Z.keep b0,Z.keep b1,Z.keep b2,Z.keep b3,Z.keep b5,Z.keep b6⟩,h⟩)
  obtain⟨⟨-,-,q2,q3,r0,r1,r2,r3⟩,-⟩:=HS.out W (Ext.refl _);have rf:=HSf.out W (Ext.refl _);clear HS HSf
  go_region_held3 (fun w'=>(w'.cell? ⟨w.heap.size,0,none⟩=some (.slice a5 n8 n5)∧w'.cell? ⟨w.heap.size,1,none⟩=some (.slice a6 n9 n6)∧w'.cell? ⟨p,0,none⟩=some (.int .i64 last)∧w'.cell? ⟨p,1,none⟩=some (.int .i64 owners)∧w'.cell? ⟨p,2,none⟩=some (.slice a1 n1 c1)∧w'.cell? ⟨p,3,none⟩=some (.slice a2 n2 c2)∧w'.cell? ⟨p,5,none⟩=some (.int .i64 day)∧w'.cell? ⟨p,6,none⟩=some (.int .i64 pn))∧Ext W w')
    ((refine HSS.out _ ?_;exact EX))
    ((go_at_call 128;(refine(HP.out _ EX).mono ?_);rintro e w3 ⟨f',al,ql,hf',rfl,hown,hx3⟩))
  have Y:Ext W w3:=EX;have XX:=X.trans Y;obtain⟨⟨-,-,-,-,-,-,p5,p6⟩,-⟩:=HSS.out w3 Y;replace b7:=XX.keep b7;replace rf:=fun o=>(Y.frozen (o:=o) (lt_of_cell r0)).trans (rf o)
  replace r0:=Y.keep r0;replace r1:=Y.keep r1;replace r2:=Y.keep r2;replace r3:=Y.keep r3;replace q2:=Y.keep q2;replace q3:=Y.keep q3;rw [HF.out,Option.some.injEq] at hf';subst hf';obtain⟨g,rfl,-,-,hat⟩:=Hs.Own.at (holdC_len day) hown (i:=pn) (by simpa using hpl);have m0:=hat 0 (.bool x.there) (by simp [HX.out,holdC]);have m1:=hat 1 (.bool (x.covers day)) (by simp [HX.out,holdC]);have m2:=hat 2 (.int .i64 x.owner) (by simp [HX.out,holdC]);have m3:=hat 3 (.int .i64 x.value) (by simp [HX.out,holdC]);simp only [Nat.add_zero] at m0;clear hat hown HF HP HG HSS;have hp0:(0:Int)≤(pn:Int):=by omega
  have hp1:(pn:Int)<(N:Int):=by omega
  have hw:IntKind.i64.wrap (x.value*lo)=x.value*lo:=IntWalk.i64_in _ (by omega);have hdv:(x.value*lo).tdiv 100=x.value*lo / 100:=tdiv_ok hmul.1;have hw2:IntKind.i64.wrap (x.value*lo / 100)=x.value*lo / 100:=IntWalk.i64_in _ (by omega);have q3a:=fun o=>((Ext.refl w3).alloc o).keep q3
  have r0a:=fun o=>((Ext.refl w3).alloc o).keep r0
  have rfa:=fun o b=>(((Ext.refl w3).alloc o).frozen (o:=b) (lt_of_cell r0)).trans (rf b)
  have ne0:¬w.heap.size+1=w3.heap.size:=by have:=Y.size;omega
  have pz:p<w.heap.size:=lt_of_cell b0;have ne1:¬p=w.heap.size+1:=by omega
  have ne1':¬w.heap.size+1=p:=by omega
  have b7a:=fun o=>((Ext.refl w3).alloc o).keep b7
  (go_wp2_with fail);have T1:w.heap.size≤w3.heap.size:=XX.size;have XV:Ext w ((w3.alloc (.cells #[.bool x.there,.bool (x.covers day),.int .i64 x.owner,.int .i64 x.value] 211)).setCell ⟨w.heap.size+1,0,none⟩ (.int .i64 (x.value*lo / 100))):=(XX.alloc _).setCell (by omega) _
  have DV:DamC (w.heap.size+1) (x.value*lo / 100) (fun j=>sumsD c x sts j 0) ((w3.alloc (.cells #[.bool x.there,.bool (x.covers day),.int .i64 x.owner,.int .i64 x.value] 211)).setCell ⟨w.heap.size+1,0,none⟩ (.int .i64 (x.value*lo / 100))):=
    ⟨World.cell?_setCell_same _ _ _ (r0a _),fun j hj=>cell_ne (.inr (by omega)) (((Ext.refl w3).alloc _).keep (by
      rcases j with _|_|_|j
      · exact r1
      · exact r2
      · exact r3
      · omega)),fun o=>by rw [World.frozen?_setCell];exact rfa _ _⟩
  have y0:((w3.alloc (.cells #[.bool x.there,.bool (x.covers day),.int .i64 x.owner,.int .i64 x.value] 211)).setCell ⟨w.heap.size+1,0,none⟩ (.int .i64 (x.value*lo / 100))).cell? ⟨w3.heap.size,0,none⟩=some (.bool x.there):=cell_ne (.inl (by omega)) (by simp [go_sem]);have y1:((w3.alloc (.cells #[.bool x.there,.bool (x.covers day),.int .i64 x.owner,.int .i64 x.value] 211)).setCell ⟨w.heap.size+1,0,none⟩ (.int .i64 (x.value*lo / 100))).cell? ⟨w3.heap.size,1,none⟩=some (.bool (x.covers day)):=cell_ne (.inl (by omega)) (by simp [go_sem]);have y2:((w3.alloc (.cells #[.bool x.there,.bool (x.covers day),.int .i64 x.owner,.int .i64 x.value] 211)).setCell ⟨w.heap.size+1,0,none⟩ (.int .i64 (x.value*lo / 100))).cell? ⟨w3.heap.size,2,none⟩=some (.int .i64 x.owner):=cell_ne (.inl (by omega)) (by simp [go_sem]);have t1:((w3.alloc (.cells #[.bool x.there,.bool (x.covers day),.int .i64 x.owner,.int .i64 x.value] 211)).setCell ⟨w.heap.size+1,0,none⟩ (.int .i64 (x.value*lo / 100))).cell? ⟨w.heap.size,2,none⟩=some (.slice a7 cvs.length n7):=cell_ne (.inl (by omega)) (((Ext.refl w3).alloc _).keep q2);have nW:w3.heap.size<((w3.alloc (.cells #[.bool x.there,.bool (x.covers day),.int .i64 x.owner,.int .i64 x.value] 211)).setCell ⟨w.heap.size+1,0,none⟩ (.int .i64 (x.value*lo / 100))).heap.size:=by simp
  have HV:Hid (∀W',KP (fun j=>j=w.heap.size+1) ((w3.alloc (.cells #[.bool x.there,.bool (x.covers day),.int .i64 x.owner,.int .i64 x.value] 211)).setCell ⟨w.heap.size+1,0,none⟩ (.int .i64 (x.value*lo / 100))) W'→(W'.cell? ⟨w3.heap.size,1,none⟩=some (.bool (x.covers day))∧W'.cell? ⟨w3.heap.size,2,none⟩=some (.int .i64 x.owner)∧W'.cell? ⟨w.heap.size,2,none⟩=some (.slice a7 cvs.length n7)∧W'.cell? ⟨p,5,none⟩=some (.int .i64 day)∧W'.cell? ⟨p,6,none⟩=some (.int .i64 pn))∧Ext w W'):=hHd (fun W' h=>
    ⟨⟨h.keep (by omega) y1,h.keep (by omega) y2,h.keep (by omega) t1,(h.toExt XV (fun k hk=>by omega)).keep b5,(h.toExt XV (fun k hk=>by omega)).keep b6⟩,h.toExt XV (fun k hk=>by omega)⟩)
  generalize ((w3.alloc (.cells #[.bool x.there,.bool (x.covers day),.int .i64 x.owner,.int .i64 x.value] 211)).setCell ⟨w.heap.size+1,0,none⟩ (.int .i64 (x.value*lo / 100)))=V at*;clear m0 m1 m2 m3 q2 q3 r0 r1 r2 r3 rf q3a r0a rfa b7 b7a y0 y1 y2 t1 hw hdv hw2 p5 p6 b0 b1 b2 b3 b5 b6 hmul hv;have HLS:=hHd hls;clear hls;go_loopw [51] (fun s wr=>∃k:Nat,k≤cvs.length∧s= .int .i64 k∧KP (fun j=>j=w.heap.size+1) V wr∧Hid (DamC (w.heap.size+1) (x.value*lo / 100) (fun j=>sumsD c x sts j k) wr)) (fun s _=>cvs.length - (intOf s).toNat)
  case atStart=>exact⟨0,Nat.zero_le _,rfl,KP.refl _,hHd DV⟩
  case round=>
    obtain⟨k,hk,rfl,hkp,HDM⟩:=hrel;obtain⟨wo,rfl⟩:∃x,x=wr:=⟨_,rfl⟩;obtain⟨⟨y1,y2,t1,p5,p6⟩,hxw⟩:=HV.out wo hkp;by_cases hks:k<cvs.length
    · have hkt : k < sts.length := by rw [HLS.out]; exact hks
      obtain⟨b',off,rfl,hce⟩:=HC.out wo hxw k (by simpa using hks);have e1:(cvs.map Cov.c)[k]'(by simpa using hks)=(cvs[k]).c:=by simp
      rw [e1] at hce;clear e1;obtain⟨as',cs',ev,hcs,-,hrow⟩:=HST.out wo hxw;simp only [Value.slice.injEq] at ev;obtain⟨rfl,-,rfl⟩:=ev;obtain⟨bs,os,rfl,-⟩:=hrow k hkt;have ks:=(Rows.at hrow k hkt).1;clear hrow;have HN:=hHd (fun j=>HNX.out j k hks);have HA:=hHd (HC1.out k hks hkt);have HB:=hHd (fun j=>HBD.out j k hk);obtain⟨sn,hsn,hso,hsu⟩:=HSO.out k hks;generalize sts[k]=st at*;generalize cvs[k]=kc at*;obtain⟨so,ow,pa,su,ti,sl,sh⟩:=kc;obtain⟨k0,k1,k2,k3,k4,k5,k6⟩:=hce;simp only [Cov.c] at k0 k1 k2 k3 k4 k5 k6 HN HA hso hsu;subst hso;have hk0:(0:Int)≤(k:Int):=by omega
      have hk1:(k:Int)<(cvs.length:Int):=by omega
      obtain⟨cb,hcb⟩:∃cb,cb=covs1 c x sts k:=⟨_,rfl⟩;have HCB:=hHd hcb;clear hcb;go_upto_region 9 with fail
      have M8:Ext wo (wo.alloc (.cells #[.int .i64 (sn:Int),.int .i64 ow,.int .i64 pa,.int .i64 su,.int .i64 ti,.int .i64 sl,.int .i64 sh] 127)):=EX
      have HS8:Hid (∀w',Ext (wo.alloc (.cells #[.int .i64 (sn:Int),.int .i64 ow,.int .i64 pa,.int .i64 su,.int .i64 ti,.int .i64 sl,.int .i64 sh] 127)) w'→w'.cell? ⟨wo.heap.size,0,none⟩=some (.int .i64 (sn:Int))∧w'.cell? ⟨wo.heap.size,1,none⟩=some (.int .i64 ow)∧w'.cell? ⟨wo.heap.size,2,none⟩=some (.int .i64 pa)∧w'.cell? ⟨wo.heap.size,3,none⟩=some (.int .i64 su)∧w'.cell? ⟨wo.heap.size,4,none⟩=some (.int .i64 ti)∧w'.cell? ⟨wo.heap.size,5,none⟩=some (.int .i64 sl)∧w'.cell? ⟨wo.heap.size,6,none⟩=some (.int .i64 sh)∧w'.cell? ⟨w3.heap.size,1,none⟩=some (.bool (x.covers day))∧w'.cell? ⟨w3.heap.size,2,none⟩=some (.int .i64 x.owner)∧w'.cell? ⟨w.heap.size,2,none⟩=some (.slice (some ⟨bs,os,none⟩) cvs.length n7)∧w'.cell? ⟨p,5,none⟩=some (.int .i64 day)∧w'.cell? ⟨p,6,none⟩=some (.int .i64 pn)∧w'.cell? ⟨bs,os+k,none⟩=some (.int .i64 st)):=hHd (fun w' h=>by
        have Z:=M8.trans h;exact⟨h.keep (by simp [go_sem]),h.keep (by simp [go_sem]),h.keep (by simp [go_sem]),h.keep (by simp [go_sem]),h.keep (by simp [go_sem]),h.keep (by simp [go_sem]),h.keep (by simp [go_sem]),Z.keep y1,Z.keep y2,Z.keep t1,Z.keep p5,Z.keep p6,Z.keep (by simpa using ks)⟩)
      have HD8:Hid (∀W',Ext (wo.alloc (.cells #[.int .i64 (sn:Int),.int .i64 ow,.int .i64 pa,.int .i64 su,.int .i64 ti,.int .i64 sl,.int .i64 sh] 127)) W'→DamC (w.heap.size+1) (x.value*lo / 100) (fun j=>sumsD c x sts j k) W'):=hHd (fun W' h=>by
        have Z:=M8.trans h;have D:=HDM.out;exact⟨Z.keep D.a,fun j hj=>Z.keep (D.s j hj),fun o=>(Z.frozen (lt_of_cell D.a)).trans (D.fr o)⟩)
      have nT:w.heap.size+1<wo.heap.size:=lt_of_cell HDM.out.a;clear k0 k1 k2 k3 k4 k5 k6 y1 y2 t1 p5 p6 ks;generalize (wo.alloc (.cells #[.int .i64 (sn:Int),.int .i64 ow,.int .i64 pa,.int .i64 su,.int .i64 ti,.int .i64 sl,.int .i64 sh] 127))=W8 at*;go_cut [97] from 56 to 97 (fun s wx=>s= .bool cb∧Ext W8 wx)
      case first =>
        clear HN HB HD8 HV HDM HC HST HSO HBD HNX HC1 HLS HX hsu hsn M8 hxw hkp nT nW T1 XV DV X XX hx3 HSz hnc ne0 ne1 ne1' hp0 hp1 hpl hlo Y;by_cases h1:pa=(pn:Int)
        · have d1 : (pa == (pn : Int)) = true := by rw [beq_iff_eq]; exact h1
          replace HA:Hid (covs1 c x sts k=(x.covers day&&(decide (x.owner=ow)&&(decide (st≤day)&&decide (day≤ti))))):=hHd (by rw [HA.out,decide_eq_true h1,Bool.true_and]);clear h1;generalize x.covers day=cv at*;cases cv with
          | false =>
            refine wp_region_quiet (C:=Ext W8) (by kernel_rfl) (by kernel_rfl) (Ext.drew EX) ?_
            rw [tl]
            repeat (first
              |go_big_quiet_skip
              | (go_big_quiet_want
                 first
                  |(go_big_quiet_op;go_big_quiet_on)
                  | (apply Exists.intro
                     refine⟨fun w' hxw=> ?_,?_⟩
                     focus (obtain⟨k0,k1,k2,k3,k4,k5,k6,y1,y2,t1,p5,p6,ks⟩:=HS8.out w' hxw;go_simp;first|exact rfl)
                     simp only [Act.put,List.setIfInBounds_toArray,List.set_cons_zero,List.set_cons_succ];go_big_quiet_on)))
            refine wpQuiet_nil ?_
            intro w2 hx2
            (go_wp2_with fail);go_meet
            exact⟨by rw [HCB.out,HA.out];try rfl,hx2⟩
          | true =>
            by_cases h3:x.owner=ow
            · have d3 : (x.owner == ow) = true := by rw [beq_iff_eq]; exact h3
              replace HA:Hid (covs1 c x sts k=(decide (st≤day)&&decide (day≤ti))):=hHd (by rw [HA.out,decide_eq_true h3,Bool.true_and,Bool.true_and]);clear h3;by_cases h4:st≤day
              · have d4 : decide (st ≤ day) = true := decide_eq_true h4; replace HA : Hid (covs1 c x sts k = decide (day ≤ ti)) := hHd (by rw [HA.out, d4, Bool.true_and]); clear h4; by_cases h5 : day ≤ ti
                · have d5 : decide (day ≤ ti) = true := decide_eq_true h5; replace HA : Hid (covs1 c x sts k = true) := hHd (by rw [HA.out, d5]); clear h5; refine wp_region_quiet (C := Ext W8) (by kernel_rfl) (by kernel_rfl) (Ext.drew EX) ?_
                  rw [tl]
                  repeat (first
                    |go_big_quiet_skip
                    | (go_big_quiet_want
                       first
                        |(go_big_quiet_op;go_big_quiet_on)
                        | (apply Exists.intro
                           refine⟨fun w' hxw=> ?_,?_⟩
                           focus (obtain⟨k0,k1,k2,k3,k4,k5,k6,y1,y2,t1,p5,p6,ks⟩:=HS8.out w' hxw;go_simp;first|exact rfl)
                           simp only [Act.put,List.setIfInBounds_toArray,List.set_cons_zero,List.set_cons_succ];go_big_quiet_on)))
                  refine wpQuiet_nil ?_
                  intro w2 hx2
                  (go_wp2_with fail);go_meet
                  exact⟨by rw [HCB.out,HA.out];try rfl,hx2⟩
                · have d5 : decide (day ≤ ti) = false := decide_eq_false h5; replace HA : Hid (covs1 c x sts k = false) := hHd (by rw [HA.out, d5]); clear h5; refine wp_region_quiet (C := Ext W8) (by kernel_rfl) (by kernel_rfl) (Ext.drew EX) ?_
                  rw [tl]
                  repeat (first
                    |go_big_quiet_skip
                    | (go_big_quiet_want
                       first
                        |(go_big_quiet_op;go_big_quiet_on)
                        | (apply Exists.intro
                           refine⟨fun w' hxw=> ?_,?_⟩
                           focus (obtain⟨k0,k1,k2,k3,k4,k5,k6,y1,y2,t1,p5,p6,ks⟩:=HS8.out w' hxw;go_simp;first|exact rfl)
                           simp only [Act.put,List.setIfInBounds_toArray,List.set_cons_zero,List.set_cons_succ];go_big_quiet_on)))
                  refine wpQuiet_nil ?_
                  intro w2 hx2
                  (go_wp2_with fail);go_meet
                  exact⟨by rw [HCB.out,HA.out];try rfl,hx2⟩
              · have d4 : decide (st ≤ day) = false := decide_eq_false h4; replace HA : Hid (covs1 c x sts k = false) := hHd (by rw [HA.out, d4, Bool.false_and]); clear h4; refine wp_region_quiet (C := Ext W8) (by kernel_rfl) (by kernel_rfl) (Ext.drew EX) ?_
                rw [tl]
                repeat (first
                  |go_big_quiet_skip
                  | (go_big_quiet_want
                     first
                      |(go_big_quiet_op;go_big_quiet_on)
                      | (apply Exists.intro
                         refine⟨fun w' hxw=> ?_,?_⟩
                         focus (obtain⟨k0,k1,k2,k3,k4,k5,k6,y1,y2,t1,p5,p6,ks⟩:=HS8.out w' hxw;go_simp;first|exact rfl)
                         simp only [Act.put,List.setIfInBounds_toArray,List.set_cons_zero,List.set_cons_succ];go_big_quiet_on)))
                refine wpQuiet_nil ?_
                intro w2 hx2
                (go_wp2_with fail);go_meet
                exact⟨by rw [HCB.out,HA.out];try rfl,hx2⟩
            · have d3 : (x.owner == ow) = false := by rw [beq_eq_false_iff_ne]; exact h3
              replace HA:Hid (covs1 c x sts k=false):=hHd (by rw [HA.out,decide_eq_false h3];rfl);clear h3;refine wp_region_quiet (C:=Ext W8) (by kernel_rfl) (by kernel_rfl) (Ext.drew EX) ?_
              rw [tl]
              repeat (first
                |go_big_quiet_skip
                | (go_big_quiet_want
                   first
                    |(go_big_quiet_op;go_big_quiet_on)
                    | (apply Exists.intro
                       refine⟨fun w' hxw=> ?_,?_⟩
                       focus (obtain⟨k0,k1,k2,k3,k4,k5,k6,y1,y2,t1,p5,p6,ks⟩:=HS8.out w' hxw;go_simp;first|exact rfl)
                       simp only [Act.put,List.setIfInBounds_toArray,List.set_cons_zero,List.set_cons_succ];go_big_quiet_on)))
              refine wpQuiet_nil ?_
              intro w2 hx2
              (go_wp2_with fail);go_meet
              exact⟨by rw [HCB.out,HA.out];try rfl,hx2⟩
        · have d1 : (pa == (pn : Int)) = false := by rw [beq_eq_false_iff_ne]; exact h1
          replace HA:Hid (covs1 c x sts k=false):=hHd (by rw [HA.out,decide_eq_false h1,Bool.false_and]);clear h1;refine wp_region_quiet (C:=Ext W8) (by kernel_rfl) (by kernel_rfl) (Ext.drew EX) ?_
          rw [tl]
          repeat (first
            |go_big_quiet_skip
            | (go_big_quiet_want
               first
                |(go_big_quiet_op;go_big_quiet_on)
                | (apply Exists.intro
                   refine⟨fun w' hxw=> ?_,?_⟩
                   focus (obtain⟨k0,k1,k2,k3,k4,k5,k6,y1,y2,t1,p5,p6,ks⟩:=HS8.out w' hxw;go_simp;first|exact rfl)
                   simp only [Act.put,List.setIfInBounds_toArray,List.set_cons_zero,List.set_cons_succ];go_big_quiet_on)))
          refine wpQuiet_nil ?_
          intro w2 hx2
          (go_wp2_with fail);go_meet
          exact⟨by rw [HCB.out,HA.out];try rfl,hx2⟩
      case rest=>
        obtain⟨rfl,hxc⟩:=hcut;obtain⟨wd,rfl⟩:∃y,y=wc:=⟨_,rfl⟩;have D:=HD8.out wd hxc;have q0:=HS8.out wd hxc;obtain⟨k0,-,-,k3,-⟩:=q0;have KV:KP (fun j=>j=w.heap.size+1) V wd:=(hkp.ext M8).ext hxc;have Da:=D.s sn hsn;have Df:=D.fr;have HD:=hHd D;clear D HD8 HS8 HV HDM;have hi0:(0:Int)≤(sn:Int):=by omega
        have hi1:(sn:Int)<3:=by omega
        cases cb with
        | false =>
          have HNF:Hid (∀j:Nat,sumsD c x sts j (k+1)=sumsD c x sts j k):=hHd (fun j=>by rw [HN.out,←HCB.out];simp);(go_wp2_with fail);go_roundw
          case rel=>exact⟨k+1,by omega,by go_num,KV,hHd ⟨HD.out.a,fun j hj=>by rw [HNF.out];exact HD.out.s j hj,HD.out.fr⟩⟩
          case measure=>simp [intOf];omega
        | true =>
          have hb:=HB.out sn;have hw:IntKind.i64.wrap (sumsD c x sts sn k+su)=sumsD c x sts sn k+su:=IntWalk.i64_in _ (by omega)
          have HNT:Hid (∀j:Nat,sumsD c x sts j (k+1)=if j=sn then sumsD c x sts sn k+su else sumsD c x sts j k):=hHd (fun j=>by
            rw [HN.out,←HCB.out];by_cases e:j=sn
            · subst e;simp
            · have : ¬ (sn : Int) = (j : Int) := by omega
              simp [e,this])
          clear hb;(go_wp2_with fail);go_region;(go_wp2_with fail);go_roundw
          case rel=>exact⟨k+1,by omega,by go_num,(KV.setCell rfl _).drew,hHd ((DamC.put (S:=fun j=>sumsD c x sts j k) ⟨HD.out.a,HD.out.s,HD.out.fr⟩ sn _ hsn (fun j=>HNT.out j)).ext (Ext.refl _).drew)⟩
          case measure=>simp [intOf];omega
    · obtain rfl : k = cvs.length := by omega
      have D:=HDM.out;have z0:=D.a;have z1:=D.s 0 (by decide);have z2:=D.s 1 (by decide);have z3:=D.s 2 (by decide);have zf:=D.fr;have hxo:=hxw;simp only [Nat.add_zero,Nat.reduceAdd] at z1 z2 z3;rw [show ((0:Nat):Int)=0 from rfl] at z1;rw [show ((1:Nat):Int)=1 from rfl] at z2;rw [show ((2:Nat):Int)=2 from rfl] at z3;clear D HDM HV y1 y2 t1 p5 p6;generalize hS0:sumsD c x sts 0 cvs.length=S0 at*;have HS0:=hHd hS0;clear hS0;generalize hS1:sumsD c x sts 1 cvs.length=S1 at*;have HS1:=hHd hS1;clear hS1;generalize hS2:sumsD c x sts 2 cvs.length=S2 at*;have HS2:=hHd hS2;clear hS2;generalize ham:x.value*lo / 100=am at*;have Ham:=hHd ham;clear ham;(go_wp2_with fail);refine bodyPost_ret (v:= .tuple #[.agg #[.int .i64 am,.int .i64 S0,.int .i64 S1,.int .i64 S2],.bool true]) (by simp [results,Tryz.results71,go_sem,z0,z1,z2,z3]) rfl ⟨by rw [HS0.out,HS1.out,HS2.out,Ham.out],?_⟩
      exact(((hxo.setCell (by omega) _).setCell (by omega) _).setCell (by omega) _).setCell (by omega) _
end Go.Proofs.YtegkdnfeceomdaaGreat
namespace Go.Hs
open Go.RowKit
theorem mem_allL:∀ {rs:List (Int×Int)} {l:List Int},l∈allL rs→l.length=rs.length∧∀i (h:i<rs.length),rs[i].1≤l.getD i 0∧l.getD i 0≤rs[i].2
  | [], l, h => by
    have:l= []:=by simpa [allL] using h
    subst this;exact⟨rfl,fun i h=>absurd h (Nat.not_lt_zero _)⟩
  | r :: t, l, h => by
    rw [allL_cons] at h;obtain⟨a,ha,hl⟩:=List.mem_flatMap.1 h;obtain⟨l',hl',rfl⟩:=List.mem_map.1 hl;have ih:=mem_allL hl';have ha':=List.mem_range.1 ha;refine⟨by simp [ih.1],fun i hi=> ?_⟩
    cases i with
    | zero =>
      simp only [List.getElem_cons_zero,List.getD_cons_zero];omega
    | succ i =>
      simp only [List.getElem_cons_succ,List.getD_cons_succ];exact ih.2 i (by simpa using hi)
theorem getD_take {l:List Int} {n i:Nat} (h:i<n):(l.take n).getD i 0=l.getD i 0:=by
 simp [List.getD_eq_getElem?_getD,List.getElem?_take,h]
theorem getD_drop {l:List Int} {n i:Nat} :(l.drop n).getD i 0=l.getD (n+i) 0:=by
 simp [List.getD_eq_getElem?_getD]
structure TruOK (c:DCas) (t:DTr):Prop where
 l1:t.days.length=c.bk.ents.length
 l2:t.sown.length=c.bk.pars.length
 l3:t.starts.length=c.covs.length
 listed:listedK c.bk t.days t.sown=true
 loss:c.llo≤t.loss∧t.loss≤c.lhi
theorem truD_ok {c:DCas} {l:List Int} (h:l∈allL (rngsD c)):TruOK c (truD c l):=by
 obtain⟨hl,hr⟩:=mem_allL h;rw [rngsD_len] at hl;have e1:(truD c l).days.length=c.bk.ents.length:=by simp [truD];omega
 have e2:(truD c l).sown.length=c.bk.pars.length:=by simp [truD];omega
 have e3:(truD c l).starts.length=c.covs.length:=by simp [truD];omega
 refine⟨e1,e2,e3,?_,?_⟩
 ·unfold listedK; rw [decide_eq_true e1, decide_eq_true e2, Bool.true_and, Bool.true_and, Bool.and_eq_true]; refine ⟨List.all_eq_true.2 (fun i hi => ?_), List.all_eq_true.2 (fun i hi => ?_)⟩
  ·have hi := List.mem_range.1 hi; have := hr i (by rw [rngsD_len]; omega)
   have eq:(rngsD c)[i]'(by rw [rngsD_len];omega)=((c.bk.ents[i]).dlo,(c.bk.ents[i]).dhi):=by
    unfold rngsD;rw [List.getElem_append_left (by simpa using hi)];simp
   rw [eq] at this;have e4:(truD c l).days.getD i 0=l.getD i 0:=getD_take hi;have e5:c.bk.ents.getD i default=c.bk.ents[i]:=by simp [hi]
   rw [e4,e5,inR_iff];exact this
  ·have hi := List.mem_range.1 hi; have := hr (c.bk.ents.length + i) (by rw [rngsD_len]; omega)
   have eq:(rngsD c)[c.bk.ents.length+i]'(by rw [rngsD_len];omega)=((c.bk.pars[i]).slo,(c.bk.pars[i]).shi):=by
    unfold rngsD;rw [List.getElem_append_right (by simp)];simp only [List.length_map,Nat.add_sub_cancel_left];rw [List.getElem_append_left (by simpa using hi)];simp
   rw [eq] at this;have e4:(truD c l).sown.getD i 0=l.getD (c.bk.ents.length+i) 0:=(getD_take hi).trans getD_drop;have e5:c.bk.pars.getD i default=c.bk.pars[i]:=by simp [hi]
   rw [e4,e5,inR_iff];exact this
 ·have := hr (c.bk.ents.length + c.bk.pars.length + c.covs.length) (by rw [rngsD_len]; omega)
  have eq:(rngsD c)[c.bk.ents.length+c.bk.pars.length+c.covs.length]'(by rw [rngsD_len];omega)=(c.llo,c.lhi):=by
   unfold rngsD;rw [List.getElem_append_right (by simp;omega)];rw [List.getElem_append_right (by simp;omega)];rw [List.getElem_append_right (by simp;omega)];simp
  rw [eq] at this;exact this
def goodD (c:DCas) (out:List Int) (d:Dmg):Bool:=(List.range c.clms.length).all (fun i=>decide ((i:Int)∈out)||rightD (c.clms.getD i default) d)
def tryD (c:DCas) (out:List Int) (l:List Int):Option (DTr×Dmg):=(damD c (truD c l)).bind (fun d=>if goodD c out d then some (truD c l,d) else none)
def truthsD (c:DCas) (out:List Int):List (DTr×Dmg):=(allL (rngsD c)).filterMap (tryD c out)
def cntD (c:DCas) (out:List Int) (i:Nat):Nat:=(((allL (rngsD c)).take i).filterMap (tryD c out)).length
theorem cntD_all (c:DCas) (out:List Int):cntD c out (allL (rngsD c)).length=(truthsD c out).length:=by unfold cntD truthsD;rw [List.take_length]
theorem cntD_no {c:DCas} {out:List Int} {i:Nat} (h:i<(allL (rngsD c)).length) (hn:tryD c out (allL (rngsD c))[i]=none):cntD c out (i+1)=cntD c out i:=by
 unfold cntD;rw [List.take_succ_eq_append_getElem h,List.filterMap_append];simp [hn]
theorem cntD_yes {c:DCas} {out:List Int} {i:Nat} (h:i<(allL (rngsD c)).length) {x:DTr×Dmg} (hs:tryD c out (allL (rngsD c))[i]=some x):cntD c out (i+1)=cntD c out i+1∧∃h2:cntD c out i<(truthsD c out).length,(truthsD c out)[cntD c out i]=x:=by
 have h1:cntD c out (i+1)=cntD c out i+1:=by
  unfold cntD;rw [List.take_succ_eq_append_getElem h,List.filterMap_append];simp [hs]
 refine⟨h1,?_⟩
 have e:truthsD c out=(((allL (rngsD c)).take i).filterMap (tryD c out))++(x::((allL (rngsD c)).drop (i+1)).filterMap (tryD c out)):=by
  unfold truthsD;conv=>lhs;rw [←List.take_append_drop i (allL (rngsD c))]
  rw [List.filterMap_append,List.drop_eq_getElem_cons h,List.filterMap_cons,hs]
 have h2:(truthsD c out)[cntD c out i]?=some x:=by
  rw [e,List.getElem?_append_right (by unfold cntD;exact Nat.le_refl _)];simp [cntD]
 obtain⟨h3,h4⟩:=List.getElem?_eq_some_iff.1 h2;exact⟨h3,h4⟩
theorem damD_some {c:DCas} {t:DTr} (h:playK c.bk t.days t.sown c.day=0):(damD c t).isSome=true:=by unfold damD;rw [if_pos h];rfl
theorem damD_none {c:DCas} {t:DTr} (h:playK c.bk t.days t.sown c.day≠0):damD c t=none:=by unfold damD;rw [if_neg h]
theorem mm_ints {m:Nat} {w w':World} {v:Value} {xs:List Int} (h:IntsV w v xs) (k:MM m w w') (hs:Stl m w):IntsV w' v xs:=by
 obtain⟨a,c,rfl,h1,h2,h3⟩:=h;exact⟨a,c,rfl,h1,h2,fun i hi=>let ⟨b,o,e,hc⟩:=h3 i hi;⟨b,o,e,k.keep hs hc.1,hc.2⟩⟩
theorem mm_tru {m:Nat} {w w':World} {v:Value} {t:DTr} (h:TruV w v t) (k:MM m w w') (hs:Stl m w):TruV w' v t:=
 let ⟨a,b,c,e,h1,h2,h3⟩:=h;⟨a,b,c,e,mm_ints h1 k hs,mm_ints h2 k hs,mm_ints h3 k hs⟩
theorem mm_case {m:Nat} {w w':World} {A:CaseA} {c:DCas} (h:CaseM w A c) (k:MM m w w') (hs:Stl m w):CaseM w' A c:=by
 refine⟨fun i hi=> ?_,fun i hi=> ?_,fun i hi=> ?_,fun i hi=> ?_,h.l1,h.l2,h.l3,h.l4⟩
 ·obtain⟨b,o,e,hc⟩:=h.pars i hi;exact⟨b,o,e,k.keep hs hc.1,k.keep hs hc.2.1,k.keep hs hc.2.2.1,k.keep hs hc.2.2.2⟩
 ·obtain⟨b,o,e,h0,h1,h2,h3,h4,h5,h6,h7⟩:=h.ents i hi;exact⟨b,o,e,k.keep hs h0,k.keep hs h1,k.keep hs h2,k.keep hs h3,k.keep hs h4,k.keep hs h5,k.keep hs h6,k.keep hs h7⟩
 ·obtain⟨b,o,e,h0,h1,h2,h3,h4,h5,h6⟩:=h.covs i hi;exact⟨b,o,e,k.keep hs h0,k.keep hs h1,k.keep hs h2,k.keep hs h3,k.keep hs h4,k.keep hs h5,k.keep hs h6⟩
 ·obtain⟨b,o,e,h0,h1,h2⟩:=h.clms i hi;exact⟨b,o,e,k.keep hs h0,k.keep hs h1,k.keep hs h2⟩
theorem box_mm {p m:Nat} {A:CaseA} {c:DCas} {w w':World} (h:BoxD p m A c w) (k:MM m w w') (hs:Stl m w):BoxD p m A c w':=
 ⟨k.keep hs h.c0,k.keep hs h.c1,k.keep hs h.c2,k.keep hs h.c3,k.keep hs h.c4,k.keep hs h.c5,k.keep hs h.c6,k.keep hs h.c7,k.keep hs h.c8,k.keep hs h.c9,k.keep hs h.c10,k.keep hs h.c11⟩
theorem inv_stl (m:Nat):Inv (fun k=>k=m) (Stl m):=fun _ _ h hs=>hs.of (h m rfl)
theorem mm_belq {m n:Nat} {w w':World} (h:MM m w w') (hn:n≤w.heap.size):BelQ (fun k=>k=m) (Stl m) n w w':=⟨h.kp.os,h.kp.tape,h.kp.output,h.kp.size,fun k hk hq=>h.kp.block k (by omega) hq,h.stl⟩
theorem mm_kept {m n:Nat} {w w':World} (h:MM m w w') (hm:m<n):Kept n w w':=⟨h.size,fun k hk hl=>h.kp.block k hl (by omega)⟩
end Go.Hs
namespace Go.Proofs.YtegkdnfeceomdaaGreat
open Go.RowKit Go.Hs
theorem damage_d (p m:Nat) (A:CaseA) (c:DCas) (t:DTr) (v:Value) (w:World) (hbx:BoxD p m A c w) (hm:CaseM w A c) (hS:CasS c) (hv:TruV w v t) (ht:TruOK c t):
  Calls Tryz.prog 71 #[.pointer (some ⟨p,0,none⟩),v] w fun e w'=>e= .returned (.tuple #[dmgO (damD c t),.bool (damD c t).isSome])∧Ext w w':=by
 obtain⟨vd,vs,vst,rfl,h1,h2,h3⟩:=hv;have l1:=hm.l1.2;have l2:=hm.l2.2;have hb:=hS.loss;have k1:=ht.loss;by_cases hE:playK c.bk t.days t.sown c.day=0
 ·rw [damD_some hE];exact damage_good p m A c t vd vs vst w hbx hm hS h1 h2 (by rw [ht.l1];omega) (by rw [ht.l2];omega) h3 ht.l3 (by omega) hE
 ·rw [damD_none hE];exact damage_bad p m A c t vd vs vst w hbx hm h1 h2 (by rw [ht.l1];omega) (by rw [ht.l2];omega) h3 hE
end Go.Proofs.YtegkdnfeceomdaaGreat
