/- A case without its claims: words and plain laws. -/
import Derived.Test.YtegkdnfeceomdaaGreatKDG1
import Derived.Test.YtegkdnfeceomdaaGreatKDC10
import Derived.Test.YtegkdnfeceomdaaGreatKDA23
import Derived.Test.YtegkdnfeceomdaaGreatKDC3
import Derived.Test.YtegkdnfeceomdaaGreatKDB1
set_option maxRecDepth 100000
set_option maxHeartbeats 16000000
set_option linter.unusedSimpArgs false
set_option linter.unusedVariables false
namespace Go.Hs
open Go.RowKit Go.Proofs.YtegkdnfeceomdaaGreat
theorem DCasW.parts0 {w:World} {v:Value} {c:DCas} (h:DCasW w v c):∃A:CaseA,v=A.v c∧(c.bk.pars.length≤1000→c.bk.ents.length≤1000→c.covs.length≤1000→CaseM w ⟨A.a1,A.c1,A.a2,A.c2,A.a3,A.c3,none,0⟩ { c with clms:= [] }):=by
 obtain⟨vp,ve,vc,vm,rfl,⟨a1,c1,rfl,p1⟩,⟨a2,c2,rfl,p2⟩,⟨a3,c3,rfl,p3⟩,⟨a4,c4,rfl,-⟩,hi⟩:=h;refine⟨⟨a1,c1,a2,c2,a3,c3,a4,c4⟩,rfl,fun h1 h2 h3=> ?_⟩
 have h0:DCasW w (.agg #[.int .i64 c.bk.last,.int .i64 c.bk.owners,.slice a1 c.bk.pars.length c1,.slice a2 c.bk.ents.length c2,.int .i64 c.soc,.int .i64 c.day,.int .i64 c.parcel,.slice a3 c.covs.length c3,.int .i64 c.llo,.int .i64 c.lhi,.slice none 0 0]) { c with clms:= [] } :=
  ⟨_,_,_,_,rfl,⟨a1,c1,rfl,p1⟩,⟨a2,c2,rfl,p2⟩,⟨a3,c3,rfl,p3⟩,⟨none,0,rfl,Nat.le_refl _,by simp,fun i hi=>absurd hi (Nat.not_lt_zero _)⟩,⟨hi.1,hi.2,hi.3,hi.4,hi.5,hi.6,hi.7⟩⟩
 obtain⟨⟨b1,d1,b2,d2,b3,d3,b4,d4⟩,e,hm⟩:=h0.toM h1 h2 h3 (Nat.zero_le _);unfold CaseA.v caseV at e;simp only [Value.agg.injEq,Array.mk.injEq,List.cons.injEq,Value.slice.injEq,and_true,true_and] at e;obtain⟨⟨rfl,rfl⟩,⟨rfl,rfl⟩,⟨rfl,rfl⟩,rfl,-,rfl⟩:=e;exact hm
theorem good_nil {c:DCas} (h:c.clms= []) (d:Dmg):goodD c [] d=true:=by
 unfold goodD;rw [h];rfl
theorem DCasW.parts1 {w:World} {v:Value} {c:DCas} {l:List Clm} (h:DCasW w v { c with clms:=l }) (hcl:c.clms= []):∃a1 c1 a2 c2 a3 c3 a4 c4,v=caseV a1 c.bk.pars.length c1 a2 c.bk.ents.length c2 a3 c.covs.length c3 a4 l.length c4 c.bk.last c.bk.owners c.soc c.day c.parcel c.llo c.lhi∧(c.bk.pars.length≤1000→c.bk.ents.length≤1000→c.covs.length≤1000→CaseM w ⟨a1,c1,a2,c2,a3,c3,none,0⟩ c):=by
 obtain⟨⟨a1,c1,a2,c2,a3,c3,a4,c4⟩,rfl,hm⟩:=h.parts0;obtain⟨bk,soc,day,parcel,covs,llo,lhi,clms⟩:=c;simp only at hcl;subst hcl;exact⟨a1,c1,a2,c2,a3,c3,a4,c4,rfl,hm⟩
theorem play_nil {c:DCas} {t:DTr} (hcl:c.clms= []) (hc:caseD c=0) (ht:listedD c t=true):playDE c t=match damD c t with|none=>11|some _=>0:=by
 unfold playDE;rw [if_neg (by simp [hc]),if_pos ht];cases damD c t with
 |none=>rfl
 |some d=>simp [good_nil hcl]
theorem idx_m8 {x:Int} {n:Nat} (hx:0≤x) (hn:0<n):∃k:Nat,x.tmod (n:Int)=(k:Int)∧x % (n:Int)=(k:Int)∧k<n:=by
 have h0:0≤x % (n:Int):=Int.emod_nonneg _ (by omega);have h1:x % (n:Int)<n:=Int.emod_lt_of_pos _ (by omega);refine⟨(x % (n:Int)).toNat,?_,by omega,by omega⟩
 rw [Int.tmod_eq_emod_of_nonneg hx];omega
theorem paysum8 {c:DCas} (h:caseD c=0) {t:DTr} (ht:TruOK c t) {d:Dmg} (hd:damD c t=some d):sumN (fun i:Nat=>payD d i) c.soc.toNat=totD d:=by
 have hS:=(caseD_zero h).2.1;obtain⟨g2,g3⟩:=dmg_high h ht hd;have:=hS.soc;exact sumN_tot (damD_ok hS (by have:=hS.loss;have:=ht.loss;omega) hd) (by omega) (by omega) (fun _=>g2 (by omega)) (fun _=>g3 (by omega))
theorem loss_law {c:DCas} (hS:CasS c) {t:DTr} {l:Int} (h:t.loss≤l):(damD c t=none∧damD c { t with loss:=l } =none)∨∃d d',damD c t=some d∧damD c { t with loss:=l } =some d'∧d.amount≤d'.amount∧d'.s0=d.s0∧d'.s1=d.s1∧d'.s2=d.s2:=by
 unfold damD;by_cases hp:playK c.bk t.days t.sown c.day=0
 ·right
  rw [if_pos hp,if_pos hp]
  have hf:FdsOK ((playB c.bk t.days t.sown c.day.toNat (fun _=>false)).getD (fun _=>Fd.zero)):=by
   cases hq:playB c.bk t.days t.sown c.day.toNat (fun _=>false) with
   |none=>intro i;simp [Fd.zero]
   |some f=>exact playB_ok hS.bk hq
  have hv:=(hf c.parcel.toNat).1;refine⟨_,_,rfl,rfl,?_,rfl,rfl,rfl⟩
  exact Int.ediv_le_ediv (by omega) (Int.mul_le_mul_of_nonneg_left h hv)
 ·left
  rw [if_neg hp,if_neg hp];exact⟨rfl,rfl⟩
end Go.Hs
namespace Go.Proofs.YtegkdnfeceomdaaGreat
open Go.RowKit Go.Hs
theorem Play_r (A:CaseA) (c:DCas) (t:DTr) (v:Value) (W:World) (hm:CaseM W A c) (hv:TruV W v t) (l1:t.days.length≤200) (l2:t.sown.length≤200) (l3:t.starts.length≤200):
  Calls Tryz.prog 25 #[A.v c,v] W fun e w'=>∃al nl ql am,e= .returned (.tuple #[.slice al nl ql,.int .i64 am,.int .i64 (playDE c t)])∧Hid (playDE c t≠0→nl=0∧am=0)∧Hid (playDE c t=0→∃d,damD c t=some d∧am=d.amount∧nl=c.soc.toNat∧IntsV w' (.slice al nl ql) (payL d c.soc.toNat))∧Ext W w':=
 (Play_dd A c t v W hm hv l1 l2 l3).mono (fun e w' h => by
  obtain⟨g1,g2,g3⟩:=h;by_cases h0:playDE c t=0
  ·obtain ⟨d, v', k1, k2, k3⟩ := g2 h0
   have hc:caseD c=0:=by
    unfold playDE at h0;split at h0
    ·rename_i h2;exact absurd h0 h2
    ·rename_i h2;simpa using h2
   have hls:listedD c t=true:=by
    unfold playDE at h0;rw [if_neg (by simp [hc])] at h0;cases hl:listedD c t with
    |true=>rfl
    |false=>rw [hl] at h0;simp at h0
   have hS:=(caseD_zero hc).2.1;have hsoc:=hS.soc;have hok:=damD_ok hS (by have:=hS.loss;have:=(listedD_ok hls).loss;omega) k1;have hpb:=pays_bd hok;have hl:(payL d c.soc.toNat).length=c.soc.toNat:=payL_len (by omega)
   have hi:=own_intsV k3 rfl hl.symm (fun x hx=>by
    have:=List.mem_of_mem_take hx;simp only [List.mem_cons,List.not_mem_nil,or_false] at this;unfold i64ok;omega) (by omega)
   obtain⟨a,q,rfl,-⟩:=id hi;exact⟨a,_,q,_,by rw [k2,h0],hHd (fun h=>absurd h0 h),hHd (fun _=>⟨d,k1,rfl,hl,hi⟩),g3⟩
  ·exact⟨none,0,0,0,g1 h0,hHd (fun _=>⟨rfl,rfl⟩),hHd (fun h=>absurd h h0),g3⟩)
end Go.Proofs.YtegkdnfeceomdaaGreat
