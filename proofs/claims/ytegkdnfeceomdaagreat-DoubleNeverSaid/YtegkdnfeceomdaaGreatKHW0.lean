/- A case without its claims: words and plain laws. -/
import Derived.Test.YtegkdnfeceomdaaGreatKDG1
import Derived.Test.YtegkdnfeceomdaaGreatKDC10
import Derived.Test.YtegkdnfeceomdaaGreatKDA23
import Derived.Test.YtegkdnfeceomdaaGreatKDC3
import Derived.Test.YtegkdnfeceomdaaGreatKDB1
set_option maxRecDepth 100000
set_option maxHeartbeats 16000000
set_option linter.unusedSimpArgs false
set_option linter.unusedVariables false
namespace Go.Hs
open Go.RowKit Go.Proofs.YtegkdnfeceomdaaGreat
theorem DCasW.parts0 {w:World} {v:Value} {c:DCas} (h:DCasW w v c):∃A:CaseA,v=A.v c∧(c.bk.pars.length≤1000→c.bk.ents.length≤1000→c.covs.length≤1000→CaseM w ⟨A.a1,A.c1,A.a2,A.c2,A.a3,A.c3,none,0⟩ { c with clms:= [] }):=by
 obtain⟨vp,ve,vc,vm,rfl,⟨a1,c1,rfl,p1⟩,⟨a2,c2,rfl,p2⟩,⟨a3,c3,rfl,p3⟩,⟨a4,c4,rfl,-⟩,hi⟩:=h;refine⟨⟨a1,c1,a2,c2,a3,c3,a4,c4⟩,rfl,fun h1 h2 h3=> ?_⟩
 have h0:DCasW w (.agg #[.int .i64 c.bk.last,.int .i64 c.bk.owners,.slice a1 c.bk.pars.length c1,.slice a2 c.bk.ents.length c2,.int .i64 c.soc,.int .i64 c.day,.int .i64 c.parcel,.slice a3 c.covs.length c3,.int .i64 c.llo,.int .i64 c.lhi,.slice none 0 0]) { c with clms:= [] } :=
  ⟨_,_,_,_,rfl,⟨a1,c1,rfl,p1⟩,⟨a2,c2,rfl,p2⟩,⟨a3,c3,rfl,p3⟩,⟨none,0,rfl,Nat.le_refl _,by simp,fun i hi=>absurd hi (Nat.not_lt_zero _)⟩,⟨hi.1,hi.2,hi.3,hi.4,hi.5,hi.6,hi.7⟩⟩
 obtain⟨⟨b1,d1,b2,d2,b3,d3,b4,d4⟩,e,hm⟩:=h0.toM h1 h2 h3 (Nat.zero_le _);unfold CaseA.v caseV at e;simp only [Value.agg.injEq,Array.mk.injEq,List.cons.injEq,Value.slice.injEq,and_true,true_and] at e;obtain⟨⟨rfl,rfl⟩,⟨rfl,rfl⟩,⟨rfl,rfl⟩,rfl,-,rfl⟩:=e;exact hm
theorem DCasW.parts1 {w:World} {v:Value} {c:DCas} {l:List Clm} (h:DCasW w v { c with clms:=l }) (hcl:c.clms= []):∃a1 c1 a2 c2 a3 c3 a4 c4,v=caseV a1 c.bk.pars.length c1 a2 c.bk.ents.length c2 a3 c.covs.length c3 a4 l.length c4 c.bk.last c.bk.owners c.soc c.day c.parcel c.llo c.lhi∧(c.bk.pars.length≤1000→c.bk.ents.length≤1000→c.covs.length≤1000→CaseM w ⟨a1,c1,a2,c2,a3,c3,none,0⟩ c):=by
 obtain⟨⟨a1,c1,a2,c2,a3,c3,a4,c4⟩,rfl,hm⟩:=h.parts0;obtain⟨bk,soc,day,parcel,covs,llo,lhi,clms⟩:=c;simp only at hcl;subst hcl;exact⟨a1,c1,a2,c2,a3,c3,a4,c4,rfl,hm⟩
end Go.Hs
namespace Go.Proofs.YtegkdnfeceomdaaGreat
open Go.RowKit Go.Hs
end Go.Proofs.YtegkdnfeceomdaaGreat
