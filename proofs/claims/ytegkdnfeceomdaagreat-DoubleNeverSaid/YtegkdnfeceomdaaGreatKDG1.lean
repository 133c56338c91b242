/- Bundled: what the texts WF WG say one after another. -/
import Derived.Test.YtegkdnfeceomdaaGreatKDL1
import Derived.Test.YtegkdnfeceomdaaGreatKDW1
set_option maxRecDepth 100000
set_option maxHeartbeats 16000000
set_option linter.unusedSimpArgs false
set_option linter.unusedVariables false
namespace Go.Hs
open Go.RowKit Go.Proofs.YtegkdnfeceomdaaGreat
structure SameC (c x:DCas):Prop where
 bk:x.bk=c.bk
 day:x.day=c.day
 parcel:x.parcel=c.parcel
 soc:x.soc=c.soc
 nc:x.covs.length=c.covs.length
 cov:∀i,(x.covs.getD i default).soc=(c.covs.getD i default).soc∧(x.covs.getD i default).owner=(c.covs.getD i default).owner∧(x.covs.getD i default).parcel=(c.covs.getD i default).parcel∧(x.covs.getD i default).sum=(c.covs.getD i default).sum∧(x.covs.getD i default).till=(c.covs.getD i default).till
theorem SameC.claims (c:DCas) (l:List Clm):SameC c { c with clms:=l } :=⟨rfl,rfl,rfl,rfl,rfl,fun _=>⟨rfl,rfl,rfl,rfl,rfl⟩⟩
theorem SameC.sums {c x:DCas} (h:SameC c x) (f:Fd) (st:List Int) (j:Int):∀n,sumsD x f st j n=sumsD c f st j n
  |0=>rfl
  | n + 1 => by
    have hk:covs1 x f st n=covs1 c f st n:=by
      obtain⟨-,h2,h3,-,h5⟩:=h.cov n;unfold covs1;simp only [h2,h3,h5,h.day,h.parcel]
    unfold sumsD;rw [h.sums f st j n,hk,(h.cov n).1,(h.cov n).2.2.2.1]
theorem SameC.dam {c x:DCas} (h:SameC c x) (t:DTr):damD x t=damD c t:=by
 unfold damD;rw [h.bk,h.day,h.parcel,h.nc];simp only [h.sums]
structure SubC (c x:DCas):Prop where
 same:SameC c x
 sub:∀t,listedD c t=true→listedD x t=true
theorem SubC.truths {c x:DCas} (h:SubC c x) {o p:List Int} (hg:∀d,goodD c o d=true→goodD x p d=true):∀y∈truthsD c o,y∈truthsD x p:=fun y hy=>by
 obtain⟨h1,h2,h3⟩:=mem_truthsD.1 hy;exact mem_truthsD.2 ⟨h.sub _ h1,(h.same.dam _).trans h2,hg _ h3⟩
theorem SubC.claims (c:DCas) (l:List Clm):SubC c { c with clms:=l } :=⟨SameC.claims c l,fun _ h=>h⟩
theorem good_every (c:DCas) (d:Dmg):goodD c (everyI c.clms.length) d=true:=good_iff.2 (fun i hi hx=>absurd (mem_everyI.2 hi) hx)
theorem SubC.every {c x:DCas} (h:SubC c x) (hn:(truthsD c (everyI c.clms.length)).isEmpty=false):(truthsD x (everyI x.clms.length)).isEmpty=false:=by
 obtain⟨y,hy⟩:=List.isEmpty_eq_false_iff_exists_mem.1 hn;exact List.isEmpty_eq_false_iff_exists_mem.2 ⟨y,h.truths (fun d _=>good_every x d) y hy⟩
end Go.Hs
