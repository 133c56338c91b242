/- Bundled: what the texts HU WA WC WD say one after another. -/
import Derived.Test.YtegkdnfeceomdaaGreatKDC5
import Derived.Test.YtegkdnfeceomdaaGreatKDA4
import Derived.Test.YtegkdnfeceomdaaGreatKDA23
import Derived.Test.YtegkdnfeceomdaaGreatKDA24
import Derived.Test.YtegkdnfeceomdaaGreatKDC3
set_option maxRecDepth 100000
set_option maxHeartbeats 16000000
set_option linter.unusedSimpArgs false
set_option linter.unusedVariables false
namespace Go.Hs
open Go.RowKit Go.Proofs.YtegkdnfeceomdaaGreat
end Go.Hs
namespace Go.Proofs.YtegkdnfeceomdaaGreat
open Go.RowKit Go.Hs
attribute [local irreducible] World.setCell World.alloc
end Go.Proofs.YtegkdnfeceomdaaGreat
namespace Go.Hs
open Go.RowKit Go.Proofs.YtegkdnfeceomdaaGreat
def rightsD (c:DCas) (d:Dmg):List Bool:=c.clms.map (fun x=>rightD x d)
theorem rights_get {c:DCas} {d:Dmg} {i:Nat} (h:i<c.clms.length):(rightsD c d).getD i false=rightD (c.clms.getD i default) d:=by
 simp [rightsD,h]
theorem good_iff {c:DCas} {out:List Int} {d:Dmg} :goodD c out d=true↔∀i,i<c.clms.length→¬(i:Int)∈out→(rightsD c d).getD i false=true:=by
 unfold goodD;rw [List.all_eq_true];constructor
 ·intro h i hi ho
  have:=h i (List.mem_range.2 hi);rw [rights_get hi];simpa [ho] using this
 ·intro h i hi
  have hi':=List.mem_range.1 hi;by_cases ho:(i:Int)∈out
  ·simp [ho]
  ·rw [Bool.or_eq_true];exact .inr (by rw [←rights_get hi'];exact h i hi' ho)
theorem mem_everyI {n:Nat} {i:Nat} :(i:Int)∈everyI n↔i<n:=by
 unfold everyI;rw [List.mem_map];constructor
 ·rintro ⟨j,hj,e⟩;have:=List.mem_range.1 hj;omega
 ·intro h;exact⟨i,List.mem_range.2 h,rfl⟩
def stepW (r:Int×Int) (n:Int):Int×Int:=(min r.1 n,max r.2 n)
def wideF (ns:List Int):Int×Int:=ns.foldl stepW (1099511627776,-1099511627776)
structure IsBds (ns:List Int) (r:Int×Int):Prop where
 lo:r.1∈ns
 hi:r.2∈ns
 all:∀x∈ns,r.1≤x∧x≤r.2
theorem IsBds.same {ns ms:List Int} {r s:Int×Int} (h:IsBds ns r) (k:IsBds ms s) (e:∀x,x∈ns↔x∈ms):r=s:=by
 have h1:=k.all _ ((e _).1 h.lo);have h2:=k.all _ ((e _).1 h.hi);have h3:=h.all _ ((e _).2 k.lo);have h4:=h.all _ ((e _).2 k.hi);ext<;>omega
end Go.Hs
