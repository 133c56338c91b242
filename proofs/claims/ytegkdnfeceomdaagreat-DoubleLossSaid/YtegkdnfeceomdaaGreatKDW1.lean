/- Bundled: what the texts HU WA WC WD say one after another. -/
import Derived.Test.YtegkdnfeceomdaaGreatKDC5
import Derived.Test.YtegkdnfeceomdaaGreatKDA4
import Derived.Test.YtegkdnfeceomdaaGreatKDA23
import Derived.Test.YtegkdnfeceomdaaGreatKDA24
import Derived.Test.YtegkdnfeceomdaaGreatKDC3
set_option maxRecDepth 100000
set_option maxHeartbeats 16000000
set_option linter.unusedSimpArgs false
set_option linter.unusedVariables false
namespace Go.Hs
open Go.RowKit Go.Proofs.YtegkdnfeceomdaaGreat
end Go.Hs
namespace Go.Proofs.YtegkdnfeceomdaaGreat
open Go.RowKit Go.Hs
attribute [local irreducible] World.setCell World.alloc
end Go.Proofs.YtegkdnfeceomdaaGreat
namespace Go.Hs
open Go.RowKit Go.Proofs.YtegkdnfeceomdaaGreat
def rightsD (c:DCas) (d:Dmg):List Bool:=c.clms.map (fun x=>rightD x d)
def bitsD (c:DCas) (t:DTr):Int:=match damD c t with
 |none=> -1
 |some d=>(maskOf (rightsD c d):Nat)
def allD (c:DCas):List Int:=(List.range (manyC c).toNat).map (fun n:Nat=>bitsD c (nthT c n))
theorem pow_le32 {n:Nat} (h:n≤5):2 ^ n≤32:=by
 rcases n with _|_|_|_|_|_|n
 all_goals first|decide|omega
theorem rights_get {c:DCas} {d:Dmg} {i:Nat} (h:i<c.clms.length):(rightsD c d).getD i false=rightD (c.clms.getD i default) d:=by
 simp [rightsD,h]
theorem mask_iff {c:DCas} (hn:c.clms.length≤5) (d:Dmg) {m:Nat} (hm:m<32):(bits BinOp.and IntKind.i64 ((maskOf (rightsD c d):Nat):Int) (m:Int)==(m:Int))=true↔∀i,i<5→bitB m i=true→(rightsD c d).getD i false=true:=by
 have hl:maskOf (rightsD c d)<32:=Nat.lt_of_lt_of_le (maskOf_lt _) (by
  have:(rightsD c d).length=c.clms.length:=by simp [rightsD]
  rw [this];exact pow_le32 hn)
 rw [and_mask _ hl m hm,List.all_eq_true];constructor
 ·intro h i hi hb
  have:=h i (List.mem_range.2 hi);rw [hb,maskOf_bit] at this;simpa using this
 ·intro h i hi
  rw [maskOf_bit];cases hb:bitB m i with
  |false=>rfl
  |true=>rw [h i (List.mem_range.1 hi) hb];rfl
theorem can_iff {c:DCas} (h:caseD c=0) {m:Nat} (hm:m<32):canB (allD c) (m:Int)=true↔∃t d,listedD c t=true∧damD c t=some d∧∀i,i<5→bitB m i=true→(rightsD c d).getD i false=true:=by
  have hn:=(caseD_zero h).2.1.nm;unfold canB allD;rw [List.any_eq_true];constructor
  · rintro ⟨x, hx, hp⟩; obtain ⟨n, hn', rfl⟩ := List.mem_map.1 hx; unfold bitsD at hp; cases hd : damD c (nthT c n) with
    |none=>rw [hd] at hp;simp at hp
    | some d =>
      rw [hd] at hp;simp only [Bool.and_eq_true,decide_eq_true_eq] at hp;exact⟨_,d,nthT_listed h,hd,(mask_iff hn d hm).1 hp.2⟩
  · rintro ⟨t, d, ht, hd, hr⟩; obtain ⟨n, hn', rfl⟩ := nthT_of h ht; refine ⟨bitsD c (nthT c n), List.mem_map.2 ⟨n, List.mem_range.2 (by omega), rfl⟩, ?_⟩
    unfold bitsD;rw [hd];simp only [Bool.and_eq_true,decide_eq_true_eq];exact⟨by omega,(mask_iff hn d hm).2 hr⟩
theorem good_iff {c:DCas} {out:List Int} {d:Dmg} :goodD c out d=true↔∀i,i<c.clms.length→¬(i:Int)∈out→(rightsD c d).getD i false=true:=by
 unfold goodD;rw [List.all_eq_true];constructor
 ·intro h i hi ho
  have:=h i (List.mem_range.2 hi);rw [rights_get hi];simpa [ho] using this
 ·intro h i hi
  have hi':=List.mem_range.1 hi;by_cases ho:(i:Int)∈out
  ·simp [ho]
  ·rw [Bool.or_eq_true];exact .inr (by rw [←rights_get hi'];exact h i hi' ho)
theorem truthsNe {c:DCas} {out:List Int} :(!(truthsD c out).isEmpty)=true↔∃t d,listedD c t=true∧damD c t=some d∧goodD c out d=true:=by
 rw [Bool.not_eq_true',List.isEmpty_eq_false_iff_exists_mem];constructor
 ·rintro ⟨x,hx⟩;obtain⟨h1,h2,h3⟩:=mem_truthsD.1 hx;exact⟨_,_,h1,h2,h3⟩
 ·rintro ⟨t,d,h1,h2,h3⟩;exact⟨(t,d),mem_truthsD.2 ⟨h1,h2,h3⟩⟩
theorem mem_everyI {n:Nat} {i:Nat} :(i:Int)∈everyI n↔i<n:=by
 unfold everyI;rw [List.mem_map];constructor
 ·rintro ⟨j,hj,e⟩;have:=List.mem_range.1 hj;omega
 ·intro h;exact⟨i,List.mem_range.2 h,rfl⟩
theorem full_cast {n:Nat} :((2 ^ n - 1:Nat):Int)=2 ^ n - 1:=by
 have:1≤2 ^ n:=Nat.one_le_two_pow;push_cast [Int.natCast_sub this]
 rfl
theorem full_lt {n:Nat} (hn:n≤5):2 ^ n - 1<32:=by have:=pow_le32 hn;have:1≤2 ^ n:=Nat.one_le_two_pow;omega
def stepW (r:Int×Int) (n:Int):Int×Int:=(min r.1 n,max r.2 n)
def wideF (ns:List Int):Int×Int:=ns.foldl stepW (1099511627776,-1099511627776)
structure IsBds (ns:List Int) (r:Int×Int):Prop where
 lo:r.1∈ns
 hi:r.2∈ns
 all:∀x∈ns,r.1≤x∧x≤r.2
theorem IsBds.same {ns ms:List Int} {r s:Int×Int} (h:IsBds ns r) (k:IsBds ms s) (e:∀x,x∈ns↔x∈ms):r=s:=by
 have h1:=k.all _ ((e _).1 h.lo);have h2:=k.all _ ((e _).1 h.hi);have h3:=h.all _ ((e _).2 k.lo);have h4:=h.all _ ((e _).2 k.hi);ext<;>omega
theorem dmg_laws {d:Dmg} (h:DmgOK d):(0≤(paysD d).1∧(paysD d).1≤d.s0)∧(0≤(paysD d).2.1∧(paysD d).2.1≤d.s1)∧(0≤(paysD d).2.2∧(paysD d).2.2≤d.s2)∧totD d=min d.amount (d.s0+d.s1+d.s2):=by
 have ha:=h.a.1;have h0:=h.s0;have h1:=h.s1;have h2:=h.s2;obtain⟨H,HS⟩:=settleL_ok (amount:=d.amount) (l:= [d.s0,d.s1,d.s2]) ha (by intro x hx;simp at hx;omega);rw [settle3_eq] at H HS;have g0:=H 0 _ _ rfl rfl;have g1:=H 1 _ _ rfl rfl;have g2:=H 2 _ _ rfl rfl;have e3:∀a b c:Int,sumI [a,b,c]=a+b+c:=fun a b c=>by show 0+a+b+c=a+b+c;omega
 rw [e3,e3] at HS;unfold totD paysD;refine⟨⟨g0.1,g0.2.1⟩,⟨g1.1,g1.2.1⟩,⟨g2.1,g2.2.1⟩,by omega⟩
theorem payD_le {d:Dmg} (h:DmgOK d) {k:Nat} (hk:k<3):0≤payD d k∧payD d k≤sumD d k∧sumD d k≤5000:=by
 obtain⟨h0,h1,h2,-⟩:=dmg_laws h;have g0:=h.s0;have g1:=h.s1;have g2:=h.s2;obtain rfl|rfl|rfl:k=0∨k=1∨k=2:=by omega
 all_goals simp [payD,sumD];omega
theorem payL_len {d:Dmg} {n:Nat} (h:n≤3):(payL d n).length=n:=by unfold payL;rw [List.length_take];simp;omega
theorem payL_at {d:Dmg} {n i:Nat} (hi:i<n) (h:n≤3):(payL d n).getD i 0=payD d i:=by
 unfold payL payD;obtain rfl|rfl|rfl:n=1∨n=2∨n=3:=by omega
 all_goals
  rcases i with _|_|_|i
  all_goals first|rfl|omega
end Go.Hs
