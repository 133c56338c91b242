/- Bundled: what the texts HU WA WC WD say one after another. -/
import Derived.Test.YtegkdnfeceomdaaGreatKDC5
import Derived.Test.YtegkdnfeceomdaaGreatKDA4
import Derived.Test.YtegkdnfeceomdaaGreatKDA23
import Derived.Test.YtegkdnfeceomdaaGreatKDA24
import Derived.Test.YtegkdnfeceomdaaGreatKDC3
set_option maxRecDepth 100000
set_option maxHeartbeats 16000000
set_option linter.unusedSimpArgs false
set_option linter.unusedVariables false
namespace Go.Hs
open Go.RowKit Go.Proofs.YtegkdnfeceomdaaGreat
theorem payL_get {d:Dmg} {n k:Nat} (hk:k<n) (h3:n≤3):(payL d n).getD k 0=payD d k:=by
 unfold payL payD;rcases k with _|_|_|k
 ·rcases n with _ | n
  ·omega
  ·simp
 ·rcases n with _ | _ | n
  ·omega
  ·omega
  ·simp
 ·rcases n with _ | _ | _ | n
  ·omega
  ·omega
  ·omega
  ·simp
 ·omega
end Go.Hs
namespace Go.Proofs.YtegkdnfeceomdaaGreat
open Go.RowKit Go.Hs
attribute [local irreducible] World.setCell World.alloc
end Go.Proofs.YtegkdnfeceomdaaGreat
namespace Go.Hs
open Go.RowKit Go.Proofs.YtegkdnfeceomdaaGreat
def rightsD (c:DCas) (d:Dmg):List Bool:=c.clms.map (fun x=>rightD x d)
def bitsD (c:DCas) (t:DTr):Int:=match damD c t with
 |none=> -1
 |some d=>(maskOf (rightsD c d):Nat)
def allD (c:DCas):List Int:=(List.range (manyC c).toNat).map (fun n:Nat=>bitsD c (nthT c n))
theorem pow_le32 {n:Nat} (h:n≤5):2 ^ n≤32:=by
 rcases n with _|_|_|_|_|_|n
 all_goals first|decide|omega
theorem rights_get {c:DCas} {d:Dmg} {i:Nat} (h:i<c.clms.length):(rightsD c d).getD i false=rightD (c.clms.getD i default) d:=by
 simp [rightsD,h]
theorem mask_iff {c:DCas} (hn:c.clms.length≤5) (d:Dmg) {m:Nat} (hm:m<32):(bits BinOp.and IntKind.i64 ((maskOf (rightsD c d):Nat):Int) (m:Int)==(m:Int))=true↔∀i,i<5→bitB m i=true→(rightsD c d).getD i false=true:=by
 have hl:maskOf (rightsD c d)<32:=Nat.lt_of_lt_of_le (maskOf_lt _) (by
  have:(rightsD c d).length=c.clms.length:=by simp [rightsD]
  rw [this];exact pow_le32 hn)
 rw [and_mask _ hl m hm,List.all_eq_true];constructor
 ·intro h i hi hb
  have:=h i (List.mem_range.2 hi);rw [hb,maskOf_bit] at this;simpa using this
 ·intro h i hi
  rw [maskOf_bit];cases hb:bitB m i with
  |false=>rfl
  |true=>rw [h i (List.mem_range.1 hi) hb];rfl
theorem can_iff {c:DCas} (h:caseD c=0) {m:Nat} (hm:m<32):canB (allD c) (m:Int)=true↔∃t d,listedD c t=true∧damD c t=some d∧∀i,i<5→bitB m i=true→(rightsD c d).getD i false=true:=by
  have hn:=(caseD_zero h).2.1.nm;unfold canB allD;rw [List.any_eq_true];constructor
  · rintro ⟨x, hx, hp⟩; obtain ⟨n, hn', rfl⟩ := List.mem_map.1 hx; unfold bitsD at hp; cases hd : damD c (nthT c n) with
    |none=>rw [hd] at hp;simp at hp
    | some d =>
      rw [hd] at hp;simp only [Bool.and_eq_true,decide_eq_true_eq] at hp;exact⟨_,d,nthT_listed h,hd,(mask_iff hn d hm).1 hp.2⟩
  · rintro ⟨t, d, ht, hd, hr⟩; obtain ⟨n, hn', rfl⟩ := nthT_of h ht; refine ⟨bitsD c (nthT c n), List.mem_map.2 ⟨n, List.mem_range.2 (by omega), rfl⟩, ?_⟩
    unfold bitsD;rw [hd];simp only [Bool.and_eq_true,decide_eq_true_eq];exact⟨by omega,(mask_iff hn d hm).2 hr⟩
theorem good_iff {c:DCas} {out:List Int} {d:Dmg} :goodD c out d=true↔∀i,i<c.clms.length→¬(i:Int)∈out→(rightsD c d).getD i false=true:=by
 unfold goodD;rw [List.all_eq_true];constructor
 ·intro h i hi ho
  have:=h i (List.mem_range.2 hi);rw [rights_get hi];simpa [ho] using this
 ·intro h i hi
  have hi':=List.mem_range.1 hi;by_cases ho:(i:Int)∈out
  ·simp [ho]
  ·rw [Bool.or_eq_true];exact .inr (by rw [←rights_get hi'];exact h i hi' ho)
theorem truthsNe {c:DCas} {out:List Int} :(!(truthsD c out).isEmpty)=true↔∃t d,listedD c t=true∧damD c t=some d∧goodD c out d=true:=by
 rw [Bool.not_eq_true',List.isEmpty_eq_false_iff_exists_mem];constructor
 ·rintro ⟨x,hx⟩;obtain⟨h1,h2,h3⟩:=mem_truthsD.1 hx;exact⟨_,_,h1,h2,h3⟩
 ·rintro ⟨t,d,h1,h2,h3⟩;exact⟨(t,d),mem_truthsD.2 ⟨h1,h2,h3⟩⟩
theorem can_truths {c:DCas} (h:caseD c=0) {m:Nat} (hm:m<32) {out:List Int} (ho:∀i,i<5→(bitB m i=true↔i<c.clms.length∧¬(i:Int)∈out)):canB (allD c) (m:Int)= !(truthsD c out).isEmpty:=by
 have hn:=(caseD_zero h).2.1.nm;rw [Bool.eq_iff_iff,can_iff h hm,truthsNe];constructor
 ·rintro ⟨t,d,h1,h2,h3⟩;exact⟨t,d,h1,h2,good_iff.2 (fun i hi hx=>h3 i (by omega) ((ho i (by omega)).2 ⟨hi,hx⟩))⟩
 ·rintro ⟨t,d,h1,h2,h3⟩;exact⟨t,d,h1,h2,fun i hi hb=>good_iff.1 h3 i ((ho i hi).1 hb).1 ((ho i hi).1 hb).2⟩
theorem mem_everyI {n:Nat} {i:Nat} :(i:Int)∈everyI n↔i<n:=by
 unfold everyI;rw [List.mem_map];constructor
 ·rintro ⟨j,hj,e⟩;have:=List.mem_range.1 hj;omega
 ·intro h;exact⟨i,List.mem_range.2 h,rfl⟩
theorem can_zero {c:DCas} (h:caseD c=0):canB (allD c) 0= !(truthsD c (everyI c.clms.length)).isEmpty:=by
 refine can_truths (m:=0) h (by decide) (fun i _=> ?_)
 rw [mem_everyI];simp [bitB]
theorem full_bit {n i:Nat} (hn:n≤5) (hi:i<5):bitB (2 ^ n - 1) i=decide (i<n):=
 (by decide+kernel:∀n,n<6→∀i,i<5→bitB (2 ^ n - 1) i=decide (i<n)) n (by omega) i hi
theorem full_cast {n:Nat} :((2 ^ n - 1:Nat):Int)=2 ^ n - 1:=by
 have:1≤2 ^ n:=Nat.one_le_two_pow;push_cast [Int.natCast_sub this]
 rfl
theorem full_lt {n:Nat} (hn:n≤5):2 ^ n - 1<32:=by have:=pow_le32 hn;have:1≤2 ^ n:=Nat.one_le_two_pow;omega
theorem can_full {c:DCas} (h:caseD c=0):canB (allD c) (2 ^ c.clms.length - 1)= !(truthsD c []).isEmpty:=by
 have hn:=(caseD_zero h).2.1.nm;rw [←full_cast];refine can_truths h (full_lt hn) (fun i hi=> ?_)
 rw [full_bit hn hi];simp
theorem bndE_sure {c:DCas} (h:caseD c=0):bndE c=if canB (allD c) 0 then (if canB (allD c) (2 ^ c.clms.length - 1) then 0 else 11) else 9:=by
 rw [can_zero h,can_full h];unfold bndE askD;simp only [h,ne_eq,not_true_eq_false,if_false];cases (truthsD c (everyI c.clms.length)).isEmpty<;>cases (truthsD c []).isEmpty<;>simp
def stepW (r:Int×Int) (n:Int):Int×Int:=(min r.1 n,max r.2 n)
def wideF (ns:List Int):Int×Int:=ns.foldl stepW (1099511627776,-1099511627776)
theorem wideF_snoc (ns:List Int) (n:Int):wideF (ns++ [n])=stepW (wideF ns) n:=by
 unfold wideF;rw [List.foldl_append];rfl
structure IsBds (ns:List Int) (r:Int×Int):Prop where
 lo:r.1∈ns
 hi:r.2∈ns
 all:∀x∈ns,r.1≤x∧x≤r.2
theorem IsBds.same {ns ms:List Int} {r s:Int×Int} (h:IsBds ns r) (k:IsBds ms s) (e:∀x,x∈ns↔x∈ms):r=s:=by
 have h1:=k.all _ ((e _).1 h.lo);have h2:=k.all _ ((e _).1 h.hi);have h3:=h.all _ ((e _).2 k.lo);have h4:=h.all _ ((e _).2 k.hi);ext<;>omega
theorem stepW_bds {ns:List Int} {r:Int×Int} {n:Int} (h:IsBds ns r):IsBds (ns++ [n]) (stepW r n):=by
 have h2:=h.all _ h.hi;refine⟨?_,?_,fun x hx=> ?_⟩
 ·unfold stepW; simp only; rcases Int.le_total r.1 n with g | g
  ·rw [Int.min_eq_left g];exact List.mem_append_left _ h.lo
  ·rw [Int.min_eq_right g];simp
 ·unfold stepW; simp only; rcases Int.le_total r.2 n with g | g
  ·rw [Int.max_eq_right g];simp
  ·rw [Int.max_eq_left g];exact List.mem_append_left _ h.hi
 ·unfold stepW; simp only; rcases List.mem_append.1 hx with g | g
  ·have:=h.all x g;omega
  ·have : x = n := by simpa using g
   omega
theorem wideF_bds:∀ {ns:List Int},ns≠ []→(∀x∈ns,-1000000≤x∧x≤1000000)→IsBds ns (wideF ns):=by
 intro ns hne hb
 rcases List.eq_nil_or_concat ns with h|⟨l,x,rfl⟩
 ·exact absurd h hne
 rw [List.concat_eq_append] at*;rw [wideF_snoc];by_cases hl:l= []
 ·subst hl; have hx := hb x (by simp)
  have e:stepW (wideF []) x=(x,x):=by
   unfold stepW wideF;simp only [List.foldl_nil];ext<;>simp only<;>omega
  rw [e];exact⟨by simp,by simp,fun y hy=>by have:y=x:=(by simpa using hy);rw [this];exact⟨Int.le_refl _,Int.le_refl _⟩⟩
 ·exact stepW_bds (wideF_bds hl (fun y hy=>hb y (List.mem_append_left _ hy)))
termination_by ns=>ns.length
decreasing_by simp_all
theorem bdsL_bds:∀ {ns:List Int},ns≠ []→IsBds ns ((bdsL ns).getD (0,0)):=by
  intro ns hne
  rcases List.eq_nil_or_concat ns with h|⟨l,x,rfl⟩
  · exact absurd h hne
  rw [List.concat_eq_append] at*;rw [bdsL_snoc];by_cases hl:l= []
  · subst hl
    have e:(stepB (bdsL []) x).getD (0,0)=(x,x):=by
      unfold stepB bdsL;simp
    rw [e];exact⟨by simp,by simp,fun y hy=>by have:y=x:=(by simpa using hy);rw [this];exact⟨Int.le_refl _,Int.le_refl _⟩⟩
  · have ih := bdsL_bds hl; cases hq : bdsL l with
    |none=>have:=bdsL_ne hl;rw [hq] at this;cases this
    | some r =>
      rw [hq] at ih;have:=stepW_bds (n:=x) ih;simpa [stepB,stepW] using this
termination_by ns=>ns.length
decreasing_by simp_all
theorem wide_eq {ns ms:List Int} (hne:ns≠ []) (hb:∀x∈ns,-1000000≤x∧x≤1000000) (e:∀x,x∈ns↔x∈ms):wideF ns=(bdsL ms).getD (0,0):=by
 have hm:ms≠ []:=fun h=>by
  obtain⟨x,r,h2⟩:=List.exists_cons_of_ne_nil hne;have:=(e x).1 (by rw [h2];simp);rw [h] at this;simp at this
 exact(wideF_bds hne hb).same (bdsL_bds hm) e
def truR (c:DCas):List DTr:=(List.range (manyC c).toNat).filterMap (fun n:Nat=>if bitsD c (nthT c n)=2 ^ c.clms.length - 1 then some (nthT c n) else none)
def dmgR (c:DCas) (ts:List DTr):List Dmg:=ts.filterMap (damD c)
theorem bits_full {c:DCas} (h:caseD c=0) {t:DTr} :bitsD c t=2 ^ c.clms.length - 1↔∃d,damD c t=some d∧goodD c [] d=true:=by
  have hn:=(caseD_zero h).2.1.nm;unfold bitsD;have h1:(0:Int)≤2 ^ c.clms.length - 1:=by rw [←full_cast];omega
  cases hd:damD c t with
  | none =>
    simp only;constructor
    · intro e;omega
    · rintro ⟨d,e,-⟩;cases e
  | some d =>
    simp only;have hl:(rightsD c d).length=c.clms.length:=by simp [rightsD]
    have hlt:=maskOf_lt (rightsD c d);rw [hl] at hlt;have hmi:=mask_iff hn d (full_lt hn)
    have hand:(bits BinOp.and IntKind.i64 ((maskOf (rightsD c d):Nat):Int) ((2 ^ c.clms.length - 1:Nat):Int)==((2 ^ c.clms.length - 1:Nat):Int))=decide (maskOf (rightsD c d)=2 ^ c.clms.length - 1):=by
      exact(by decide+kernel:∀n:Nat,n<6→∀m:Nat,m<2 ^ n→(bits BinOp.and IntKind.i64 (m:Int) ((2 ^ n - 1:Nat):Int)==((2 ^ n - 1:Nat):Int))=decide (m=2 ^ n - 1)) c.clms.length (by omega) _ hlt
    rw [hand,decide_eq_true_eq] at hmi;constructor
    · intro e
      refine⟨d,rfl,good_iff.2 (fun i hi _=> ?_)⟩
      have e':maskOf (rightsD c d)=2 ^ c.clms.length - 1:=by rw [←full_cast] at e;exact Int.ofNat.inj e
      exact hmi.1 e' i (by omega) (by rw [full_bit hn (by omega)];exact decide_eq_true hi)
    · rintro ⟨d', e, hg⟩; cases e
      rw [←full_cast];congr 1
      refine hmi.2 (fun i hi hb=> ?_)
      rw [full_bit hn hi] at hb;exact good_iff.1 hg i (of_decide_eq_true hb) (by simp)
theorem truR_mem {c:DCas} (h:caseD c=0) {t:DTr} :t∈truR c↔listedD c t=true∧∃d,damD c t=some d∧goodD c [] d=true:=by
 unfold truR;rw [List.mem_filterMap];constructor
 ·rintro ⟨n, hn, e⟩; split at e
  ·rename_i hb
   cases e
   exact⟨nthT_listed h,(bits_full h).1 hb⟩
  ·cases e
 ·rintro ⟨ht,hd⟩;obtain⟨n,hn,rfl⟩:=nthT_of h ht;exact⟨n,List.mem_range.2 (by omega),by rw [if_pos ((bits_full h).2 hd)]⟩
theorem dmgR_mem {c:DCas} (h:caseD c=0) {d:Dmg} :d∈dmgR c (truR c)↔∃x∈truthsD c [],x.2=d:=by
 unfold dmgR;rw [List.mem_filterMap];constructor
 ·rintro ⟨t,ht,hd⟩;obtain⟨h1,d',h2,h3⟩:=(truR_mem h).1 ht;rw [h2] at hd;cases hd;exact⟨(t,d),mem_truthsD.2 ⟨h1,h2,h3⟩,rfl⟩
 ·rintro ⟨x,hx,rfl⟩;obtain⟨h1,h2,h3⟩:=mem_truthsD.1 hx;exact⟨x.1,(truR_mem h).2 ⟨h1,_,h2,h3⟩,h2⟩
theorem wide_bds {c:DCas} (h:caseD c=0) (f:Dmg→Int) (hf:∀d,DmgOK d→ -1000000≤f d∧f d≤1000000) (hne:(truthsD c []).isEmpty=false):wideF ((dmgR c (truR c)).map f)=bdsD c f:=by
 have hS:=(caseD_zero h).2.1;unfold bdsD;obtain⟨x,hx⟩:=List.isEmpty_eq_false_iff_exists_mem.1 hne;refine wide_eq ?_ ?_ ?_
 ·intro e
  have:=(dmgR_mem h).2 ⟨x,hx,rfl⟩;rw [List.map_eq_nil_iff.1 e] at this;simp at this
 ·intro y hy
  obtain⟨d,hd,rfl⟩:=List.mem_map.1 hy;obtain⟨x,hx,rfl⟩:=(dmgR_mem h).1 hd;obtain⟨g1,g2,-⟩:=mem_truthsD.1 hx;exact hf _ (damD_ok hS (by have:=hS.loss;have:=(listedD_ok g1).loss;omega) g2)
 ·intro y
  rw [List.mem_map,List.mem_map];constructor
  ·rintro ⟨d,hd,rfl⟩;obtain⟨x,hx,rfl⟩:=(dmgR_mem h).1 hd;exact⟨x,hx,rfl⟩
  ·rintro ⟨x,hx,rfl⟩;exact⟨x.2,(dmgR_mem h).2 ⟨x,hx,rfl⟩,rfl⟩
theorem dmg_laws {d:Dmg} (h:DmgOK d):(0≤(paysD d).1∧(paysD d).1≤d.s0)∧(0≤(paysD d).2.1∧(paysD d).2.1≤d.s1)∧(0≤(paysD d).2.2∧(paysD d).2.2≤d.s2)∧totD d=min d.amount (d.s0+d.s1+d.s2):=by
 have ha:=h.a.1;have h0:=h.s0;have h1:=h.s1;have h2:=h.s2;obtain⟨H,HS⟩:=settleL_ok (amount:=d.amount) (l:= [d.s0,d.s1,d.s2]) ha (by intro x hx;simp at hx;omega);rw [settle3_eq] at H HS;have g0:=H 0 _ _ rfl rfl;have g1:=H 1 _ _ rfl rfl;have g2:=H 2 _ _ rfl rfl;have e3:∀a b c:Int,sumI [a,b,c]=a+b+c:=fun a b c=>by show 0+a+b+c=a+b+c;omega
 rw [e3,e3] at HS;unfold totD paysD;refine⟨⟨g0.1,g0.2.1⟩,⟨g1.1,g1.2.1⟩,⟨g2.1,g2.2.1⟩,by omega⟩
theorem payD_le {d:Dmg} (h:DmgOK d) {k:Nat} (hk:k<3):0≤payD d k∧payD d k≤sumD d k∧sumD d k≤5000:=by
 obtain⟨h0,h1,h2,-⟩:=dmg_laws h;have g0:=h.s0;have g1:=h.s1;have g2:=h.s2;obtain rfl|rfl|rfl:k=0∨k=1∨k=2:=by omega
 all_goals simp [payD,sumD];omega
theorem refundD_bd {d:Dmg} (h:DmgOK d) {k:Nat} (hk:k<3): -10000≤refundD d k∧refundD d k≤10000:=by
 have h1:=payD_le h hk;have h2:=h.a;unfold refundD;omega
theorem payL_len {d:Dmg} {n:Nat} (h:n≤3):(payL d n).length=n:=by unfold payL;rw [List.length_take];simp;omega
theorem payL_at {d:Dmg} {n i:Nat} (hi:i<n) (h:n≤3):(payL d n).getD i 0=payD d i:=by
 unfold payL payD;obtain rfl|rfl|rfl:n=1∨n=2∨n=3:=by omega
 all_goals
  rcases i with _|_|_|i
  all_goals first|rfl|omega
theorem backL_at {d:Dmg} {n i:Nat} (hi:i<n):(backL d n).getD i 0=refundD d i:=by simp [backL,hi]
theorem backL_len {d:Dmg} {n:Nat} :(backL d n).length=n:=by simp [backL]
theorem filterMap_rng {α β:Type} (f:α→Option β) (z:β):∀(ts:List α),(∀t∈ts,(f t).isSome=true)→ts.filterMap f=(List.range ts.length).map (fun k=>(ts[k]?.bind f).getD z)
  | [],_=>rfl
  | t :: ts, h => by
    obtain⟨d,hd⟩:=Option.isSome_iff_exists.1 (h t (by simp));rw [List.length_cons,List.range_succ_eq_map,List.map_cons,List.map_map,List.filterMap_cons_some hd,filterMap_rng f z ts (fun x hx=>h x (by simp [hx]))];congr 1
    simp [hd]
def dmgK (c:DCas) (k:Nat):Dmg:=((truR c)[k]?.bind (damD c)).getD ⟨0,0,0,0⟩
theorem dmgR_rng {c:DCas} (h:caseD c=0):dmgR c (truR c)=(List.range (truR c).length).map (dmgK c):=
 filterMap_rng (damD c) ⟨0,0,0,0⟩ (truR c) (fun t ht=>by
  obtain⟨-,d,hd,-⟩:=(truR_mem h).1 ht;rw [hd];rfl)
theorem dmgK_at {c:DCas} (h:caseD c=0) {k:Nat} (hk:k<(truR c).length):listedD c (truR c)[k]=true∧damD c (truR c)[k]=some (dmgK c k)∧DmgOK (dmgK c k)∧(c.soc≤1→(dmgK c k).s1=0)∧(c.soc≤2→(dmgK c k).s2=0):=by
 obtain⟨h1,d,hd,-⟩:=(truR_mem h).1 (List.getElem_mem hk);have e:dmgK c k=d:=by unfold dmgK;rw [List.getElem?_eq_getElem hk];simp [hd]
 have hS:=(caseD_zero h).2.1;have ht:=listedD_ok h1;rw [e];exact⟨h1,hd,damD_ok hS (by have:=hS.loss;have:=ht.loss;omega) hd,dmg_high h ht hd⟩
end Go.Hs
