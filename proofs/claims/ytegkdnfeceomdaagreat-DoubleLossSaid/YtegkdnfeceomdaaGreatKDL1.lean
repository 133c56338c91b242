/- Plain laws of layer 8: the smallest set of claims to strike, by the reference and by the program. -/
import Derived.Test.YtegkdnfeceomdaaGreatKDW1
set_option maxRecDepth 100000
set_option maxHeartbeats 16000000
set_option linter.unusedSimpArgs false
set_option linter.unusedVariables false
namespace Go.Hs
open Go.RowKit Go.Proofs.YtegkdnfeceomdaaGreat
def combN (n:Nat):Nat→List Nat→Nat→List (List Nat)
 |0,out,_=> [out]
 |m+1,out,s=>(List.range (n - m - s)).flatMap (fun j=>combN n m (out++ [s+j]) (s+j+1))
theorem scanN_eq {α:Type} (f:Nat→Option α):∀n i,scanN f n i=(List.range n).findSome? (fun j=>f (i+j))
  |0,i=>rfl
  | n + 1, i => by
    rw [List.range_succ_eq_map,List.findSome?_cons,Nat.add_zero];unfold scanN;cases f i with
    |some x=>rfl
    | none =>
      simp only;rw [scanN_eq f n (i+1),List.findSome?_map];congr 1
      funext j
      simp only [Function.comp];congr 1
      omega
theorem strike_find (n:Nat) (ok:List Nat→Bool):∀m out s,strikeS n ok m out s=(combN n m out s).find? ok
  | 0, out, s => by
    unfold strikeS combN;cases h:ok out<;>simp [h]
  | m + 1, out, s => by
    unfold strikeS combN;rw [scanN_eq,List.find?_flatMap];congr 1
    funext j
    exact strike_find n ok m _ _
def candN (n:Nat):List (List Nat):=(List.range (n+1)).flatMap (fun m=>combN n m [] 0)
theorem leave_find (c:DCas):leaveD c=((candN c.clms.length).find? (okD c)).getD []:=by
 unfold leaveD candN;rw [List.find?_flatMap];simp only [strike_find]
def maskN (o:List Nat):Nat:=o.foldl (fun a i=>a+2 ^ i) 0
theorem cand_mask:∀n,n<6→∀o∈candN n,maskN o<2 ^ n∧bitsH (maskN o)=intsN o∧∀i,i<n→bitB (maskN o) i=decide (i∈o):=by decide+kernel
theorem cand_of:∀n,n<6→∀m,m<2 ^ n→(candN n).any (fun o=>decide (maskN o=m))=true:=by decide+kernel
theorem cand_sorted:∀n,n<6→(candN n).Pairwise (fun a b=>shorterI (intsN a) (intsN b)=true):=by decide+kernel
def rankN (m:Nat):Nat:=((candN 5).map maskN).idxOf m
theorem shorter_rank:∀a,a<32→∀b,b<32→shorterI (bitsH a) (bitsH b)=decide (rankN a<rankN b):=by decide+kernel
theorem stepK_any {p:Knd→Bool} (hp:∀f g,sameK f g=true→p f=p g) (kn:List Knd) (k:Knd):(stepK kn k).any p=(kn.any p||p k):=by
 unfold stepK;split
 ·rw [List.any_append];simp
 ·rename_i h
  have hne:kn≠ []:=fun e=>h (.inl e)
  have hs:sameK (kn.getLastD (fun _=>false)) k=true:=by
   cases hq:sameK (kn.getLastD (fun _=>false)) k with
   |true=>rfl
   |false=>exact absurd (.inr hq) h
  have hm:kn.getLastD (fun _=>false)∈kn:=by
   rw [List.getLastD_eq_getLast?,List.getLast?_eq_some_getLast hne];exact List.getLast_mem hne
  rw [←hp _ _ hs];cases hq:p (kn.getLastD (fun _=>false)) with
  |false=>simp
  |true=>rw [Bool.or_true];exact List.any_eq_true.2 ⟨_,hm,hq⟩
theorem foldK_any {p:Knd→Bool} (hp:∀f g,sameK f g=true→p f=p g):∀(l kn:List Knd),(l.foldl stepK kn).any p=(kn.any p||l.any p)
 | [],kn=>by simp
 |k::l,kn=>by rw [List.foldl_cons,foldK_any hp l,stepK_any hp,List.any_cons,Bool.or_assoc]
theorem sameK_at {f g:Knd} (h:sameK f g=true) {i:Nat} (hi:i<5):f i=g i:=by
 simp only [sameK,Bool.and_eq_true,beq_iff_eq] at h;obtain⟨h0,h1,h2,h3,h4⟩:=h;rcases i with _|_|_|_|_|i
 all_goals first|assumption|omega
theorem okK_iff {n:Nat} {out:List Nat} {k:Knd} :okK n (intsN out) k=true↔∀i,i<n→k i=true∨i∈out:=by
 have hm:∀i:Nat,(i:Int)∈intsN out↔i∈out:=fun i=>by
  unfold intsN;rw [List.mem_map];constructor
  ·rintro ⟨j,hj,e⟩;rw [←Int.ofNat.inj e];exact hj
  ·intro h;exact⟨i,h,rfl⟩
 unfold okK everyI;rw [List.all_map,List.all_eq_true];constructor
 ·intro h i hi
  have:=h i (List.mem_range.2 hi);simp only [Function.comp,Bool.or_eq_true,decide_eq_true_eq,Int.toNat_natCast,hm] at this;exact this
 ·intro h i hi
  have:=h i (List.mem_range.1 hi);simp only [Function.comp,Bool.or_eq_true,decide_eq_true_eq,Int.toNat_natCast,hm];exact this
theorem okD_iff {c:DCas} (h:caseD c=0) (o:List Nat):okD c o=true↔∃t d,listedD c t=true∧damD c t=some d∧∀i,i<c.clms.length→rightD (c.clms.getD i default) d=true∨i∈o:=by
 have hn:=(caseD_zero h).2.1.nm
 have hp:∀f g:Knd,sameK f g=true→okK c.clms.length (intsN o) f=okK c.clms.length (intsN o) g:=fun f g hs=>by
  rw [Bool.eq_iff_iff,okK_iff,okK_iff];constructor
  ·intro h i hi;rw [←sameK_at hs (by omega)];exact h i hi
  ·intro h i hi;rw [sameK_at hs (by omega)];exact h i hi
 unfold okD knownD;rw [foldK_any hp,List.any_nil,Bool.false_or,List.any_map,List.any_eq_true];constructor
 ·rintro ⟨x, hx, hk⟩; obtain ⟨h1, h2, -⟩ := mem_truthsD.1 hx; refine ⟨_, _, h1, h2, fun i hi => ?_⟩
  have:=okK_iff.1 hk i hi;simpa [kndD,hi] using this
 ·rintro ⟨t, d, h1, h2, h3⟩; refine ⟨(t, d), mem_truthsD.2 ⟨h1, h2, good_iff.2 (fun i hi hx => absurd (mem_everyI.2 hi) hx)⟩, okK_iff.2 (fun i hi => ?_)⟩
  have:=h3 i hi;simpa [kndD,hi] using this
theorem okD_can {c:DCas} (h:caseD c=0) {o:List Nat} (ho:o∈candN c.clms.length):okD c o=canB (allD c) ((2 ^ c.clms.length - 1 - maskN o:Nat):Int):=by
 have hn:=(caseD_zero h).2.1.nm;obtain⟨m1,-,m3⟩:=cand_mask c.clms.length (by omega) o ho;have hfl:=full_lt hn
 have hb:∀i,i<5→(bitB (2 ^ c.clms.length - 1 - maskN o) i=true↔i<c.clms.length∧¬i∈o):=fun i hi=>by
  by_cases hin:i<c.clms.length
  ·rw [left_bit c.clms.length (by omega) (maskN o) m1 i hin,m3 i hin];simp [hin]
  ·have : bitB (2 ^ c.clms.length - 1 - maskN o) i = false := by
    refine bitB_none (p:=c.clms.length) (Nat.div_eq_of_lt ?_) (by omega)
    have:1≤2 ^ c.clms.length:=Nat.one_le_two_pow;omega
   rw [this];simp [hin]
 rw [Bool.eq_iff_iff,okD_iff h,can_iff h (by omega)];constructor
 ·rintro ⟨t, d, h1, h2, h3⟩; refine ⟨t, d, h1, h2, fun i hi hbi => ?_⟩
  obtain⟨g1,g2⟩:=(hb i hi).1 hbi;rw [rights_get g1];rcases h3 i g1 with h|h
  ·exact h
  ·exact absurd h g2
 ·rintro ⟨t, d, h1, h2, h3⟩; refine ⟨t, d, h1, h2, fun i hi => ?_⟩
  by_cases hm:i∈o
  ·exact .inr hm
  ·left
   rw [←rights_get hi];exact h3 i (by omega) ((hb i (by omega)).2 ⟨hi,hm⟩)
end Go.Hs
