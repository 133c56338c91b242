/- Bundled: what the texts WF WG say one after another. -/
import Derived.Test.YtegkdnfeceomdaaGreatKDL1
import Derived.Test.YtegkdnfeceomdaaGreatKDW1
set_option maxRecDepth 100000
set_option maxHeartbeats 16000000
set_option linter.unusedSimpArgs false
set_option linter.unusedVariables false
namespace Go.Hs
open Go.RowKit Go.Proofs.YtegkdnfeceomdaaGreat
structure SameC (c x:DCas):Prop where
 bk:x.bk=c.bk
 day:x.day=c.day
 parcel:x.parcel=c.parcel
 soc:x.soc=c.soc
 nc:x.covs.length=c.covs.length
 cov:∀i,(x.covs.getD i default).soc=(c.covs.getD i default).soc∧(x.covs.getD i default).owner=(c.covs.getD i default).owner∧(x.covs.getD i default).parcel=(c.covs.getD i default).parcel∧(x.covs.getD i default).sum=(c.covs.getD i default).sum∧(x.covs.getD i default).till=(c.covs.getD i default).till
theorem SameC.claims (c:DCas) (l:List Clm):SameC c { c with clms:=l } :=⟨rfl,rfl,rfl,rfl,rfl,fun _=>⟨rfl,rfl,rfl,rfl,rfl⟩⟩
theorem SameC.sums {c x:DCas} (h:SameC c x) (f:Fd) (st:List Int) (j:Int):∀n,sumsD x f st j n=sumsD c f st j n
  |0=>rfl
  | n + 1 => by
    have hk:covs1 x f st n=covs1 c f st n:=by
      obtain⟨-,h2,h3,-,h5⟩:=h.cov n;unfold covs1;simp only [h2,h3,h5,h.day,h.parcel]
    unfold sumsD;rw [h.sums f st j n,hk,(h.cov n).1,(h.cov n).2.2.2.1]
theorem SameC.dam {c x:DCas} (h:SameC c x) (t:DTr):damD x t=damD c t:=by
 unfold damD;rw [h.bk,h.day,h.parcel,h.nc];simp only [h.sums]
structure SubC (c x:DCas):Prop where
 same:SameC c x
 sub:∀t,listedD c t=true→listedD x t=true
theorem SubC.truths {c x:DCas} (h:SubC c x) {o p:List Int} (hg:∀d,goodD c o d=true→goodD x p d=true):∀y∈truthsD c o,y∈truthsD x p:=fun y hy=>by
 obtain⟨h1,h2,h3⟩:=mem_truthsD.1 hy;exact mem_truthsD.2 ⟨h.sub _ h1,(h.same.dam _).trans h2,hg _ h3⟩
theorem SubC.claims (c:DCas) (l:List Clm):SubC c { c with clms:=l } :=⟨SameC.claims c l,fun _ h=>h⟩
theorem good_every (c:DCas) (d:Dmg):goodD c (everyI c.clms.length) d=true:=good_iff.2 (fun i hi hx=>absurd (mem_everyI.2 hi) hx)
theorem SubC.every {c x:DCas} (h:SubC c x) (hn:(truthsD c (everyI c.clms.length)).isEmpty=false):(truthsD x (everyI x.clms.length)).isEmpty=false:=by
 obtain⟨y,hy⟩:=List.isEmpty_eq_false_iff_exists_mem.1 hn;exact List.isEmpty_eq_false_iff_exists_mem.2 ⟨y,h.truths (fun d _=>good_every x d) y hy⟩
theorem ask_of {c:DCas} (h:caseD c=0):askD c true=if (truthsD c (everyI c.clms.length)).isEmpty then 9 else 0:=by
 unfold askD;rw [if_neg (by simp [h]),if_pos rfl]
theorem bnd_of {c:DCas} (h:askD c true=0):bndE c=if (truthsD c []).isEmpty then 11 else 0:=by
 unfold bndE;rw [if_neg (by simp [h])]
theorem cand_full:∀n,n<6→List.range n∈candN n:=by decide+kernel
theorem cand_len:∀n,n<6→(candN n).Pairwise (fun a b=>a.length≤b.length):=by decide+kernel
theorem cand_lt:∀n,n<6→∀o∈candN n,(∀i∈o,i<n)∧o.length≤n:=by decide+kernel
theorem leave_min {c:DCas} (h:askD c true=0):leaveD c∈candN c.clms.length∧okD c (leaveD c)=true∧∀o∈candN c.clms.length,okD c o=true→(leaveD c).length≤o.length∧(o=leaveD c∨shorterI (intsN (leaveD c)) (intsN o)=true):=by
  obtain⟨hc,-,ht⟩:=askD_zero h;have hn:=(caseD_zero hc).2.1.nm
  have hfull:okD c (List.range c.clms.length)=true:=by
    obtain⟨y,hy⟩:=List.isEmpty_eq_false_iff_exists_mem.1 ht;obtain⟨h1,h2,-⟩:=mem_truthsD.1 hy;exact(okD_iff hc _).2 ⟨_,_,h1,h2,fun i hi=> .inr (List.mem_range.2 hi)⟩
  rw [leave_find];cases hf:(candN c.clms.length).find? (okD c) with
  |none=>exact absurd hfull (by simp [List.find?_eq_none.1 hf _ (cand_full _ (by omega))])
  | some o =>
    simp only [Option.getD_some];obtain⟨ho,l1,l2,hl,hno⟩:=List.find?_eq_some_iff_append.1 hf;refine⟨List.mem_of_find?_eq_some hf,ho,fun p hp hok=> ?_⟩
    have hs:=cand_sorted c.clms.length (by omega);have hle:=cand_len c.clms.length (by omega);rw [hl] at hp hs hle;rcases List.mem_append.1 hp with hin|hin
    · have:=hno p hin;rw [hok] at this;simp at this
    · rcases List.mem_cons.1 hin with rfl | hin
      · exact⟨Nat.le_refl _,.inl rfl⟩
      · exact⟨(List.pairwise_cons.1 (List.pairwise_append.1 hle).2.1).1 p hin,.inr ((List.pairwise_cons.1 (List.pairwise_append.1 hs).2.1).1 p hin)⟩
def someL (l:List Clm) (m:Nat):Nat→List Clm
 |0=> []
 |k+1=>if bitB m k then someL l m k++ [l.getD k default] else someL l m k
def someC (c:DCas) (m:Nat):DCas:= { c with clms:=someL c.clms m c.clms.length }
theorem someL_len (l:List Clm) (m:Nat):∀k,(someL l m k).length≤k
  |0=>Nat.le_refl _
  | k + 1 => by
    have:=someL_len l m k;unfold someL;split
    · rw [List.length_append];simp;omega
    · omega
theorem someL_mem {l : List Clm} {m : Nat} {x : Clm} : ∀ {k : Nat}, x ∈ someL l m k ↔ ∃ i, i < k ∧ bitB m i = true ∧ x = l.getD i default
  |0=>by simp [someL]
  | k + 1 => by
    have ih:=someL_mem (l:=l) (m:=m) (x:=x) (k:=k);unfold someL;constructor
    · intro h
      split at h
      · rename_i hb
        rcases List.mem_append.1 h with h|h
        · obtain⟨i,h1,h2⟩:=ih.1 h;exact⟨i,by omega,h2⟩
        · exact⟨k,by omega,hb,by simpa using h⟩
      · obtain⟨i,h1,h2⟩:=ih.1 h;exact⟨i,by omega,h2⟩
    · rintro ⟨i, h1, h2, h3⟩; by_cases hi : i = k
      · subst hi;rw [if_pos h2,h3];simp
      · have := ih.2 ⟨i, by omega, h2, h3⟩; split
        · exact List.mem_append_left _ this
        · exact this
theorem caseD_clms {c:DCas} (h:caseD c=0) (l:List Clm) (hl:l.length≤5) (ha:∀x∈l,clmB c x=true):caseD { c with clms:=l } =0:=by
 have e:rngsD { c with clms:=l } =rngsD c:=rfl;unfold caseD at h⊢;simp only [e];split at h
 ·rename_i h1;exact absurd h h1
 ·rename_i h1
  split at h
  ·cases h
  ·rename_i h2
   split at h
   ·rename_i h3
    split at h
    ·cases h
    ·rename_i h4
     simp only [Bool.and_eq_true] at h3;rw [if_neg h1,if_neg (by omega),if_pos,if_neg h4];simp only [Bool.and_eq_true];exact⟨h3.1,h3.2.1,h3.2.2.1,h3.2.2.2.1,h3.2.2.2.2.1,List.all_eq_true.2 ha⟩
   ·cases h
theorem some_case {c:DCas} (h:caseD c=0) (m:Nat):caseD (someC c m)=0:=by
 have hS:=(caseD_zero h).2.1;refine caseD_clms h _ ?_ (fun x hx=> ?_)
 ·have:=someL_len c.clms m c.clms.length;have:=hS.nm;omega
 ·obtain ⟨i, hi, -, rfl⟩ := someL_mem.1 hx; have e : c.clms.getD i default = c.clms[i] := by simp [hi]
  rw [e];exact hS.clm _ (List.getElem_mem hi)
theorem good_all {c:DCas} {d:Dmg} :goodD c [] d=true↔∀x∈c.clms,rightD x d=true:=by
 rw [good_iff];constructor
 ·intro h x hx
  obtain⟨i,hi,rfl⟩:=List.getElem_of_mem hx;have:=h i hi (by simp);rw [rights_get hi] at this;simpa [hi] using this
 ·intro h i hi _
  rw [rights_get hi];have e:c.clms.getD i default=c.clms[i]:=by simp [hi]
  rw [e];exact h _ (List.getElem_mem hi)
theorem some_truths {c:DCas} (h:caseD c=0) {m:Nat} (hm:m<2 ^ c.clms.length):canB (allD c) (m:Int)= !(truthsD (someC c m) []).isEmpty:=by
 have hn:=(caseD_zero h).2.1.nm;have h32:=pow_le32 hn;have hdm:∀t,damD (someC c m) t=damD c t:=fun t=>(SameC.claims c _).dam t
 rw [Bool.eq_iff_iff,can_iff h (by omega),truthsNe];constructor
 ·rintro ⟨t, d, h1, h2, h3⟩; refine ⟨t, d, h1, (hdm t).trans h2, good_all.2 (fun x hx => ?_)⟩
  obtain⟨i,hi,hb,rfl⟩:=someL_mem.1 hx;rw [←rights_get hi];exact h3 i (by omega) hb
 ·rintro ⟨t, d, h1, h2, h3⟩; refine ⟨t, d, h1, (hdm t).symm.trans h2, fun i hi hb => ?_⟩
  have hin:i<c.clms.length:=by
   by_cases hi2:i<c.clms.length
   ·exact hi2
   ·exfalso
    rw [bitB_none (p:=c.clms.length) (Nat.div_eq_of_lt hm) (by omega)] at hb;cases hb
  rw [rights_get hin];exact good_all.1 h3 _ (someL_mem.2 ⟨i,hin,hb,rfl⟩)
theorem some_ask {c:DCas} (h:askD c true=0) (m:Nat):askD (someC c m) true=0:=by
 obtain⟨hc,-,ht⟩:=askD_zero h;have hs:SubC c (someC c m):=SubC.claims c _;rw [ask_of (some_case hc m),hs.every ht];rfl
theorem bnd_some {c:DCas} (h:askD c true=0) {m:Nat} (hm:m<2 ^ c.clms.length):bndE (someC c m)=if canB (allD c) (m:Int) then 0 else 11:=by
 rw [bnd_of (some_ask h m),some_truths (askD_zero h).1 hm];cases (truthsD (someC c m) []).isEmpty<;>rfl
theorem leave_law {c:DCas} (h:askD c true=0):maskN (leaveD c)<2 ^ c.clms.length∧bndE (someC c (2 ^ c.clms.length - 1 - maskN (leaveD c)))=0∧∀m,m<2 ^ c.clms.length→bndE (someC c (2 ^ c.clms.length - 1 - m))=11∨(bndE (someC c (2 ^ c.clms.length - 1 - m))=0∧shorterI (bitsH m) (intsN (leaveD c))=false):=by
  obtain⟨hc,-,ht⟩:=askD_zero h;have hn:=(caseD_zero hc).2.1.nm;obtain⟨a1,a2,a3⟩:=leave_min h;obtain⟨q1,q2,-⟩:=cand_mask c.clms.length (by omega) _ a1;refine⟨q1,?_,fun m hm=> ?_⟩
  · rw [bnd_some h (by omega),←okD_can hc a1,a2];rfl
  · rw [bnd_some h (by omega)]; cases hb : canB (allD c) ((2 ^ c.clms.length - 1 - m : Nat) : Int) with
    |false=>left;rfl
    | true =>
      right
      refine⟨rfl,?_⟩
      obtain⟨o,ho,hmo⟩:=List.any_eq_true.1 (cand_of c.clms.length (by omega) m hm);have hmo:=of_decide_eq_true hmo;obtain⟨-,r2,-⟩:=cand_mask c.clms.length (by omega) _ ho;have hok:okD c o=true:=by rw [okD_can hc ho,hmo];exact hb
      have h32:=pow_le32 hn;rw [←q2,shorter_rank m (by omega) _ (by omega)];rcases (a3 o ho hok).2 with e|e
      · rw [e] at hmo;rw [hmo];simp
      · rw [←q2,←r2,hmo,shorter_rank _ (by omega) m (by omega)] at e;have:=of_decide_eq_true e;rw [decide_eq_false_iff_not];omega
end Go.Hs
