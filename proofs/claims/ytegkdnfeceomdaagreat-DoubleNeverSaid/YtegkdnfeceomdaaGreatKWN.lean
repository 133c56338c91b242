/- Plain law of DoubleNever: where the parcel is not covered, or no cover is of it, nobody pays. -/
import Derived.Test.YtegkdnfeceomdaaGreatKDX3
import Derived.Test.YtegkdnfeceomdaaGreatKHWR
import Derived.Test.YtegkdnfeceomdaaGreatKDA23
set_option maxRecDepth 100000
set_option maxHeartbeats 16000000
set_option linter.unusedSimpArgs false
set_option linter.unusedVariables false
namespace Go.Hs
open Go.RowKit Go.Proofs.YtegkdnfeceomdaaGreat
theorem outF_nil:outF []=fun _=>false:=by funext i;simp [outF]
theorem entR_len (b:Bk):(entR b).length=b.ents.length:=by simp [entR]
theorem truth_book {c:DCas} {t:DTr} (ht:listedD c t=true) {f:Fds} (hf:playB c.bk t.days t.sown c.day.toNat (fun _=>false)=some f):((⟨t.days,t.sown⟩:PTr),f)∈truthsP c.bk c.day.toNat []:=by
 obtain⟨h1,h2,-,-,-⟩:=listedD_iff.1 ht;refine mem_truthsP.2 ⟨t.days++t.sown,?_,?_,by rw [outF_nil];exact hf⟩
 ·rw [rngsB_eq];exact allL_of ((InL.app h1.1).2 ⟨h1,h2⟩)
 ·have e:t.days.length=c.bk.ents.length:=h1.1.trans (entR_len _);unfold truP;rw [←e];simp
theorem dam_play {c : DCas} {t : DTr} {d : Dmg} (h : damD c t = some d) : ∃ f, playB c.bk t.days t.sown c.day.toNat (fun _ => false) = some f ∧ d = ⟨(f c.parcel.toNat).value * t.loss / 100, sumsD c (f c.parcel.toNat) t.starts 0 c.covs.length, sumsD c (f c.parcel.toNat) t.starts 1 c.covs.length, sumsD c (f c.parcel.toNat) t.starts 2 c.covs.length⟩ := by
  unfold damD at h;split at h
  · rename_i hp
    have hs:(playB c.bk t.days t.sown c.day.toNat (fun _=>false)).isSome=true:=by
      cases hq:(playB c.bk t.days t.sown c.day.toNat (fun _=>false)).isSome with
      |true=>rfl
      | false =>
        unfold playK at hp;rw [hq] at hp;split at hp
        · rename_i h0;exact absurd hp h0
        · split at hp<;>simp at hp
    obtain⟨f,hf⟩:=Option.isSome_iff_exists.1 hs;rw [hf] at h;simp only [Option.getD_some,Option.some.injEq] at h;exact⟨f,hf,h.symm⟩
  · cases h
theorem good_nilN {c:DCas} (h:c.clms= []) (out:List Int) (d:Dmg):goodD c out d=true:=by unfold goodD;rw [h];rfl
theorem book_truth {c : DCas} (hcl : c.clms = []) (hc : caseD c = 0) : (truthsD c []).isEmpty = (truthsP c.bk c.day.toNat []).isEmpty := by
  obtain⟨hb,hS,-⟩:=caseD_zero hc
  have key:(∃x,x∈truthsD c [])↔∃x,x∈truthsP c.bk c.day.toNat []:=by
    constructor
    · rintro ⟨x,hx⟩;obtain⟨h1,h2,-⟩:=mem_truthsD.1 hx;obtain⟨f,hf,-⟩:=dam_play h2;exact⟨_,truth_book h1 hf⟩
    · rintro ⟨x, hx⟩; obtain ⟨l, hl, e1, e2⟩ := mem_truthsP.1 hx; have hok := truP_ok hl; obtain ⟨hl1, hl2⟩ := mem_allL hl; rw [← e1] at hok; rw [outF_nil] at e2
      have hin:InL (entR c.bk++parR c.bk) (x.1.days++x.1.sown):=by
        have e:x.1.days++x.1.sown=l:=by rw [e1];simp [truP]
        rw [e,←rngsB_eq];exact⟨hl1,hl2⟩
      have hin2:=(InL.app (hok.l1.trans (entR_len _).symm)).1 hin
      have ht:listedD c ⟨x.1.days,x.1.sown,(covR c).map (·.1),c.llo⟩=true:=listedD_iff.2 ⟨hin2.1,hin2.2,⟨by simp,fun i hi=>by
        have:=(covR_le hc).1 _ (List.getElem_mem hi);simp [hi];exact this⟩,Int.le_refl _,(covR_le hc).2⟩
      have hd:(damD c ⟨x.1.days,x.1.sown,(covR c).map (·.1),c.llo⟩).isSome=true:=by
        refine damD_some ?_
        unfold playK;rw [if_neg (fun h=>h hb)];simp only [hok.listed,dayB_iff.2 hS.day,e2];rfl
      obtain⟨d,hd⟩:=Option.isSome_iff_exists.1 hd;exact⟨(_,d),mem_truthsD.2 ⟨ht,hd,good_nilN hcl _ _⟩⟩
  cases h1:truthsD c [] with
  | nil =>
    cases h2:truthsP c.bk c.day.toNat [] with
    |nil=>rfl
    |cons a l=>obtain⟨x,hx⟩:=key.2 ⟨a,by rw [h2];simp⟩;rw [h1] at hx;cases hx
  | cons a l =>
    cases h2:truthsP c.bk c.day.toNat [] with
    |nil=>obtain⟨x,hx⟩:=key.1 ⟨a,by rw [h1];simp⟩;rw [h2] at hx;cases hx
    |cons a l=>rfl
theorem sumsD_zero {c : DCas} {x : Fd} {starts : List Int} {j : Int} (h : x.covers c.day = false ∨ ∀ k ∈ c.covs, k.parcel ≠ c.parcel) : ∀ n, n ≤ c.covs.length → sumsD c x starts j n = 0
  |0,_=>rfl
  | n + 1, hn => by
    have e:covs1 c x starts n=false:=by
      unfold covs1;rcases h with h|h
      · rw [h];simp
      · have hm : c.covs.getD n default ∈ c.covs := by
          have:c.covs.getD n default=c.covs[n]:=by simp [show n<c.covs.length by omega]
          rw [this];exact List.getElem_mem _
        simp only [decide_eq_false (h _ hm)];rfl
    rw [sumsD,sumsD_zero h n (by omega),e];rfl
theorem bdsL_from:∀(ns:List Int) (acc:Option (Int×Int)),(∀n∈ns,n=0)→(acc=none∨acc=some (0,0))→(ns≠ []∨acc=some (0,0))→ns.foldl stepB acc=some (0,0)
  | [],acc,_,_,h=>by rcases h with h|h<;>first|exact absurd rfl h|exact h
  | n :: l, acc, h, ha, _ => by
    have hn:n=0:=h n (by simp);subst hn;refine bdsL_from l _ (fun n hn=>h n (by simp [hn])) (.inr ?_) (.inr ?_)<;>rcases ha with rfl|rfl<;>rfl
theorem bdsL_zero {ns:List Int} (h:∀n∈ns,n=0) (hne:ns≠ []):bdsL ns=some (0,0):=bdsL_from ns none h (.inl rfl) (.inl hne)
theorem bdsD_zero {c:DCas} {f:Dmg→Int} (h:∀x∈truthsD c [],f x.2=0):bdsD c f=(0,0):=by
 unfold bdsD;by_cases he:truthsD c []= []
 ·rw [he];rfl
 ·rw [bdsL_zero (fun n hn=>by obtain⟨x,hx,rfl⟩:=List.mem_map.1 hn;exact h x hx) (by simpa using he)];rfl
theorem nobody {c:DCas} (hc:caseD c=0) (h:(∀t∈truthsP c.bk c.day.toNat [],(t.2 c.parcel.toNat).covers c.day=false)∨∀k∈c.covs,k.parcel≠c.parcel):(∀i,bd4 c i=⟨0,0,0,0⟩)∧bdsD c totD=(0,0):=by
 have hS:=(caseD_zero hc).2.1
 have key:∀x∈truthsD c [],(∀i,payD x.2 i=0)∧(∀i,refundD x.2 i=0)∧totD x.2=0:=by
  intro x hx
  obtain⟨h1,h2,-⟩:=mem_truthsD.1 hx;obtain⟨f,hf,hd⟩:=dam_play h2;have hto:=listedD_ok h1;have hlo:=hS.loss;have htl:=hto.loss;have ho:=damD_ok hS (by omega) h2;have hz:(f c.parcel.toNat).covers c.day=false∨∀k∈c.covs,k.parcel≠c.parcel:=h.imp (fun h=>h _ (truth_book h1 hf)) id;have e0:x.2.s0=0:=by rw [hd];exact sumsD_zero hz _ (Nat.le_refl _)
  have e1:x.2.s1=0:=by rw [hd];exact sumsD_zero hz _ (Nat.le_refl _)
  have e2:x.2.s2=0:=by rw [hd];exact sumsD_zero hz _ (Nat.le_refl _)
  have ha:=ho.a
  have ep:paysD x.2=(0,0,0):=by
   unfold paysD settle3;rw [e0,e1,e2,if_pos (by omega)]
  have hp:∀i,payD x.2 i=0:=fun i=>by unfold payD;rw [ep];simp
  refine⟨hp,fun i=> ?_,by unfold totD;rw [ep];rfl⟩
  unfold refundD;rw [hp i];have:sumD x.2 i=0:=by unfold sumD;rw [e0,e1,e2];simp
  rw [this];omega
 refine⟨fun i=> ?_,bdsD_zero (fun x hx=>(key x hx).2.2)⟩
 unfold bd4;rw [bdsD_zero (fun x hx=>(key x hx).1 i),bdsD_zero (fun x hx=>(key x hx).2.1 i)]
theorem never_law {c : DCas} (hcl : c.clms = []) (hc : caseD c = 0) : ((covE c.bk c.parcel c.day).2 = 9 ∧ bndE c = 9) ∨ ((covE c.bk c.parcel c.day).2 = 0 ∧ bndE c = 0 ∧ ((covE c.bk c.parcel c.day).1 = 2 ∨ (∀ k ∈ c.covs, k.parcel ≠ c.parcel) → (∀ i, bd4 c i = ⟨0, 0, 0, 0⟩) ∧ totR c = (0, 0))) := by
  obtain⟨hb,hS,-⟩:=caseD_zero hc
  have ha:askPB c.bk c.parcel c.day=0:=by
    unfold askPB;rw [if_neg (fun h=>h hb),hS.parcel,dayB_iff.2 hS.day];rfl
  have he:bndE c=if (truthsP c.bk c.day.toNat []).isEmpty then 9 else 0:=by
    unfold bndE askD;have e0:everyI c.clms.length= []:=by rw [hcl];rfl
    rw [e0,book_truth hcl hc];cases (truthsP c.bk c.day.toNat []).isEmpty<;>simp [hc]
  rw [he];unfold covE;rw [if_neg (fun h=>h ha)];cases ht:truthsP c.bk c.day.toNat [] with
  |nil=>left;simp
  | cons t l =>
    right
    have hne:(truthsP c.bk c.day.toNat []).isEmpty=false:=by rw [ht];rfl
    refine⟨?_,by simp,fun h=> ?_⟩
    · cases h1 : (t :: l).any (fun t => (t.2 c.parcel.toNat).covers c.day) <;> cases h2 : (t :: l).any (fun t => !(t.2 c.parcel.toNat).covers c.day) <;> simp
      have a1:=List.any_eq_false.1 h1 t (by simp);have a2:=List.any_eq_false.1 h2 t (by simp);simp at a1 a2
      rw [a1] at a2;cases a2
    · have h' : (∀ t ∈ truthsP c.bk c.day.toNat [], (t.2 c.parcel.toNat).covers c.day = false) ∨ ∀ k ∈ c.covs, k.parcel ≠ c.parcel := by
        refine h.imp (fun hv=> ?_) id
        rw [ht];cases h1:(t::l).any (fun t=>(t.2 c.parcel.toNat).covers c.day) with
        |true=>rw [h1] at hv;cases h2:(t::l).any (fun t=> !(t.2 c.parcel.toNat).covers c.day)<;>rw [h2] at hv<;>simp at hv
        |false=>intro t ht';have:=List.any_eq_false.1 h1 t ht';simpa using this
      obtain⟨k1,k2⟩:=nobody hc h';refine⟨k1,?_⟩
      unfold totR;rw [he,hne];exact k2
end Go.Hs
