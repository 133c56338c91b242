/- Plain law of layer 7: the award is the sum of the payments for the settled counts. -/
import Derived.Test.YtbmjnilcinfdiaaGreatKYI
set_option linter.unusedSimpArgs false
set_option linter.unusedVariables false
namespace Go.Hs
open Go.RowKit Go.Proofs.YtbmjnilcinfdiaaGreat
def awardTo (c : Cas) (t : List Thr) (k : Nat) : Int := (sumT c (c.flds.take k) (t.take k)).award
theorem awardTo_zero (c : Cas) (t : List Thr) : awardTo c t 0 = 0 := rfl
theorem awardTo_next {c : Cas} {t : List Thr} {k : Nat} (h1 : k < c.flds.length) (h2 : k < t.length) : awardTo c t (k + 1) = awardTo c t k + payC c c.flds[k] (settledS c.flds[k] t[k]) := by
  unfold awardTo
  rw [← sumT_next h1 h2]
  simp [Sm.plus, outS]
theorem awardTo_len {c : Cas} {t : List Thr} (h : t.length = c.flds.length) : awardTo c t c.flds.length = (sumT c c.flds t).award := by
  unfold awardTo
  rw [List.take_length, ← h, List.take_length]
theorem countsT_at {fs : List Fld} {t : List Thr} {k : Nat} (h1 : k < fs.length) (h2 : k < t.length) (h : k < (countsT fs t).length) : (countsT fs t)[k] = settledS fs[k] t[k] := by
  simp [countsT]
theorem award_bd {c : Cas} (hc : CasOK c) (h0 : checkS c.tars = 0) {t : List Thr} (ht : TruthOf c.flds t) : ∀ k, k ≤ c.flds.length → 0 ≤ awardTo c t k ∧ awardTo c t k ≤ 100000 * (k : Int)
  | 0, _ => by rw [awardTo_zero]; omega
  | k + 1, hk => by
    obtain ⟨hl, hx⟩ := truthOf_iff.1 ht
    have h1 : k < c.flds.length := hk
    have h2 : k < t.length := by omega
    have ih := award_bd hc h0 ht k (by omega)
    have ho := outS_ok hc h0 (hc.flds _ (List.getElem_mem h1)) (hx k h1 h2)
    rw [awardTo_next h1 h2]
    have := ho.pay
    simp only [outS] at this
    omega
theorem pay_in {c : Cas} (hc : CasOK c) (h0 : checkS c.tars = 0) {t : List Thr} (ht : TruthOf c.flds t) {k : Nat} (h1 : k < c.flds.length) (h2 : k < t.length) : (0 ≤ settledS c.flds[k] t[k] ∧ settledS c.flds[k] t[k] ≤ 100) ∧ payE c.tars (claimF c c.flds[k] (settledS c.flds[k] t[k])) c.day (settledS c.flds[k] t[k]) = 0 := by
  obtain ⟨hl, hx⟩ := truthOf_iff.1 ht
  have hf := hc.flds _ (List.getElem_mem h1)
  have hxx := hx k h1 h2
  have hs := settled_bd (f := c.flds[k]) (x := t[k]) (by have := hxx.a; have := hf.a; omega) (by have := hxx.b; have := hf.b; omega)
  refine ⟨hs, ?_⟩
  have hcl : claimB c.tars (claimF c c.flds[k] (settledS c.flds[k] t[k])) = true := claimF_iff.2 ⟨hf.crop, hf.value, hc.day, hs⟩
  have := payOk_iff (c := c) (f := c.flds[k]) (n := settledS c.flds[k] t[k]) h0
  rw [hcl] at this
  unfold payOk at this
  simpa using this
theorem picked_play {c : Cas} (h : caseE c = 0) {t : List Thr} (ht : TruthOf c.flds t) : playE c t = 0 := by
  unfold playE
  rw [if_neg (by rw [h]; simp), listedB_iff.2 (truthOf_iff.1 ht)]
  rfl
end Go.Hs
