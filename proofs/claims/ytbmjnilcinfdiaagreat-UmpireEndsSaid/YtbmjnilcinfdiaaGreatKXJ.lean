/- Plain laws of layer 7: what holds in each truth. -/
import Derived.Test.YtbmjnilcinfdiaaGreatKXI
import Derived.Test.YtbmjnilcinfdiaaGreatKXC
import Derived.Test.YtbmjnilcinfdiaaGreatKVK
set_option linter.unusedSimpArgs false
set_option linter.unusedVariables false
namespace Go.Hs
open Go.RowKit Go.Proofs.YtbmjnilcinfdiaaGreat
theorem called_plus {n : Nat} {s : Sm} (hs : SmN n s) (c : Cas) (f : Fld) (x : Thr) : calledS (s.plus (outS c f x)) = (calledS s || calledB f x) :=
  (Like.plus hs (r := ⟨s.award, calledS s, s.e2 - s.e3⟩) ⟨rfl, rfl, rfl⟩ c f x).called
theorem sm_to {c : Cas} (hc : CasOK c) (h0 : checkS c.tars = 0) {t : List Thr} (ht : TruthOf c.flds t) : ∀ k, k ≤ c.flds.length → SmN k (sumT c (c.flds.take k) (t.take k))
  | 0, _ => SmN.zero
  | k + 1, hk => by
    obtain ⟨hl, hx⟩ := truthOf_iff.1 ht
    have h1 : k < c.flds.length := hk
    have h2 : k < t.length := by omega
    rw [← sumT_next h1 h2]
    exact (sm_to hc h0 ht k (by omega)).plus (outS_ok hc h0 (hc.flds _ (List.getElem_mem h1)) (hx k h1 h2))
/-- Whether the umpire was called for one of the first fields. -/
def calTo (c : Cas) (t : List Thr) (k : Nat) : Bool := calledS (sumT c (c.flds.take k) (t.take k))
theorem calTo_zero (c : Cas) (t : List Thr) : calTo c t 0 = false := rfl
theorem calTo_next {c : Cas} (hc : CasOK c) (h0 : checkS c.tars = 0) {t : List Thr} (ht : TruthOf c.flds t) {k : Nat} (h1 : k < c.flds.length) (h2 : k < t.length) : calTo c t (k + 1) = (calTo c t k || calledB c.flds[k] t[k]) := by
  unfold calTo
  rw [← sumT_next h1 h2]
  exact called_plus (sm_to hc h0 ht k (by omega)) c _ _
theorem calTo_len {c : Cas} {t : List Thr} (h : t.length = c.flds.length) : calTo c t c.flds.length = calledS (sumT c c.flds t) := by
  unfold calTo
  rw [List.take_length, ← h, List.take_length]
/-- What a truth's result is like. -/
structure ResB (c : Cas) (t : List Thr) : Prop where
  award : bLo c 0 ≤ (sumT c c.flds t).award ∧ (sumT c c.flds t).award ≤ bHi c 0
  far : bLo c 1 ≤ feeA c.fee (sumT c c.flds t) ∧ feeA c.fee (sumT c c.flds t) ≤ bHi c 1
  soc : bLo c 2 ≤ feeB c.fee (sumT c c.flds t) ∧ feeB c.fee (sumT c c.flds t) ≤ bHi c 2
  net : bLo c 3 ≤ (sumT c c.flds t).award - feeA c.fee (sumT c c.flds t)
  cost : (sumT c c.flds t).award + feeB c.fee (sumT c c.flds t) ≤ bHi c 4
  aw : 0 ≤ (sumT c c.flds t).award ∧ (sumT c c.flds t).award ≤ 300000
  fa : 0 ≤ feeA c.fee (sumT c c.flds t) ∧ feeA c.fee (sumT c c.flds t) ≤ 10000
  fb : 0 ≤ feeB c.fee (sumT c c.flds t) ∧ feeB c.fee (sumT c c.flds t) ≤ 10000
  yes : calledS (sumT c c.flds t) = true → feeA c.fee (sumT c c.flds t) + feeB c.fee (sumT c c.flds t) = c.fee
  no : calledS (sumT c c.flds t) = false → feeA c.fee (sumT c c.flds t) = 0 ∧ feeB c.fee (sumT c c.flds t) = 0
theorem fees_sum (fee : Int) (s : Sm) (h : calledS s = true) : feeA fee s + feeB fee s = fee := by
  unfold feeA feeB
  rw [h]
  simp only [if_true]
  by_cases h1 : s.e3 < s.e2
  · simp [h1]
  · by_cases h2 : s.e2 < s.e3
    · simp [h1, h2]
    · simp only [if_neg h1, if_neg h2]; omega
theorem fees_none (fee : Int) (s : Sm) (h : calledS s = false) : feeA fee s = 0 ∧ feeB fee s = 0 := by
  unfold feeA feeB
  rw [h]; simp
theorem res_b {c : Cas} (hc : CasOK c) (h0 : checkS c.tars = 0) {t : List Thr} (ht : TruthOf c.flds t) : ResB c t := by
  have hf := hc.fee
  have b := award_bd hc h0 ht c.flds.length (Nat.le_refl _)
  rw [awardTo_len (truthOf_iff.1 ht).1] at b
  have hn := hc.few
  have ha := feeA_bd hf.1 (sumT c c.flds t)
  have hb := feeB_bd hf.1 (sumT c c.flds t)
  exact ⟨in_bounds hc ht 0, in_bounds hc ht 1, in_bounds hc ht 2, (in_bounds hc ht 3).1, (in_bounds hc ht 4).2, by omega, by omega, by omega, fees_sum _ _, fees_none _ _⟩
/-- What holds of each field. -/
theorem field_has {l : List Tar} {f : Fld} (hf : FldOK l f) {x : Thr} (hx : ThrOK f x) : settledS f x ∈ countsS f :=
  mem_counts.2 ⟨settled_bd (f := f) (x := x) (by have := hx.a; have := hf.a; omega) (by have := hx.b; have := hf.b; omega), x, hx, rfl⟩
theorem field_yes {f : Fld} {x : Thr} (hx : ThrOK f x) (h : calledB f x = true) : calledV f ≠ 2 := fun e => by
  have := called_never.1 e x (mem_truths.2 hx)
  rw [h] at this; cases this
theorem field_no {f : Fld} {x : Thr} (hx : ThrOK f x) (h : calledB f x = false) : calledV f ≠ 1 := fun e => by
  have := (called_always.1 e).2 x (mem_truths.2 hx)
  rw [h] at this; cases this
theorem prove_own {c : Cas} {t : List Thr} (h : playE c t = 0) : proveB c t (sumT c c.flds t).award = true := by simp [proveB, h]
end Go.Hs
