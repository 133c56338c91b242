/- Plain words of the reference of layer 7: how a case ends by its outcomes. -/
import Derived.Test.YtedblocbcjoolaaGreatKB5
import Derived.Test.YtedblocbcjoolaaGreatKB6
set_option linter.unusedSimpArgs false
set_option linter.unusedVariables false
namespace Go.Hs
open Go.RowKit Go.Proofs.YtedblocbcjoolaaGreat
/-- What the outcomes so far come to: the award, whether the umpire was called, and who lost more fields. -/
structure Rs where
  award : Int
  called : Bool
  lost : Int
def Rs.zero : Rs := ⟨0, false, 0⟩
def Rs.plus (r : Rs) (o : Oc) : Rs := ⟨r.award + o.pay, r.called || o.called, r.lost + o.lost⟩
def Rs.far (fee : Int) (r : Rs) : Int := if r.called then (if 0 < r.lost then fee else if r.lost < 0 then 0 else fee - fee / 2) else 0
def Rs.soc (fee : Int) (r : Rs) : Int := if r.called then (if 0 < r.lost then 0 else if r.lost < 0 then fee else fee / 2) else 0
def sumR (l : List Oc) : Rs := l.foldl Rs.plus Rs.zero
theorem sumR_next {l : List Oc} {k : Nat} (h : k < l.length) : (sumR (l.take k)).plus l[k] = sumR (l.take (k + 1)) := by
  unfold sumR
  rw [List.take_succ_eq_append_getElem h, List.foldl_append]; rfl
structure OcOK (o : Oc) : Prop where
  pay : 0 ≤ o.pay ∧ o.pay ≤ 100000
  lost : -1 ≤ o.lost ∧ o.lost ≤ 1
structure RsN (n : Nat) (r : Rs) : Prop where
  award : 0 ≤ r.award ∧ r.award ≤ 100000 * n
  lost : -(n : Int) ≤ r.lost ∧ r.lost ≤ n
theorem RsN.zero : RsN 0 Rs.zero := ⟨by simp [Rs.zero], by simp [Rs.zero]⟩
theorem RsN.plus {n : Nat} {r : Rs} {o : Oc} (h : RsN n r) (k : OcOK o) : RsN (n + 1) (r.plus o) := by
  obtain ⟨h1, h2⟩ := h
  obtain ⟨k1, k2⟩ := k
  refine ⟨?_, ?_⟩ <;> simp only [Rs.plus] <;> omega
theorem lostS_bd (f : Fld) (x : Thr) : -1 ≤ lostS f x ∧ lostS f x ≤ 1 := by
  unfold lostS
  split
  · omega
  · split <;> omega
theorem ocS_ok {c : Cas} (hc : CasOK c) (h0 : checkS c.tars = 0) {f : Fld} (hf : FldOK c.tars f) {x : Thr} (hx : ThrOK f x) : OcOK (ocS c f x) :=
  ⟨(outS_ok hc h0 hf hx).pay, lostS_bd f x⟩
/-- The two ways to add up outcomes agree. -/
structure Like (s : Sm) (r : Rs) : Prop where
  award : s.award = r.award
  called : calledS s = r.called
  lost : s.e2 - s.e3 = r.lost
theorem Like.zero : Like Sm.zero Rs.zero := ⟨rfl, rfl, rfl⟩
theorem loser_called_k (f : Fld) (x : Thr) : (loserS f x = 0 ↔ calledB f x = false) := by
  unfold loserS
  cases calledB f x
  · simp
  · simp only [if_true]
    constructor
    · intro h; split at h
      · omega
      · split at h <;> omega
    · intro h; cases h
theorem Like.plus {n : Nat} {s : Sm} {r : Rs} (hs : SmN n s) (h : Like s r) (c : Cas) (f : Fld) (x : Thr) : Like (s.plus (outS c f x)) (r.plus (ocS c f x)) := by
  obtain ⟨h1, h2, h3⟩ := h
  have hl := loser_lt f x
  have hlc := loser_called_k f x
  refine ⟨?_, ?_, ?_⟩
  · simp [Sm.plus, Rs.plus, outS, ocS, h1]
  · simp only [Rs.plus, ocS, ← h2]
    unfold calledS
    simp only [Sm.plus, outS]
    have := hs.e1; have := hs.e2; have := hs.e3
    cases hc : calledB f x with
    | false =>
      have e := hlc.2 hc
      simp [e]
    | true =>
      have e : loserS f x ≠ 0 := fun g => by rw [hlc.1 g] at hc; cases hc
      simp only [Bool.or_true]
      have : loserS f x = 1 ∨ loserS f x = 2 ∨ loserS f x = 3 := by omega
      rcases this with g | g | g <;> simp [g] <;> omega
  · simp only [Sm.plus, Rs.plus, outS, ocS, lostS, ← h3]
    have : loserS f x = 0 ∨ loserS f x = 1 ∨ loserS f x = 2 ∨ loserS f x = 3 := by omega
    rcases this with g | g | g | g <;> simp [g] <;> omega
theorem Like.far {s : Sm} {r : Rs} (h : Like s r) (fee : Int) : feeA fee s = r.far fee := by
  unfold feeA Rs.far
  rw [h.called, ← h.lost]
  congr 1
  by_cases h1 : s.e3 < s.e2
  · have a1 : 0 < s.e2 - s.e3 := by omega
    rw [if_pos h1, if_pos a1]
  · have a1 : ¬ 0 < s.e2 - s.e3 := by omega
    rw [if_neg h1, if_neg a1]
    by_cases h2 : s.e2 < s.e3
    · have a2 : s.e2 - s.e3 < 0 := by omega
      rw [if_pos h2, if_pos a2]
    · have a2 : ¬ s.e2 - s.e3 < 0 := by omega
      rw [if_neg h2, if_neg a2]
theorem Like.soc {s : Sm} {r : Rs} (h : Like s r) (fee : Int) : feeB fee s = r.soc fee := by
  unfold feeB Rs.soc
  rw [h.called, ← h.lost]
  congr 1
  by_cases h1 : s.e3 < s.e2
  · have a1 : 0 < s.e2 - s.e3 := by omega
    rw [if_pos h1, if_pos a1]
  · have a1 : ¬ 0 < s.e2 - s.e3 := by omega
    rw [if_neg h1, if_neg a1]
    by_cases h2 : s.e2 < s.e3
    · have a2 : s.e2 - s.e3 < 0 := by omega
      rw [if_pos h2, if_pos a2]
    · have a2 : ¬ s.e2 - s.e3 < 0 := by omega
      rw [if_neg h2, if_neg a2]
/-- The outcomes of a truth. -/
def ocsT (c : Cas) (fs : List Fld) (t : List Thr) : List Oc := (fs.zip t).map (fun p => ocS c p.1 p.2)
/-- The sum of a truth, by both ways. -/
theorem like_truth {c : Cas} (hc : CasOK c) (h0 : checkS c.tars = 0) : ∀ (fs : List Fld) (t : List Thr) (n : Nat) (s : Sm) (r : Rs), (∀ k (h1 : k < fs.length) (h2 : k < t.length), fs[k] ∈ c.flds ∧ ThrOK fs[k] t[k]) → SmN n s → Like s r →
    SmN (n + (fs.zip t).length) ((fs.zip t).foldl (fun s p => s.plus (outS c p.1 p.2)) s) ∧ Like ((fs.zip t).foldl (fun s p => s.plus (outS c p.1 p.2)) s) ((ocsT c fs t).foldl Rs.plus r)
  | [], _, n, s, r, _, hs, hl => ⟨hs, hl⟩
  | _ :: _, [], n, s, r, _, hs, hl => ⟨hs, hl⟩
  | f :: fs, x :: t, n, s, r, h, hs, hl => by
    have hf := h 0 (by simp) (by simp)
    simp only [List.getElem_cons_zero] at hf
    have := like_truth hc h0 fs t (n + 1) (s.plus (outS c f x)) (r.plus (ocS c f x)) (fun k h1 h2 => by
      have := h (k + 1) (by simpa using h1) (by simpa using h2)
      simpa using this) (hs.plus (outS_ok hc h0 (hc.flds f hf.1) hf.2)) (hl.plus hs c f x)
    have e : n + ((f :: fs).zip (x :: t)).length = n + 1 + (fs.zip t).length := by simp; omega
    rw [e]
    exact this
end Go.Hs
