/- Plain facts on the sum over a list of claims, as the reference goes on. -/
import Derived.Test.YtfjecbfcnngacaaBX
import Derived.Test.YtfjecbfcnngacaaBT
import Derived.Test.YtfjecbfcnngacaaBBC
namespace Go.Proofs.Ytfjecbfcnngacaa
open Go.RowKit Go.Hs
/-- The number that 'claimed' has answered behind k claims. -/
def dueK (l : List Tar) (cs : List Cla) (k : Nat) : Int := if checkS l ≠ 0 then checkS l else if 5 < cs.length then 3 else if claimsB l (cs.take k) then 0 else 2
def firstS (l : List Tar) (c d : Int) : Int := if checkS l = 0 then (if inR c 0 ((cropsN l : Int) - 1) && inR d 0 120 then leastI (leastS l c d) else -1) else -1
def wantS (l : List Tar) (c d : Int) : Int := if checkS l = 0 then (if inR c 0 ((cropsN l : Int) - 1) && inR d 0 120 then (if leastI (leastS l c d) < 0 then 7 else 0) else 2) else checkS l
def maxS (x : Int) : Int := if x < 0 then 0 else x
theorem leastR_eq (l : List Tar) (c d : Int) : leastR l c d = .tuple #[.int .i64 (maxS (firstS l c d)), .int .i64 (wantS l c d)] := by
  unfold leastR firstS wantS
  split
  · split
    · cases h : leastS l c d with
      | none => simp [leastV, leastI, maxS]
      | some n =>
        have e : ¬ ((n : Int) < 0) := by omega
        show Value.tuple #[.int .i64 n, .int .i64 0] = .tuple #[.int .i64 (if (n : Int) < 0 then 0 else n), .int .i64 (if (n : Int) < 0 then 7 else 0)]
        rw [if_neg e, if_neg e]
    · simp [maxS]
  · simp [maxS]
theorem claimsB_snoc (l : List Tar) (cs : List Cla) (k : Nat) (h : k < cs.length) : claimsB l (cs.take (k + 1)) = (claimsB l (cs.take k) && claimB l cs[k]) := by
  rw [Bool.eq_iff_iff]
  simp only [claimsB, Bool.and_eq_true, allB_iff, List.length_take]
  constructor
  · intro g
    refine ⟨fun i hi => ?_, ?_⟩
    · have := g i (by omega)
      rw [List.getD_eq_getElem?_getD, List.getElem?_take_of_lt (by omega)] at this
      rw [List.getD_eq_getElem?_getD, List.getElem?_take_of_lt (by omega)]
      exact this
    · have := g k (by omega)
      rw [List.getD_eq_getElem?_getD, List.getElem?_take_of_lt (by omega), List.getElem?_eq_getElem h] at this
      exact this
  · rintro ⟨g1, g2⟩ i hi
    rw [List.getD_eq_getElem?_getD, List.getElem?_take_of_lt (by omega)]
    by_cases e : i = k
    · subst e
      rw [List.getElem?_eq_getElem h]; exact g2
    · have := g1 i (by omega)
      rw [List.getD_eq_getElem?_getD, List.getElem?_take_of_lt (by omega)] at this
      exact this
theorem due_zero (l : List Tar) (cs : List Cla) : dueK l cs 0 = if checkS l ≠ 0 then checkS l else if 5 < cs.length then 3 else 0 := by
  unfold dueK
  have e : claimsB l (cs.take 0) = true := rfl
  rw [if_pos e]
theorem due_ok {l : List Tar} {cs : List Cla} {k : Nat} (h : dueK l cs k = 0) : checkS l = 0 ∧ ¬ 5 < cs.length ∧ claimsB l (cs.take k) = true := by
  unfold dueK at h
  split at h
  · contradiction
  · rename_i h0
    split at h
    · exact absurd h (by decide)
    · rename_i h1
      split at h
      · rename_i h2; exact ⟨by omega, h1, h2⟩
      · exact absurd h (by decide)
theorem due_next {l : List Tar} {cs : List Cla} {k : Nat} (h : dueK l cs k = 0) (hk : k < cs.length) : dueK l cs (k + 1) = askS1 l cs[k] := by
  obtain ⟨h0, h1, h2⟩ := due_ok h
  unfold dueK askS1
  have e : ¬ checkS l ≠ 0 := by omega
  simp only [if_neg e, if_neg h1, claimsB_snoc l cs k hk, h2, Bool.true_and]
theorem due_end (l : List Tar) (cs : List Cla) : dueK l cs cs.length = totE l cs := by
  unfold dueK totE
  rw [List.take_length]
theorem claimsB_le {l : List Tar} {cs : List Cla} {k : Nat} (h : claimsB l cs = true) (hk : k ≤ cs.length) : claimsB l (cs.take k) = true := by
  simp only [claimsB, allB_iff, List.length_take] at h ⊢
  intro i hi
  rw [List.getD_eq_getElem?_getD, List.getElem?_take_of_lt (by omega), ← List.getD_eq_getElem?_getD]
  exact h i (by omega)
theorem due_stop {l : List Tar} {cs : List Cla} {k : Nat} (h : dueK l cs k ≠ 0) (hk : k ≤ cs.length) : totE l cs = dueK l cs k := by
  unfold dueK totE at *
  split
  · rfl
  · rename_i h0
    rw [if_neg h0] at h
    split
    · rfl
    · rename_i h1
      rw [if_neg h1] at h
      cases hb : claimsB l (cs.take k) with
      | true => rw [hb] at h; exact absurd rfl h
      | false =>
        cases hc : claimsB l cs with
        | false => rfl
        | true => rw [claimsB_le hc hk] at hb; contradiction
theorem due_claim {l : List Tar} {cs : List Cla} {k : Nat} (h : dueK l cs k = 0) (hk : k < cs.length) (ha : askS1 l cs[k] = 0) : ValidL l ∧ ClaimOK l cs[k] ∧ sumLo l (cs.take (k + 1)) = sumLo l (cs.take k) + (endsS l cs[k]).lo ∧ sumHi l (cs.take (k + 1)) = sumHi l (cs.take k) + (endsS l cs[k]).hi := by
  obtain ⟨h0, h1, h2⟩ := due_ok h
  have e2 : cs.take (k + 1) = cs.take k ++ [cs[k]] := by rw [List.take_succ_eq_append_getElem hk]
  refine ⟨validL_of h0, ?_, by rw [e2, sumLo_snoc], by rw [e2, sumHi_snoc]⟩
  unfold askS1 at ha
  rw [if_neg (by omega)] at ha
  split at ha
  · rename_i h3; exact claimB_iff.1 h3
  · exact absurd ha (by decide)
theorem due_bound {l : List Tar} {cs : List Cla} {k : Nat} (h : dueK l cs k = 0) (hk : k ≤ cs.length) : 0 ≤ sumLo l (cs.take k) ∧ sumLo l (cs.take k) ≤ 50000000 ∧ 0 ≤ sumHi l (cs.take k) ∧ sumHi l (cs.take k) ≤ 50000000 := by
  obtain ⟨h0, h1, h2⟩ := due_ok h
  have := sum_bd (validL_of h0) (cs.take k) (claims_ok h2)
  have e : (cs.take k).length = k := by simp; omega
  rw [e] at this; omega
end Go.Proofs.Ytfjecbfcnngacaa
