/- Plain laws of layer 5: what a valid list of tariffs gives. -/
import Derived.Test.YtfjecbfcnngacaaM
namespace Go.Hs
open Go.RowKit

structure ValidL (l : List Tar) : Prop where
  pos : 0 < l.length
  three : l.length ≤ 3
  first : (l.getD 0 default).start = 0
  few : ∀ i, i < l.length → fewB (l.getD i default) = true
  valid : ∀ i, i < l.length → validB (l.getD i default) = true
  link : ∀ i, i < l.length - 1 → linkB l i = true

theorem validL_of {l : List Tar} (h : checkS l = 0) : ValidL l := by
  unfold checkS at h
  split at h
  · omega
  · rename_i h1
    split at h
    · omega
    · rename_i h2
      split at h
      · omega
      · rename_i h3
        have hf : allB l.length (fun i => fewB (l.getD i default)) = true := by
          cases hh : allB l.length (fun i => fewB (l.getD i default)) with
          | true => rfl
          | false => exact absurd (Or.inr hh) h1
        have hv : allB l.length (fun i => validB (l.getD i default)) = true := by
          cases hh : allB l.length (fun i => validB (l.getD i default)) with
          | true => rfl
          | false => exact absurd (Or.inr (Or.inr hh)) h2
        have hc : chainB l = true := by
          cases hh : chainB l with
          | true => rfl
          | false => exact absurd hh h3
        refine ⟨?_, ?_, ?_, fun i hi => allB_iff.1 hf i hi, fun i hi => allB_iff.1 hv i hi, fun i hi => allB_iff.1 (chainB_link l ▸ hc) i hi⟩
        · rcases Nat.eq_zero_or_pos l.length with e | e
          · exact absurd (Or.inl e) h2
          · exact e
        · rcases Nat.lt_or_ge 3 l.length with e | e
          · exact absurd (Or.inl e) h1
          · exact e
        · by_cases e : (l.getD 0 default).start = 0
          · exact e
          · exact absurd (Or.inr (Or.inl e)) h2

theorem ValidL.check {l : List Tar} (h : ValidL l) : checkS l = 0 := by
  have h1 : ¬ (3 < l.length ∨ allB l.length (fun i => fewB (l.getD i default)) = false) := by
    rw [allB_iff.2 h.few]; have := h.three; simp; omega
  have h2 : ¬ (l.length = 0 ∨ (l.getD 0 default).start ≠ 0 ∨ allB l.length (fun i => validB (l.getD i default)) = false) := by
    rw [allB_iff.2 h.valid, h.first]; have := h.pos; simp; intro e; simp [e] at this
  unfold checkS
  rw [if_neg h1, if_neg h2, if_neg]
  rw [chainB_link, allB_iff.2 h.link]; simp

/-- How many crops there are. -/
def cropsN (l : List Tar) : Nat := (l.getD 0 default).rates.length

theorem ValidL.crops {l : List Tar} (h : ValidL l) (i : Nat) (hi : i < l.length) : (l.getD i default).rates.length = cropsN l := by
  cases i with
  | zero => rfl
  | succ i =>
    have := h.link i (by omega)
    simp only [linkB, Bool.and_eq_true, decide_eq_true_eq] at this
    exact this.2

/-- The tariff of a day is one of the list. -/
theorem atS_mem {l : List Tar} {d : Int} (hp : 0 < l.length) (h0 : (l.getD 0 default).start ≤ d) : ∃ i, i < l.length ∧ atS l d = l.getD i default := by
  have : ∀ k, k < l.length → ∃ i, i ≤ k ∧ atS (l.take (k + 1)) d = l.getD i default := by
    intro k
    induction k with
    | zero =>
      intro hk
      refine ⟨0, Nat.le_refl _, ?_⟩
      rw [atS_take hk]
      have e : l[0] = l.getD 0 default := by simp [hk]
      rw [e, if_pos h0]
    | succ k ih =>
      intro hk
      obtain ⟨i, hi, he⟩ := ih (by omega)
      rw [atS_take hk]
      split
      · exact ⟨k + 1, Nat.le_refl _, by simp [hk]⟩
      · exact ⟨i, by omega, he⟩
  obtain ⟨i, hi, he⟩ := this (l.length - 1) (by omega)
  rw [show l.length - 1 + 1 = l.length by omega, List.take_length] at he
  exact ⟨i, by omega, he⟩

theorem inR_iff {n lo hi : Int} : inR n lo hi = true ↔ lo ≤ n ∧ n ≤ hi := by simp [inR]

/-- What a rising list is. -/
structure Rises (xs : List Int) (most : Int) : Prop where
  pos : 0 < xs.length
  first : xs.getD 0 0 = 0
  strict : ∀ a b, a < b → b < xs.length → xs.getD a 0 < xs.getD b 0
  bound : ∀ i, i < xs.length → 0 ≤ xs.getD i 0 ∧ xs.getD i 0 ≤ most

theorem strict_of_step {f : Nat → Int} {n : Nat} (h : ∀ i, i + 1 < n → f i < f (i + 1)) : ∀ a b, a < b → b < n → f a < f b := by
  intro a b hab hb
  induction b with
  | zero => omega
  | succ b ih =>
    have h1 := h b hb
    rcases Nat.lt_or_ge a b with e | e
    · have := ih e (by omega); omega
    · have e' : a = b := by omega
      subst e'; exact h1

theorem wrap64_id {x : Int} (h0 : -9223372036854775808 ≤ x) (h1 : x ≤ 9223372036854775807) : wrap64 x = x := IntWalk.wrap64_in x ⟨by omega, by omega⟩

theorem risesB_iff {xs : List Int} {most : Int} (hm : most ≤ 1000) : risesB xs most = true ↔ Rises xs most := by
  unfold risesB
  simp only [Bool.and_eq_true, decide_eq_true_eq, allB_iff, beq_iff_eq, inR_iff]
  constructor
  · rintro ⟨⟨h1, h2⟩, h3⟩
    have e0 : xs.getD 0 0 = 0 := by
      have : xs.getD 0 1 = xs.getD 0 0 := by simp [h1]
      rw [← this]; exact h2
    have hb : ∀ i, i < xs.length → 0 ≤ xs.getD i 0 ∧ xs.getD i 0 ≤ most ∧ prevOf xs i < xs.getD i 0 := by
      intro i
      induction i with
      | zero =>
        intro hi
        have := h3 0 hi
        rw [e0] at this ⊢
        simp [prevOf]; omega
      | succ i ih =>
        intro hi
        have h4 := ih (by omega)
        have h5 := h3 (i + 1) hi
        have e1 : prevOf xs (i + 1) = xs.getD i 0 := by simp [prevOf]
        rw [e1] at h5 ⊢
        rw [wrap64_id (by omega) (by omega)] at h5
        omega
    refine ⟨h1, e0, strict_of_step (f := fun i => xs.getD i 0) (n := xs.length) ?_, fun i hi => ⟨(hb i hi).1, (hb i hi).2.1⟩⟩
    intro i hi
    have := (hb (i + 1) hi).2.2
    simpa [prevOf] using this
  · rintro ⟨h1, h2, h3, h4⟩
    refine ⟨⟨h1, ?_⟩, ?_⟩
    · have : xs.getD 0 1 = xs.getD 0 0 := by simp [h1]
      rw [this]; exact h2
    · intro i hi
      have h5 := h4 i hi
      cases i with
      | zero => simp only [prevOf, if_true]; rw [wrap64_id (by omega) (by omega)]; omega
      | succ i =>
        have h6 := h3 i (i + 1) (by omega) hi
        have h7 := h4 i (by omega)
        have e1 : prevOf xs (i + 1) = xs.getD i 0 := by simp [prevOf]
        rw [e1, wrap64_id (by omega) (by omega)]; omega

/-- What a valid tariff is. -/
structure ValidT (t : Tar) : Prop where
  start : 0 ≤ t.start ∧ t.start ≤ 120
  least : 0 ≤ t.least ∧ t.least ≤ 100
  weeks : Rises t.weeks 120
  two : 1 < t.counts.length
  counts : Rises t.counts 100
  last : t.counts.getD (t.counts.length - 1) 0 = 100
  crops : 0 < t.rates.length
  rows : ∀ c, c < t.rates.length → (t.rates.getD c []).length = t.weeks.length ∧ ∀ i, i < t.weeks.length → RowOK t.counts.length ((t.rates.getD c []).getD i [])

theorem validB_iff {t : Tar} : validB t = true ↔ ValidT t := by
  unfold validB cropB rowB
  simp only [Bool.and_eq_true, decide_eq_true_eq, allB_iff, beq_iff_eq, inR_iff, risesB_iff (show (120 : Int) ≤ 1000 by decide), risesB_iff (show (100 : Int) ≤ 1000 by decide)]
  constructor
  · rintro ⟨⟨⟨⟨⟨⟨⟨h1, h2⟩, h3⟩, h4⟩, h5⟩, h6⟩, h7⟩, h8⟩
    exact ⟨h1, h2, h3, h4, h5, h6, h7, fun c hc => ⟨(h8 c hc).1, fun i hi => ⟨((h8 c hc).2 i (by rw [(h8 c hc).1]; exact hi)).1, ((h8 c hc).2 i (by rw [(h8 c hc).1]; exact hi)).2⟩⟩⟩
  · rintro ⟨h1, h2, h3, h4, h5, h6, h7, h8⟩
    exact ⟨⟨⟨⟨⟨⟨⟨h1, h2⟩, h3⟩, h4⟩, h5⟩, h6⟩, h7⟩, fun c hc => ⟨(h8 c hc).1, fun i hi => ⟨((h8 c hc).2 i (by rw [← (h8 c hc).1]; exact hi)).len, ((h8 c hc).2 i (by rw [← (h8 c hc).1]; exact hi)).bound⟩⟩⟩

theorem Rises.sorted {xs : List Int} {m : Int} (h : Rises xs m) : Sorted xs := fun a b hab hb => by
  rcases Nat.lt_or_ge a b with e | e
  · have := h.strict a b e hb; omega
  · have : a = b := by omega
    subst this; omega
theorem ValidT.countsOK {t : Tar} (h : ValidT t) : CountsOK t.counts := ⟨h.two, h.counts.sorted, h.counts.strict, h.counts.first, h.last⟩
theorem ValidT.week_lt {t : Tar} (h : ValidT t) (d : Int) : weekTo t.weeks d t.weeks.length < t.weeks.length := by
  have : ∀ k, 0 < k → weekTo t.weeks d k < k := by
    intro k hk
    cases k with
    | zero => omega
    | succ k =>
      rw [weekTo_succ]
      split
      · omega
      · have := weekTo_le t.weeks d k; omega
  exact this _ h.weeks.pos

/-- The row of rates of a crop on a day. -/
def rowS (l : List Tar) (c d : Int) : List Int := ((atS l d).rates.getD c.toNat []).getD (weekTo (atS l d).weeks d (atS l d).weeks.length) []
def lossS (l : List Tar) (c d n : Int) : Int := interp (atS l d).counts (rowS l c d) n
/-- The part that is paid. -/
def partS (l : List Tar) (c d n : Int) : Int := if (atS l d).least ≤ lossS l c d n then (if (atS l d).whole then lossS l c d n else lossS l c d n - (atS l d).least) else 0

theorem ValidL.at {l : List Tar} (h : ValidL l) {d : Int} (hd : 0 ≤ d) : ValidT (atS l d) ∧ (atS l d).rates.length = cropsN l := by
  obtain ⟨i, hi, he⟩ := atS_mem h.pos (by rw [h.first]; exact hd)
  rw [he]
  exact ⟨validB_iff.1 (h.valid i hi), h.crops i hi⟩

theorem interp_bd {xs row : List Int} {n : Int} (hx : CountsOK xs) (hr : RowOK xs.length row) (h0 : 0 ≤ n) (h1 : n ≤ 100) {i : Nat} (hf : Found xs n i) : 0 ≤ interp xs row n ∧ interp xs row n ≤ 100 := by
  obtain ⟨hi, hne⟩ := hx.found h0 h1 hf
  have b1 := hr.bound i (by rw [hr.len]; exact hi)
  rw [interp_at hf]
  split
  · exact b1
  · rename_i hh
    obtain ⟨g1, g2, g3⟩ := hne hh
    have b2 := hr.bound (i - 1) (by rw [hr.len]; omega)
    generalize row.getD i 0 = ri at *
    generalize row.getD (i - 1) 0 = rj at *
    generalize xs.getD i 0 = ci at *
    generalize xs.getD (i - 1) 0 = cj at *
    have p := prod_bd b2.1 b2.2 (b := ci - n) (B := ci - n) (by omega) (Int.le_refl _)
    have q := prod_bd b1.1 b1.2 (b := n - cj) (B := n - cj) (by omega) (Int.le_refl _)
    refine ⟨Int.ediv_nonneg (by omega) (by omega), ?_⟩
    rw [Int.ediv_le_iff_le_mul (by omega)]
    have : 100 * (ci - n) + 100 * (n - cj) = 100 * (ci - cj) := by
      rw [← Int.mul_add]; congr 1; omega
    omega

theorem firstGe_found {xs : List Int} (hs : Sorted xs) (x : Int) : Found xs x (firstGe xs x) := by
  unfold firstGe
  induction xs with
  | nil => exact ⟨by simp, fun m h => absurd h (Nat.not_lt_zero _), fun m _ h => absurd h (Nat.not_lt_zero _)⟩
  | cons y r ih =>
    have hs' : Sorted r := fun a b hab hb => by have := hs (a + 1) (b + 1) (by omega) (by simpa using hb); simpa using this
    by_cases h : y < x
    · rw [List.takeWhile_cons_of_pos (by simpa using h)]
      obtain ⟨h1, h2, h3⟩ := ih hs'
      refine ⟨by simpa using h1, ?_, ?_⟩
      · intro m hm
        cases m with
        | zero => simpa using h
        | succ m => have := h2 m (by simpa using hm); simpa using this
      · intro m hm hl
        cases m with
        | zero => simp at hm
        | succ m => have := h3 m (by simpa using hm) (by simpa using hl); simpa using this
    · rw [List.takeWhile_cons_of_neg (by simpa using h)]
      refine ⟨by simp, fun m h => absurd h (Nat.not_lt_zero _), fun m _ hl => ?_⟩
      have := hs 0 m (by omega) hl
      simp at this ⊢
      omega

theorem lossS_bd {l : List Tar} (h : ValidL l) {c d n : Int} (hc0 : 0 ≤ c) (hc : c < cropsN l) (hd : 0 ≤ d) (h0 : 0 ≤ n) (h1 : n ≤ 100) : 0 ≤ lossS l c d n ∧ lossS l c d n ≤ 100 := by
  obtain ⟨hv, hcr⟩ := h.at hd
  exact interp_bd hv.countsOK ((hv.rows c.toNat (by omega)).2 _ (hv.week_lt d)) h0 h1 (firstGe_found hv.countsOK.sorted n)
theorem partS_bd {l : List Tar} (h : ValidL l) {c d n : Int} (hc0 : 0 ≤ c) (hc : c < cropsN l) (hd : 0 ≤ d) (h0 : 0 ≤ n) (h1 : n ≤ 100) : 0 ≤ partS l c d n ∧ partS l c d n ≤ 100 := by
  have hb := lossS_bd h hc0 hc hd h0 h1
  have hl := (h.at hd).1.least
  unfold partS
  split
  · split <;> omega
  · omega
end Go.Hs
