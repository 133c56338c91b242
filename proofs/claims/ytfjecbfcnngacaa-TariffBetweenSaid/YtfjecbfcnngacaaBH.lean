/- Plain laws: tariffs without a Least, a part between two counts. -/
import Derived.Test.YtfjecbfcnngacaaAL
namespace Go.Hs
open Go.RowKit
/-- A tariff without a Least. -/
def zl (t : Tar) : Tar := { t with least := 0 }
theorem zl_get (l : List Tar) (i : Nat) : (l.map zl).getD i default = zl (l.getD i default) := by
  by_cases h : i < l.length
  · simp [h]
  · simp [List.getElem?_eq_none (show l.length ≤ i by omega)]; rfl
theorem zl_valid {t : Tar} (h : validB t = true) : validB (zl t) = true := by
  have v := validB_iff.1 h
  exact validB_iff.2 ⟨v.start, ⟨Int.le_refl _, show (0 : Int) ≤ 100 by decide⟩, v.weeks, v.two, v.counts, v.last, v.crops, v.rows⟩
theorem ValidL.zl {l : List Tar} (h : ValidL l) : ValidL (l.map zl) := by
  refine ⟨by simpa using h.pos, by simpa using h.three, ?_, fun i hi => ?_, fun i hi => ?_, fun i hi => ?_⟩
  · rw [zl_get]; exact h.first
  · rw [zl_get]; exact h.few i (by simpa using hi)
  · rw [zl_get]; exact zl_valid (h.valid i (by simpa using hi))
  · have := h.link i (by simpa using hi)
    unfold linkB at this ⊢
    rw [zl_get, zl_get, zl_get]; exact this
theorem zl_at (l : List Tar) (d : Int) : atS (l.map zl) d = zl (atS l d) := by
  unfold atS
  have : ∀ (t : Tar), List.foldl (fun t x => if x.start ≤ d then x else t) (zl t) (l.map zl) = zl (List.foldl (fun t x => if x.start ≤ d then x else t) t l) := by
    induction l with
    | nil => intro t; rfl
    | cons x r ih =>
      intro t
      simp only [List.map_cons, List.foldl_cons]
      by_cases hx : x.start ≤ d
      · rw [if_pos (show (zl x).start ≤ d from hx), if_pos hx]; exact ih x
      · rw [if_neg (show ¬ (zl x).start ≤ d from hx), if_neg hx]; exact ih t
  exact this default
theorem zl_crops (l : List Tar) : cropsN (l.map zl) = cropsN l := by
  unfold cropsN; rw [zl_get]; rfl
theorem zl_loss (l : List Tar) (c d n : Int) : lossS (l.map zl) c d n = lossS l c d n := by
  unfold lossS rowS; rw [zl_at]; rfl
theorem zl_part {l : List Tar} (h : ValidL l) {c d n : Int} (hc0 : 0 ≤ c) (hc : c < cropsN l) (hd : 0 ≤ d) (h0 : 0 ≤ n) (h1 : n ≤ 100) : partS (l.map zl) c d n = lossS l c d n := by
  have hb := lossS_bd h hc0 hc hd h0 h1
  unfold partS
  rw [zl_loss, zl_at]
  rw [if_pos (show (zl (atS l d)).least ≤ _ from hb.1)]
  split
  · rfl
  · show lossS l c d n - 0 = _; omega
theorem interp_node {xs row : List Int} (h : CountsOK xs) {j : Nat} (hj : j < xs.length) : interp xs row (xs.getD j 0) = row.getD j 0 := by
  have hf : Found xs (xs.getD j 0) j := ⟨by omega, fun m hm => h.strict m j hm hj, fun m h2 h3 => h.sorted j m h2 h3⟩
  rw [interp_at hf, if_pos rfl]
theorem mid_bd {x y p q : Int} (hp : 0 < p) (hq : 0 < q) : min x y ≤ (x * p + y * q) / (p + q) ∧ (x * p + y * q) / (p + q) ≤ max x y := by
  have e : ∀ z : Int, z * (p + q) = z * p + z * q := fun z => Int.mul_add z p q
  constructor
  · rw [Int.le_ediv_iff_mul_le (by omega), e]
    have h1 : min x y * p ≤ x * p := Int.mul_le_mul_of_nonneg_right (Int.min_le_left x y) (by omega)
    have h2 : min x y * q ≤ y * q := Int.mul_le_mul_of_nonneg_right (Int.min_le_right x y) (by omega)
    omega
  · rw [Int.ediv_le_iff_le_mul (by omega), e]
    have h1 : x * p ≤ max x y * p := Int.mul_le_mul_of_nonneg_right (Int.le_max_left x y) (by omega)
    have h2 : y * q ≤ max x y * q := Int.mul_le_mul_of_nonneg_right (Int.le_max_right x y) (by omega)
    omega
/-- A part between two counts is between the parts of both. -/
theorem interp_between {xs row : List Int} {n : Int} (h : CountsOK xs) (h0 : 0 ≤ n) (h1 : n ≤ 100) {k j : Nat} (hk : k = weekTo xs n xs.length) (hj : j = min (k + 1) (xs.length - 1)) :
    k < xs.length ∧ j < xs.length ∧ min (interp xs row (xs.getD k 0)) (interp xs row (xs.getD j 0)) ≤ interp xs row n ∧ interp xs row n ≤ max (interp xs row (xs.getD k 0)) (interp xs row (xs.getD j 0)) ∧ (n = xs.getD k 0 → interp xs row n = interp xs row (xs.getD k 0)) := by
  have up : UpFrom xs n := ⟨by have := h.two; omega, by rw [h.first]; exact h0, h.strict⟩
  have hl : LastP xs n k := by rw [hk]; exact up.lastP
  obtain ⟨a, b, c⟩ := interp_last (row := row) h h0 h1 hk hl
  have hjl : j < xs.length := by omega
  rw [interp_node h a, interp_node h hjl]
  by_cases e : xs.getD k 0 = n
  · rw [b e]
    exact ⟨a, hjl, Int.min_le_left _ _, Int.le_max_left _ _, fun _ => rfl⟩
  · obtain ⟨g1, g2, g3, g4⟩ := c e
    have ej : j = k + 1 := by omega
    rw [g4, ej]
    have hm := mid_bd (x := row.getD k 0) (y := row.getD (k + 1) 0) (p := xs.getD (k + 1) 0 - n) (q := n - xs.getD k 0) (by omega) (by omega)
    have e2 : xs.getD (k + 1) 0 - n + (n - xs.getD k 0) = xs.getD (k + 1) 0 - xs.getD k 0 := by omega
    rw [e2] at hm
    exact ⟨a, by omega, hm.1, hm.2, fun e' => absurd e'.symm e⟩
end Go.Hs
