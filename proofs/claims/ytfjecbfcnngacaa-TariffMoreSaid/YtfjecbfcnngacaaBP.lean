/- Plain laws: rates that rise; no part is smaller for a greater count. -/
import Derived.Test.YtfjecbfcnngacaaAL
namespace Go.Hs
open Go.RowKit
/-- The rates rise. -/
def riseP (rates : List Int) : Prop := ∀ a b, a < b → b < rates.length → rates.getD a 0 ≤ rates.getD b 0
theorem riseP.le {r : List Int} (h : riseP r) {a b : Nat} (hab : a ≤ b) (hb : b < r.length) : r.getD a 0 ≤ r.getD b 0 := by
  rcases Nat.lt_or_ge a b with g | g
  · exact h a b g hb
  · have : a = b := by omega
    rw [this]; exact Int.le_refl _
theorem seg_bd {x y p q s : Int} (hxy : x ≤ y) (hp : 0 < p) (hq : 0 < q) (hs : s = p + q) : x ≤ (x * p + y * q) / s ∧ (x * p + y * q) / s ≤ y := by
  subst hs
  have e : ∀ z : Int, z * (p + q) = z * p + z * q := fun z => Int.mul_add z p q
  constructor
  · rw [Int.le_ediv_iff_mul_le (by omega), e]
    have h2 : x * q ≤ y * q := Int.mul_le_mul_of_nonneg_right hxy (by omega)
    omega
  · rw [Int.ediv_le_iff_le_mul (by omega), e]
    have h1 : x * p ≤ y * p := Int.mul_le_mul_of_nonneg_right hxy (by omega)
    omega
theorem seg_mono {x y p q p' q' s : Int} (hxy : x ≤ y) (_ : 0 ≤ p') (hs : s = p + q) (hs' : s = p' + q') (hpos : 0 < s) (hq : q ≤ q') : (x * p + y * q) / s ≤ (x * p' + y * q') / s := by
  refine Int.ediv_le_ediv hpos ?_
  have e1 : p = p' + (q' - q) := by omega
  have e2 : q' = q + (q' - q) := by omega
  have h : x * (q' - q) ≤ y * (q' - q) := Int.mul_le_mul_of_nonneg_right hxy (by omega)
  have a1 : x * p = x * p' + x * (q' - q) := by rw [← Int.mul_add, ← e1]
  have a2 : y * q' = y * q + y * (q' - q) := by rw [← Int.mul_add, ← e2]
  omega
theorem interp_mono {xs row : List Int} (h : CountsOK xs) (hl : row.length = xs.length) (hr : riseP row) {n m : Int} (h0 : 0 ≤ n) (hnm : n ≤ m) (h1 : m ≤ 100) : interp xs row n ≤ interp xs row m := by
  have un : UpFrom xs n := ⟨by have := h.two; omega, by rw [h.first]; exact h0, h.strict⟩
  have um : UpFrom xs m := ⟨by have := h.two; omega, by rw [h.first]; omega, h.strict⟩
  obtain ⟨i, hi⟩ : ∃ i, i = weekTo xs n xs.length := ⟨_, rfl⟩
  obtain ⟨j, hj⟩ : ∃ j, j = weekTo xs m xs.length := ⟨_, rfl⟩
  have li : LastP xs n i := by rw [hi]; exact un.lastP
  have lj : LastP xs m j := by rw [hj]; exact um.lastP
  obtain ⟨a1, a2, a3⟩ := un.last li
  obtain ⟨b1, b2, b3⟩ := um.last lj
  obtain ⟨-, c2, c3⟩ := interp_last (row := row) h h0 (by omega) hi li
  obtain ⟨-, d2, d3⟩ := interp_last (row := row) h (by omega) h1 hj lj
  have hij : i ≤ j := by
    rcases Nat.lt_or_ge j i with g | g
    · have := b3 i g a1; omega
    · exact g
  by_cases e : i = j
  · subst e
    by_cases e1 : xs.getD i 0 = n
    · by_cases e2 : xs.getD i 0 = m
      · rw [c2 e1, d2 e2]; exact Int.le_refl _
      · obtain ⟨g1, g2, g3, g4⟩ := d3 e2
        rw [c2 e1, g4]
        exact (seg_bd (hr i (i + 1) (by omega) (by omega)) (by omega) (by omega) (by omega)).1
    · obtain ⟨g1, g2, g3, g4⟩ := c3 e1
      by_cases e2 : xs.getD i 0 = m
      · omega
      · obtain ⟨k1, k2, k3, k4⟩ := d3 e2
        rw [g4, k4]
        exact seg_mono (hr i (i + 1) (by omega) (by omega)) (by omega) (by omega) (by omega) (by omega) (by omega)
  · have hlt : i < j := by omega
    have hs := hr.le (show i + 1 ≤ j by omega) (by omega)
    have hb : interp xs row n ≤ row.getD (i + 1) 0 := by
      by_cases e1 : xs.getD i 0 = n
      · rw [c2 e1]; exact hr i (i + 1) (by omega) (by omega)
      · obtain ⟨g1, g2, g3, g4⟩ := c3 e1
        rw [g4]
        exact (seg_bd (hr i (i + 1) (by omega) (by omega)) (by omega) (by omega) (by omega)).2
    have hc : row.getD j 0 ≤ interp xs row m := by
      by_cases e1 : xs.getD j 0 = m
      · rw [d2 e1]; exact Int.le_refl _
      · obtain ⟨g1, g2, g3, g4⟩ := d3 e1
        rw [g4]
        exact (seg_bd (hr j (j + 1) (by omega) (by omega)) (by omega) (by omega) (by omega)).1
    omega
theorem part_mono {l : List Tar} (h : ValidL l) {c d n m : Int} (hc0 : 0 ≤ c) (hc : c < cropsN l) (hd : 0 ≤ d) (h0 : 0 ≤ n) (hnm : n ≤ m) (h1 : m ≤ 100) (hr : riseP (rowS l c d)) : partS l c d n ≤ partS l c d m := by
  obtain ⟨hv, hcr⟩ := h.at hd
  have hro := (hv.rows c.toNat (by omega)).2 _ (hv.week_lt d)
  have hm := interp_mono hv.countsOK hro.len hr h0 hnm h1
  have b1 := lossS_bd h hc0 hc hd h0 (by omega)
  have b2 := lossS_bd h hc0 hc hd (by omega) h1
  have hl := hv.least
  unfold partS
  have e1 : lossS l c d n ≤ lossS l c d m := hm
  generalize lossS l c d n = x at *
  generalize lossS l c d m = y at *
  split <;> split <;> (try split) <;> omega
end Go.Hs
