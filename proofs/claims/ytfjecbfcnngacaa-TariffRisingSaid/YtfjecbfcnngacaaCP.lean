/- Plain laws: the first set in the program's order is the least one of the reference's. -/
import Derived.Test.YtfjecbfcnngacaaCJ
import Derived.Test.YtfjecbfcnngacaaCO
namespace Go.Hs
open Go.RowKit Go.Proofs.Ytfjecbfcnngacaa
theorem lastK_spec {r : List Int} {f : Nat → Bool} (h0 : ∀ j, j < r.length → 0 ≤ r.getD j 0) (k : Nat) (hk : k ≤ r.length) :
    (∃ a, lastK r f k = some a ∧ (∀ j, j < k → f j = false → r.getD j 0 ≤ a) ∧ (a = 0 ∨ ∃ j, j < k ∧ f j = false ∧ r.getD j 0 = a) ∧ ∀ a b, a < b → b < k → okP r f a b) ∨ (lastK r f k = none ∧ ∃ a b, a < b ∧ b < k ∧ ¬ okP r f a b) := by
  induction k with
  | zero => exact .inl ⟨0, rfl, fun j hj => absurd hj (Nat.not_lt_zero _), .inl rfl, fun a b _ hb => absurd hb (Nat.not_lt_zero _)⟩
  | succ k ih =>
    rcases ih (by omega) with ⟨m, e, h1, h2, h3⟩ | ⟨e, a, b, hab, hb, hn⟩
    · cases hf : f k with
      | true =>
        refine .inl ⟨m, lastK_skip e hf, fun j hj hfj => ?_, ?_, fun a b hab hb => ?_⟩
        · by_cases ej : j = k
          · subst ej; rw [hf] at hfj; cases hfj
          · exact h1 j (by omega) hfj
        · rcases h2 with h | ⟨j, hj, h4, h5⟩
          · exact .inl h
          · exact .inr ⟨j, by omega, h4, h5⟩
        · by_cases eb : b = k
          · subst eb; intro _ hfb; rw [hf] at hfb; cases hfb
          · exact h3 a b hab (by omega)
      | false =>
        by_cases hlow : r.getD k 0 < m
        · refine .inr ⟨lastK_low e hf hlow, ?_⟩
          rcases h2 with h | ⟨j, hj, h4, h5⟩
          · have := h0 k (by omega); omega
          · exact ⟨j, k, hj, by omega, fun h => by have := h h4 hf; omega⟩
        · refine .inl ⟨r.getD k 0, lastK_next e hf (by omega), fun j hj hfj => ?_, .inr ⟨k, by omega, hf, rfl⟩, fun a b hab hb => ?_⟩
          · by_cases ej : j = k
            · subst ej; exact Int.le_refl _
            · have := h1 j (by omega) hfj; omega
          · by_cases eb : b = k
            · subst eb; intro hfa _; have := h1 a hab hfa; omega
            · exact h3 a b hab (by omega)
    · exact .inr ⟨lastK_none e (by omega), a, b, hab, by omega, hn⟩
theorem kept_rise {r : List Int} {f : Nat → Bool} (h0 : ∀ j, j < r.length → 0 ≤ r.getD j 0) : keptB r f = riseS r f := by
  unfold keptB
  rcases lastK_spec (f := f) h0 r.length (Nat.le_refl _) with ⟨m, e, -, -, h3⟩ | ⟨e, a, b, hab, hb, hn⟩
  · rw [e, riseS_iff.2 h3]; rfl
  · rw [e]
    cases h : riseS r f with
    | false => rfl
    | true => exact absurd (riseS_iff.1 h a b hab hb) hn
theorem riseS_congr {r : List Int} {f g : Nat → Bool} (h : ∀ j, j < r.length → f j = g j) : riseS r f = riseS r g := by
  rw [Bool.eq_iff_iff, riseS_iff, riseS_iff]
  constructor
  · intro k a b hab hb h1 h2
    exact k a b hab hb (by rw [h a (by omega)]; exact h1) (by rw [h b hb]; exact h2)
  · intro k a b hab hb h1 h2
    exact k a b hab hb (by rw [← h a (by omega)]; exact h1) (by rw [← h b hb]; exact h2)

/-- All sets of so many numbers from one on, in the order of the program. -/
def combos (n : Nat) : Nat → Nat → List (List Nat)
  | 0, _ => [[]]
  | m + 1, start => (List.range' start (n - m - start)).flatMap (fun i => (combos n m (i + 1)).map (fun y => i :: y))
def allC (n : Nat) : List (List Nat) := (List.range' 0 (n + 1)).flatMap (fun m => combos n m 0)
theorem scan_find {α : Type} (f : Nat → Option α) (k i : Nat) : scan f k i = (List.range' i k).findSome? f := by
  induction k generalizing i with
  | zero => rfl
  | succ k ih =>
    rw [List.range'_succ, List.findSome?_cons, scan_step, ih]
    cases f i <;> rfl
theorem tryS_find (r : List Int) (m : Nat) : ∀ out start, tryS r m out start = ((combos r.length m start).map (fun y => out ++ y)).find? (fun x => keptB r (mk x)) := by
  induction m with
  | zero =>
    intro out start
    simp only [tryS, combos, List.map_cons, List.map_nil, List.append_nil, List.find?_cons, List.find?_nil]
    cases keptB r (mk out) <;> rfl
  | succ m ih =>
    intro out start
    show scan _ _ _ = _
    rw [scan_find, combos, List.map_flatMap, List.find?_flatMap]
    congr 1
    funext i
    rw [ih, List.map_map]
    congr 1
    refine List.map_congr_left (fun y _ => ?_)
    simp
theorem mis_find (r : List Int) : misS r = (allC r.length).find? (fun x => keptB r (mk x)) := by
  unfold misS allC
  rw [scan_find, List.find?_flatMap]
  congr 1
  funext m
  rw [tryS_find]
  congr 1
  simp

def setOf (x : List Nat) : Nat := x.foldl (fun s k => s + 2 ^ k) 0
theorem c_order : ∀ n, n < 6 → (allC n).Pairwise (fun a b => shorterB b a = false) := by decide +kernel
theorem c_bits : ∀ n, n < 6 → ∀ m, m < 2 ^ n → bitsL m ∈ allC n := by decide +kernel
theorem c_set : ∀ n, n < 6 → ∀ x, x ∈ allC n → setOf x < 2 ^ n ∧ bitsL (setOf x) = x := by decide +kernel
theorem c_marks : ∀ m, m < 32 → ∀ j, j < 5 → mk (bitsL m) j = tb m j := by decide +kernel
theorem c_index : ∀ n, n < 6 → ∀ x, x ∈ allC n → ∀ y, y ∈ allC n → shorterB x y = decide ((allC n).idxOf x < (allC n).idxOf y) ∧ ((allC n).idxOf x = (allC n).idxOf y → x = y) := by decide +kernel
theorem c_rises : ∀ n, n < 6 → ∀ x, x ∈ allC n → (∀ k, k < x.length → x.getD k 0 < n ∧ (0 < k → x.getD (k - 1) 0 < x.getD k 0)) := by decide +kernel
theorem c_full : ∀ n, n < 6 → ∀ j, j < n → tb (2 ^ n - 1) j = true := by decide +kernel

/-- What the misprints of rates are. -/
structure MisP (r : List Int) (x : List Nat) : Prop where
  mem : x ∈ allC r.length
  rise : riseS r (mk x) = true
  least : ∀ m, m < 2 ^ r.length → riseS r (tb m) = true → shorterB (bitsL m) x = false
theorem marks_rise {r : List Int} {m : Nat} (hl : r.length ≤ 5) (hm : m < 2 ^ r.length) : riseS r (mk (bitsL m)) = riseS r (tb m) :=
  riseS_congr (fun j hj => c_marks m (by have := pow_bd hl; omega) j (by omega))
theorem full_rise {r : List Int} (hl : r.length ≤ 5) : riseS r (tb (2 ^ r.length - 1)) = true :=
  riseS_iff.2 (fun a b hab hb h1 _ => by rw [c_full r.length (by omega) a (by omega)] at h1; cases h1)
theorem mis_some {r : List Int} (hl : r.length ≤ 5) (h0 : ∀ j, j < r.length → 0 ≤ r.getD j 0) : ∃ x, misS r = some x ∧ MisP r x := by
  have hp := pow_bd hl
  have hmem := c_bits r.length (by omega) (2 ^ r.length - 1) (by omega)
  have hP : keptB r (mk (bitsL (2 ^ r.length - 1))) = true := by rw [kept_rise h0, marks_rise hl (by omega)]; exact full_rise hl
  have hs : ((allC r.length).find? (fun x => keptB r (mk x))).isSome = true := List.find?_isSome.2 ⟨_, hmem, hP⟩
  obtain ⟨x, hx⟩ := Option.isSome_iff_exists.1 hs
  refine ⟨x, by rw [mis_find]; exact hx, ?_⟩
  obtain ⟨hk, as', bs, he, hno⟩ := List.find?_eq_some_iff_append.1 hx
  have hxm : x ∈ allC r.length := List.mem_of_find?_eq_some hx
  refine ⟨hxm, by rw [← kept_rise h0]; exact hk, fun m hm hr => ?_⟩
  have hy := c_bits r.length (by omega) m hm
  have hPy : keptB r (mk (bitsL m)) = true := by rw [kept_rise h0, marks_rise hl hm]; exact hr
  have ho := c_order r.length (by omega)
  rw [he] at hy ho
  rcases List.mem_append.1 hy with h | h
  · have := hno _ h
    rw [hPy] at this; cases this
  · rcases List.mem_cons.1 h with h | h
    · rw [h]
      have := (c_index r.length (by omega) x hxm x hxm).1
      rw [this]; simp
    · have := (List.pairwise_append.1 ho).2.1
      exact List.rel_of_pairwise_cons this h
theorem ref_mis {r : List Int} (hl : r.length ≤ 5) : MisP r (refMis r) := by
  have hp := pow_bd hl
  have hn : r.length < 6 := by omega
  suffices h : ∀ k, k ≤ 2 ^ r.length → bestTo r k ∈ allC r.length ∧ riseS r (mk (bestTo r k)) = true ∧ ∀ m, m < k → riseS r (tb m) = true → shorterB (bitsL m) (bestTo r k) = false by
    obtain ⟨h1, h2, h3⟩ := h (2 ^ r.length) (Nat.le_refl _)
    exact ⟨h1, h2, h3⟩
  intro k
  induction k with
  | zero =>
    intro _
    have hm : 2 ^ r.length - 1 < 2 ^ r.length := by omega
    exact ⟨c_bits _ hn _ hm, by rw [show bestTo r 0 = bitsL (2 ^ r.length - 1) from rfl, marks_rise hl hm]; exact full_rise hl, fun m hm' => absurd hm' (Nat.not_lt_zero _)⟩
  | succ k ih =>
    intro hk
    obtain ⟨h1, h2, h3⟩ := ih (by omega)
    have hkb := c_bits _ hn k (by omega)
    unfold bestTo
    by_cases hc : (shorterB (bitsL k) (bestTo r k) && riseS r (tb k)) = true
    · rw [if_pos hc]
      simp only [Bool.and_eq_true] at hc
      refine ⟨hkb, by rw [marks_rise hl (by omega)]; exact hc.2, fun m hm hr => ?_⟩
      have hmb := c_bits _ hn m (by omega)
      by_cases e : m = k
      · subst e
        rw [(c_index _ hn _ hmb _ hmb).1]; simp
      · have a1 := h3 m (by omega) hr
        have a2 := hc.1
        rw [(c_index _ hn _ hmb _ h1).1] at a1
        rw [(c_index _ hn _ hkb _ h1).1] at a2
        rw [(c_index _ hn _ hmb _ hkb).1]
        simp only [decide_eq_false_iff_not, decide_eq_true_eq] at a1 a2 ⊢
        omega
    · rw [if_neg hc]
      refine ⟨h1, h2, fun m hm hr => ?_⟩
      by_cases e : m = k
      · subst e
        rw [hr, Bool.and_true] at hc
        simpa using hc
      · exact h3 m (by omega) hr
theorem MisP.unique {r : List Int} {x y : List Nat} (hl : r.length ≤ 5) (hx : MisP r x) (hy : MisP r y) : x = y := by
  have hn : r.length < 6 := by omega
  have key : ∀ {x y : List Nat}, MisP r x → MisP r y → shorterB x y = false := fun {x y} hx hy => by
    obtain ⟨h1, h2⟩ := c_set _ hn x hx.mem
    have hr : riseS r (tb (setOf x)) = true := by rw [← marks_rise hl h1, h2]; exact hx.rise
    have := hy.least _ h1 hr
    rw [h2] at this; exact this
  have a1 := key hx hy
  have a2 := key hy hx
  rw [(c_index _ hn _ hx.mem _ hy.mem).1] at a1
  rw [(c_index _ hn _ hy.mem _ hx.mem).1] at a2
  simp only [decide_eq_false_iff_not] at a1 a2
  exact (c_index _ hn _ hx.mem _ hy.mem).2 (by omega)
theorem before_self (x : List Nat) : beforeB x x = false := by
  induction x with
  | nil => rfl
  | cons a x ih => rw [beforeB, if_pos rfl]; exact ih
theorem same_self (x : List Nat) : sameL x x = true := by
  unfold sameL; rw [before_self]; simp
end Go.Hs
