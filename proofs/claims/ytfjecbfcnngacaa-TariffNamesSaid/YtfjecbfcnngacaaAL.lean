/- The reference: the tariff of a day, the loss, the part. -/
import Derived.Test.YtfjecbfcnngacaaAK
import Derived.Test.YtfjecbfcnngacaaAG
namespace Go.Hs
open Go.RowKit
theorem weekTo_eq {xs : List Int} {d : Int} {i : Nat} (hi : xs.getD i 0 ≤ d) : ∀ k, i < k → (∀ m, i < m → m < k → d < xs.getD m 0) → weekTo xs d k = i := by
  intro k
  induction k with
  | zero => intro h; omega
  | succ k ih =>
    intro hk hm
    rw [weekTo_succ]
    by_cases e : i = k
    · subst e; rw [if_pos hi]
    · have := hm k (by omega) (by omega)
      rw [if_neg (by omega)]
      exact ih (by omega) (fun m h1 h2 => hm m h1 (by omega))
theorem atS_eq {l : List Tar} {d : Int} {i : Nat} (hi : (l.getD i default).start ≤ d) (hil : i < l.length) (hm : ∀ m, i < m → m < l.length → d < (l.getD m default).start) : atS l d = l.getD i default := by
  have : ∀ k, i < k → k ≤ l.length → atS (l.take k) d = l.getD i default := by
    intro k
    induction k with
    | zero => intro h; omega
    | succ k ih =>
      intro hk hl
      rw [atS_take (by omega)]
      have e1 : l[k]'(by omega) = l.getD k default := by simp [show k < l.length by omega]
      rw [e1]
      by_cases e : i = k
      · subst e; rw [if_pos hi]
      · have := hm k (by omega) (by omega)
        rw [if_neg (by omega)]
        exact ih (by omega) (by omega)
  have h := this l.length hil (Nat.le_refl _)
  rwa [List.take_length] at h
/-- A list that rises, and begins with at most a number. -/
structure UpFrom (xs : List Int) (n : Int) : Prop where
  pos : 0 < xs.length
  first : xs.getD 0 0 ≤ n
  strict : ∀ a b, a < b → b < xs.length → xs.getD a 0 < xs.getD b 0
theorem UpFrom.last {xs : List Int} {n : Int} (h : UpFrom xs n) {i : Nat} (hi : LastP xs n i) : i < xs.length ∧ xs.getD i 0 ≤ n ∧ (∀ m, i < m → m < xs.length → n < xs.getD m 0) := by
  have hl : i < xs.length := by rcases hi.lt with e | e; · rw [e]; exact h.pos
                                · exact e
  refine ⟨hl, ?_, fun m h1 h2 => ?_⟩
  · by_cases e : i = 0
    · rw [e]; exact h.first
    · exact hi.le i (by omega) (Nat.le_refl _)
  · have g := hi.gt (by omega)
    by_cases e : m = i + 1
    · rw [e]; exact g
    · have := h.strict (i + 1) m (by omega) h2; omega
theorem UpFrom.eq {xs : List Int} {n : Int} (h : UpFrom xs n) {i : Nat} (hi : LastP xs n i) : i = weekTo xs n xs.length :=
  let ⟨a, b, c⟩ := h.last hi
  (weekTo_eq b _ a c).symm
theorem starts_get (l : List Tar) (i : Nat) (hi : i < l.length) : (l.map Tar.start).getD i 0 = (l.getD i default).start := by simp [hi]
theorem ValidL.up {l : List Tar} (h : ValidL l) {d : Int} (hd : 0 ≤ d) : UpFrom (l.map Tar.start) d := by
  refine ⟨by simpa using h.pos, ?_, ?_⟩
  · rw [starts_get l 0 h.pos, h.first]; exact hd
  · intro a b hab hb
    simp at hb
    refine strict_of_step (f := fun i => (l.map Tar.start).getD i 0) (n := l.length) (fun i hi => ?_) a b hab hb
    have := h.link i (by omega)
    simp only [linkB, Bool.and_eq_true, decide_eq_true_eq] at this
    show (l.map Tar.start).getD i 0 < (l.map Tar.start).getD (i + 1) 0
    rw [starts_get l i (by omega), starts_get l (i + 1) hi]; exact this.1
theorem ValidL.of {l : List Tar} (h : ValidL l) {d : Int} (hd : 0 ≤ d) : weekTo (l.map Tar.start) d (l.map Tar.start).length < l.length ∧ l.getD (weekTo (l.map Tar.start) d (l.map Tar.start).length) default = atS l d := by
  have up := h.up hd
  have hex : ∃ i, i < l.length ∧ atS l d = l.getD i default ∧ True := by obtain ⟨i, h1, h2⟩ := atS_mem h.pos (by rw [h.first]; exact hd); exact ⟨i, h1, h2, trivial⟩
  -- the last one that has begun
  have key : ∀ k, 0 < k → k ≤ l.length → ∃ i, i < k ∧ (l.map Tar.start).getD i 0 ≤ d ∧ ∀ m, i < m → m < k → d < (l.map Tar.start).getD m 0 := by
    intro k
    induction k with
    | zero => intro h; omega
    | succ k ih =>
      intro _ hk
      by_cases e : (l.map Tar.start).getD k 0 ≤ d
      · exact ⟨k, by omega, e, fun m h1 h2 => by omega⟩
      · by_cases k0 : k = 0
        · subst k0; exact absurd up.first e
        · obtain ⟨i, h1, h2, h3⟩ := ih (by omega) (by omega)
          refine ⟨i, by omega, h2, fun m g1 g2 => ?_⟩
          by_cases em : m = k
          · subst em; omega
          · exact h3 m g1 (by omega)
  obtain ⟨i, h1, h2, h3⟩ := key l.length h.pos (Nat.le_refl _)
  have e : weekTo (l.map Tar.start) d (l.map Tar.start).length = i := by
    rw [List.length_map]; exact weekTo_eq h2 _ h1 h3
  rw [e]
  refine ⟨h1, (atS_eq (by rw [← starts_get l i h1]; exact h2) h1 (fun m g1 g2 => by rw [← starts_get l m g2]; exact h3 m g1 g2)).symm⟩
theorem Rises.up {xs : List Int} {m n : Int} (h : Rises xs m) (hn : 0 ≤ n) : UpFrom xs n := ⟨h.pos, by rw [h.first]; exact hn, h.strict⟩
/-- The loss by the last count that is at most the one that is asked. -/
theorem interp_last {xs row : List Int} {n : Int} (h : CountsOK xs) (h0 : 0 ≤ n) (h1 : n ≤ 100) {i : Nat} (hi : i = weekTo xs n xs.length) (hl : LastP xs n i) :
    i < xs.length ∧ (xs.getD i 0 = n → interp xs row n = row.getD i 0) ∧ (xs.getD i 0 ≠ n → i + 1 < xs.length ∧ xs.getD i 0 < n ∧ n < xs.getD (i + 1) 0 ∧
      interp xs row n = (row.getD i 0 * (xs.getD (i + 1) 0 - n) + row.getD (i + 1) 0 * (n - xs.getD i 0)) / (xs.getD (i + 1) 0 - xs.getD i 0)) := by
  have up : UpFrom xs n := ⟨by have := h.two; omega, by rw [h.first]; exact h0, h.strict⟩
  obtain ⟨a, b, c⟩ := up.last hl
  refine ⟨a, fun e => ?_, fun e => ?_⟩
  · have hf : Found xs n i := ⟨by omega, fun m hm => by have := h.strict m i hm a; omega, fun m h2 h3 => by have := h.sorted i m h2 h3; omega⟩
    rw [interp_at hf, if_pos e]
  · have hi1 : i + 1 < xs.length := by
      rcases Nat.lt_or_ge (i + 1) xs.length with g | g
      · exact g
      · have e2 : i = xs.length - 1 := by omega
        rw [e2, h.last] at b e; omega
    have g := c (i + 1) (by omega) hi1
    have hf : Found xs n (i + 1) := ⟨by omega, fun m hm => by have := h.sorted m i (by omega) a; omega, fun m h2 h3 => by have := h.sorted (i + 1) m h2 h3; omega⟩
    refine ⟨hi1, by omega, g, ?_⟩
    rw [interp_at hf, if_neg (by omega)]
    simp
/-- There is such an index. -/
theorem UpFrom.lastP {xs : List Int} {n : Int} (h : UpFrom xs n) : LastP xs n (weekTo xs n xs.length) := by
  have key : ∀ k, 0 < k → k ≤ xs.length → ∃ i, i < k ∧ xs.getD i 0 ≤ n ∧ ∀ m, i < m → m < k → n < xs.getD m 0 := by
    intro k
    induction k with
    | zero => intro h; omega
    | succ k ih =>
      intro _ hk
      by_cases e : xs.getD k 0 ≤ n
      · exact ⟨k, by omega, e, fun m h1 h2 => by omega⟩
      · by_cases k0 : k = 0
        · subst k0; exact absurd h.first e
        · obtain ⟨i, h1, h2, h3⟩ := ih (by omega) (by omega)
          refine ⟨i, by omega, h2, fun m g1 g2 => ?_⟩
          by_cases em : m = k
          · subst em; omega
          · exact h3 m g1 (by omega)
  obtain ⟨i, h1, h2, h3⟩ := key xs.length h.pos (Nat.le_refl _)
  rw [weekTo_eq h2 _ h1 h3]
  exact ⟨.inr h1, fun m _ hm => by
    by_cases e : m = i
    · rw [e]; exact h2
    · have := h.strict m i (by omega) h1; omega, fun g => h3 _ (by omega) g⟩
end Go.Hs
namespace Go.Proofs.Ytfjecbfcnngacaa
open Go.RowKit Go.Hs
attribute [local irreducible] World.setCell World.alloc

theorem LastUp_any (v : Value) (xs : List Int) (n : Int) (w : World) (hv : IntsV w v xs) (h : UpFrom xs n) :
    Calls Try.prog 39 #[v, .int .i64 n] w fun e w' => e = .returned (.int .i64 (weekTo xs n xs.length : Nat)) ∧ w = w' :=
  (Last_any v xs n w hv).mono fun e w' ⟨⟨i, hi, he⟩, hw⟩ => ⟨by rw [he, ← h.eq hi], hw⟩

set_option maxRecDepth 100000 in
set_option maxHeartbeats 2000000 in
theorem fault_any (v : Value) (l : List Tar) (w : World) (hv : TarsV w v l) :
    Calls Try.prog 22 #[v] w fun e w' => e = .returned (.int .i64 (checkS l)) ∧ Ext w w' := by
  have hf : ∀ W, Ext w W → Calls Try.prog 64 #[v] W fun e w' => e = .returned (.int .i64 (checkS l)) ∧ Ext W w' := fun W hx => Fault_any v l W (hv.ext hx)
  have HF := Lib.hid hf
  clear hf
  generalize checkS l = r at *
  obtain ⟨a, c, rfl, -⟩ := hv
  go_enter Try.func22, Try.ntmps22
  go_wp2_with fail
  (with_reducible refine (HF.out _ (Ext.refl _)).mono ?_)
  rintro e w1 ⟨rfl, hx1⟩
  go_wp2_with fail
  go_ret
  exact ⟨rfl, hx1⟩
end Go.Proofs.Ytfjecbfcnngacaa
