/- The document's example in memory that is known cell by cell, and in boxes, for what changes it in place. -/
import Derived.Test.YtedblocbcjoolaaKB6
import Derived.Test.YtedblocbcjoolaaKIV
set_option linter.unusedSimpArgs false
set_option linter.unusedVariables false
namespace Go.Hs
open Go.RowKit Go.Proofs.Ytedblocbcjoolaa
def V9.l (u : V9) : List Value := [u.c0, u.c1, u.c2, u.c3, u.c4, u.c5, u.c6, u.c7, u.c8]
def twoX (lst : Int) : List Tar := [⟨0, true, lst, [0], [0, 100], [[[0, 100]]]⟩]
def twoA : Fld := ⟨0, 1000, 4, 40, 41, 30, 30, 33, 36⟩
def twoB : Fld := ⟨0, 200, 4, 20, 20, 17, 18, 0, 4⟩
def vsl (b n : Nat) : Value := .slice (some ⟨b, 0, none⟩) n n
/-- What 'two' lays: its tariffs in blocks b + 1 .. b + 6, its fields in block F. -/
structure TwoM (b F : Nat) (lst : Int) (fs : List Value) (w : World) : Prop where
  t0 : w.cell? ⟨b + 6, 0, none⟩ = some (.int .i64 0)
  t1 : w.cell? ⟨b + 6, 1, none⟩ = some (.bool true)
  t2 : w.cell? ⟨b + 6, 2, none⟩ = some (.int .i64 lst)
  t3 : w.cell? ⟨b + 6, 3, none⟩ = some (vsl (b + 1) 1)
  t4 : w.cell? ⟨b + 6, 4, none⟩ = some (vsl (b + 2) 2)
  t5 : w.cell? ⟨b + 6, 5, none⟩ = some (vsl (b + 5) 1)
  t6 : w.cell? ⟨b + 1, 0, none⟩ = some (.int .i64 0)
  t7 : w.cell? ⟨b + 2, 0, none⟩ = some (.int .i64 0)
  t8 : w.cell? ⟨b + 2, 1, none⟩ = some (.int .i64 100)
  t9 : w.cell? ⟨b + 3, 0, none⟩ = some (.int .i64 0)
  t10 : w.cell? ⟨b + 3, 1, none⟩ = some (.int .i64 100)
  t11 : w.cell? ⟨b + 4, 0, none⟩ = some (vsl (b + 3) 2)
  t12 : w.cell? ⟨b + 5, 0, none⟩ = some (vsl (b + 4) 1)
  c : ∀ (j : Nat) (v : Value), fs[j]? = some v → w.cell? ⟨F, j, none⟩ = some v
  lo : b + 6 < F
  hi : F < w.heap.size
  ft : ∀ (o : Nat), w.frozen? ⟨b + 6, o, none⟩ = false
  ff : ∀ (o : Nat), w.frozen? ⟨F, o, none⟩ = false
section
variable {b F : Nat} {lst : Int} {fs : List Value} {w W : World}
theorem TwoM.kp {p : Nat → Prop} (h : TwoM b F lst fs w) (k : KP p w W) (hF : ¬ p F) (hb : ∀ i, b < i → i ≤ b + 6 → ¬ p i) : TwoM b F lst fs W := by
  have h6 := hb (b + 6) (by omega) (by omega)
  have h5 := hb (b + 5) (by omega) (by omega)
  have h4 := hb (b + 4) (by omega) (by omega)
  have h3 := hb (b + 3) (by omega) (by omega)
  have h2 := hb (b + 2) (by omega) (by omega)
  have h1 := hb (b + 1) (by omega) (by omega)
  have hh := h.hi
  have hl := h.lo
  exact ⟨k.keep h6 h.t0, k.keep h6 h.t1, k.keep h6 h.t2, k.keep h6 h.t3, k.keep h6 h.t4, k.keep h6 h.t5, k.keep h1 h.t6, k.keep h2 h.t7, k.keep h2 h.t8, k.keep h3 h.t9, k.keep h3 h.t10, k.keep h4 h.t11, k.keep h5 h.t12, fun j v e => k.keep hF (h.c j v e), hl, Nat.lt_of_lt_of_le hh k.size,
    fun o => (k.frozen (by omega) h6).trans (h.ft o), fun o => (k.frozen hh hF).trans (h.ff o)⟩
theorem TwoM.ext (h : TwoM b F lst fs w) (hx : Ext w W) : TwoM b F lst fs W := h.kp (p := fun _ => False) hx.kp id (fun _ _ _ => id)
theorem size_set (w : World) (a : Addr) (v : Value) : (w.setCell a v).heap.size = w.heap.size := by simp [go_sem]
theorem set_list {w : World} {B : Nat} {u : List Value} (h : ∀ (j : Nat) (v : Value), u[j]? = some v → w.cell? ⟨B, j, none⟩ = some v) (i : Nat) (x : Value) : ∀ (j : Nat) (v : Value), (u.set i x)[j]? = some v → (w.setCell ⟨B, i, none⟩ x).cell? ⟨B, j, none⟩ = some v := by
  intro j v e
  by_cases hj : i = j
  · subst hj
    have hl : i < u.length := by
      rcases Nat.lt_or_ge i u.length with h | h
      · exact h
      · rw [List.getElem?_eq_none (by simpa using h)] at e; cases e
    rw [List.getElem?_set_self hl] at e
    cases e
    exact World.cell?_setCell_same _ _ _ (h i u[i] (by simp [hl]))
  · rw [List.getElem?_set_ne hj] at e
    exact sc_ne' (.inr (Ne.symm hj)) (h j v e)
theorem TwoM.fld (h : TwoM b F lst fs w) (i : Nat) (x : Value) : TwoM b F lst (fs.set i x) (w.setCell ⟨F, i, none⟩ x) := by
  have hl := h.lo
  have g : ∀ {k o : Nat} {v : Value}, k ≠ F → w.cell? ⟨k, o, none⟩ = some v → (w.setCell ⟨F, i, none⟩ x).cell? ⟨k, o, none⟩ = some v := fun hk e => sc_ne' (.inl hk) e
  exact ⟨g (by omega) h.t0, g (by omega) h.t1, g (by omega) h.t2, g (by omega) h.t3, g (by omega) h.t4, g (by omega) h.t5, g (by omega) h.t6, g (by omega) h.t7, g (by omega) h.t8, g (by omega) h.t9, g (by omega) h.t10, g (by omega) h.t11, g (by omega) h.t12, set_list h.c i x, hl, by rw [size_set]; exact h.hi, fun o => by rw [World.frozen?_setCell]; exact h.ft o, fun o => by rw [World.frozen?_setCell]; exact h.ff o⟩
theorem TwoM.least (h : TwoM b F lst fs w) (x : Int) : TwoM b F x fs (w.setCell ⟨b + 6, 2, none⟩ (.int .i64 x)) := by
  have hl := h.lo
  have g : ∀ {k o : Nat} {v : Value}, (k ≠ b + 6 ∨ o ≠ 2) → w.cell? ⟨k, o, none⟩ = some v → (w.setCell ⟨b + 6, 2, none⟩ (.int .i64 x)).cell? ⟨k, o, none⟩ = some v := fun hk e => sc_ne' hk e
  exact ⟨g (by omega) h.t0, g (by omega) h.t1, World.cell?_setCell_same _ _ _ h.t2, g (by omega) h.t3, g (by omega) h.t4, g (by omega) h.t5, g (by omega) h.t6, g (by omega) h.t7, g (by omega) h.t8, g (by omega) h.t9, g (by omega) h.t10, g (by omega) h.t11, g (by omega) h.t12, fun j v e => g (by omega) (h.c j v e), hl, by rw [size_set]; exact h.hi, fun o => by rw [World.frozen?_setCell]; exact h.ft o, fun o => by rw [World.frozen?_setCell]; exact h.ff o⟩
/-- An example in a box. -/
structure CB (B b F : Nat) (u : List Value) (lst : Int) (fs : List Value) (w : World) : Prop where
  m : TwoM b F lst fs w
  u : ∀ (j : Nat) (v : Value), u[j]? = some v → w.cell? ⟨B, j, none⟩ = some v
  fb : ∀ (o : Nat), w.frozen? ⟨B, o, none⟩ = false
  lo : F < B
  hi : B < w.heap.size
variable {B : Nat} {u : List Value}
theorem CB.kp {X : Nat} (h : CB B b F u lst fs w) (k : KP (fun j => j = X) w W) (hB : B ≠ X) (hF : F ≠ X) (hX : X ≤ b ∨ b + 6 < X) : CB B b F u lst fs W :=
  ⟨h.m.kp k hF (fun i h1 h2 e => by have e' : i = X := e; omega), fun j v e => k.keep hB (h.u j v e), fun o => (k.frozen h.hi hB).trans (h.fb o), h.lo, Nat.lt_of_lt_of_le h.hi k.size⟩
theorem CB.ext (h : CB B b F u lst fs w) (hx : Ext w W) : CB B b F u lst fs W :=
  ⟨h.m.ext hx, fun j v e => hx.keep (h.u j v e), fun o => (hx.frozen h.hi).trans (h.fb o), h.lo, Nat.lt_of_lt_of_le h.hi hx.size⟩
theorem CB.box (h : CB B b F u lst fs w) (i : Nat) (x : Value) : CB B b F (u.set i x) lst fs (w.setCell ⟨B, i, none⟩ x) :=
  ⟨h.m.kp (p := fun j => j = B) (KP.setCell (p := fun j => j = B) (KP.refl _) rfl _) (by have := h.lo; intro e; have e' : F = B := e; omega) (fun j h1 h2 e => by have e' : j = B := e; have := h.lo; have := h.m.lo; omega), set_list h.u i x, fun o => by rw [World.frozen?_setCell]; exact h.fb o, h.lo, by rw [size_set]; exact h.hi⟩
theorem CB.fld (h : CB B b F u lst fs w) (i : Nat) (x : Value) : CB B b F u lst (fs.set i x) (w.setCell ⟨F, i, none⟩ x) :=
  ⟨h.m.fld i x, fun j v e => sc_ne' (.inl (by have := h.lo; omega)) (h.u j v e), fun o => by rw [World.frozen?_setCell]; exact h.fb o, h.lo, by rw [size_set]; exact h.hi⟩
theorem CB.least (h : CB B b F u lst fs w) (x : Int) : CB B b F u x fs (w.setCell ⟨b + 6, 2, none⟩ (.int .i64 x)) :=
  ⟨h.m.least x, fun j v e => sc_ne' (.inl (by have := h.lo; have := h.m.lo; omega)) (h.u j v e), fun o => by rw [World.frozen?_setCell]; exact h.fb o, h.lo, by rw [size_set]; exact h.hi⟩
theorem two_flds {l : List Fld} {f g : Fld} (hl : l = [f, g]) (h : ∀ (j : Nat) (v : Value), (f.c.l ++ g.c.l)[j]? = some v → w.cell? ⟨F, j, none⟩ = some v) : FldsV w (vsl F 2) l := by
  subst hl
  refine ⟨_, _, rfl, by simp, by simp, fun i hi => ?_⟩
  simp at hi
  rcases i with _ | _ | i
  · exact ⟨_, 0, rfl, h 0 _ rfl, h 1 _ rfl, h 2 _ rfl, h 3 _ rfl, h 4 _ rfl, h 5 _ rfl, h 6 _ rfl, h 7 _ rfl, h 8 _ rfl⟩
  · exact ⟨_, 0, rfl, h 9 _ rfl, h 10 _ rfl, h 11 _ rfl, h 12 _ rfl, h 13 _ rfl, h 14 _ rfl, h 15 _ rfl, h 16 _ rfl, h 17 _ rfl⟩
  · omega
end
end Go.Hs
namespace Go.Proofs.Ytedblocbcjoolaa
open Go.RowKit Go.Hs
attribute [local irreducible] World.setCell World.alloc
theorem tars_twoX {lst : Int} (hl : lst = 0 ∨ lst = -1) {W : World} {b1 b2 b3 b4 b5 b6 : Nat} (t0 : W.cell? ⟨b6, 0, none⟩ = some (.int .i64 0)) (t1 : W.cell? ⟨b6, 1, none⟩ = some (.bool true)) (t2 : W.cell? ⟨b6, 2, none⟩ = some (.int .i64 lst)) (t3 : W.cell? ⟨b6, 3, none⟩ = some (.slice (some ⟨b1, 0, none⟩) 1 1)) (t4 : W.cell? ⟨b6, 4, none⟩ = some (.slice (some ⟨b2, 0, none⟩) 2 2)) (t5 : W.cell? ⟨b6, 5, none⟩ = some (.slice (some ⟨b5, 0, none⟩) 1 1))
    (t6 : W.cell? ⟨b1, 0, none⟩ = some (.int .i64 0)) (t7 : W.cell? ⟨b2, 0, none⟩ = some (.int .i64 0)) (t8 : W.cell? ⟨b2, 1, none⟩ = some (.int .i64 100)) (t9 : W.cell? ⟨b3, 0, none⟩ = some (.int .i64 0)) (t10 : W.cell? ⟨b3, 1, none⟩ = some (.int .i64 100)) (t11 : W.cell? ⟨b4, 0, none⟩ = some (.slice (some ⟨b3, 0, none⟩) 2 2)) (t12 : W.cell? ⟨b5, 0, none⟩ = some (.slice (some ⟨b4, 0, none⟩) 1 1)) :
    TarsV W (.slice (some ⟨b6, 0, none⟩) 1 1) (twoX lst) := by
  have one : ∀ b x, W.cell? ⟨b, 0, none⟩ = some (.int .i64 x) → -1000 ≤ x → x ≤ 1000 → IntsV W (.slice (some ⟨b, 0, none⟩) 1 1) [x] := fun b x h h1 h2 => mk_ints [x] rfl (by simp) (fun i hi => by
    obtain rfl : i = 0 := by simpa using hi
    simpa using h) (by simp; omega)
  have two : ∀ b x y, W.cell? ⟨b, 0, none⟩ = some (.int .i64 x) → W.cell? ⟨b, 1, none⟩ = some (.int .i64 y) → (-1000 ≤ x ∧ x ≤ 1000) → (-1000 ≤ y ∧ y ≤ 1000) → IntsV W (.slice (some ⟨b, 0, none⟩) 2 2) [x, y] := fun b x y h k h1 h2 => mk_ints [x, y] rfl (by simp) (fun i hi => by
    rcases i with _ | _ | i
    · simpa using h
    · simpa using k
    · simp at hi; omega) (by simp; omega)
  refine mk_tars (twoX lst) rfl (by simp [twoX]) (fun i hi => ?_)
  obtain rfl : i = 0 := by simpa [twoX] using hi
  refine ⟨_, _, _, t0, t1, t2, t3, t4, t5, by rcases hl with rfl | rfl <;> simp [twoX, i64ok], by rcases hl with rfl | rfl <;> simp [twoX, i64ok], one _ _ t6 (by omega) (by omega), two _ _ _ t7 t8 (by omega) (by omega), mk_ints3 _ rfl (by simp [twoX]) (fun i hi => ?_)⟩
  obtain rfl : i = 0 := by simpa [twoX] using hi
  refine ⟨_, t12, mk_ints2 _ rfl (by simp [twoX]) (fun i hi => ?_)⟩
  obtain rfl : i = 0 := by simpa [twoX] using hi
  exact ⟨_, t11, two _ _ _ t9 t10 (by omega) (by omega)⟩

theorem TwoM.tars {b F : Nat} {lst : Int} {fs : List Value} {w : World} (h : TwoM b F lst fs w) (hl : lst = 0 ∨ lst = -1) : TarsV w (vsl (b + 6) 1) (twoX lst) :=
  tars_twoX hl h.t0 h.t1 h.t2 h.t3 h.t4 h.t5 h.t6 h.t7 h.t8 h.t9 h.t10 h.t11 h.t12
theorem TwoM.cas {b F : Nat} {lst : Int} {f g : Fld} {w : World} (h : TwoM b F lst (f.c.l ++ g.c.l) w) (hl : lst = 0 ∨ lst = -1) (day fee : Int) : CasV w (.agg #[vsl (b + 6) 1, .int .i64 day, .int .i64 fee, vsl F 2]) ⟨twoX lst, day, fee, [f, g]⟩ :=
  ⟨_, _, rfl, TwoM.tars h hl, two_flds rfl h.c⟩
set_option maxRecDepth 100000 in
set_option maxHeartbeats 1000000 in
theorem two_y (w : World) : Calls Try.prog 5 #[] w fun e w' => ∃ F, e = .returned (.agg #[.slice (some ⟨w.heap.size + 6, 0, none⟩) 1 1, .int .i64 10, .int .i64 31, .slice (some ⟨F, 0, none⟩) 2 2]) ∧ TwoM w.heap.size F 0 (twoA.c.l ++ twoB.c.l) w' ∧ Ext w w' := by
  have hb : ∀ a b W, Calls Try.prog 12 #[.int .i64 a, .int .i64 b] W fun e w' => e = .returned (.agg #[.int .i64 a, .int .i64 b]) ∧ Ext W w' := betweenU_any
  go_enter Try.func5, Try.ntmps5
  go_wp2_with fail
  (with_reducible refine (hb _ _ _).mono ?_)
  rintro e w1 ⟨rfl, hx1⟩
  have t0 := hx1.keep (k := w.heap.size + 6) (o := 0) (v := .int .i64 0) (by simp [go_sem])
  have t1 := hx1.keep (k := w.heap.size + 6) (o := 1) (v := .bool true) (by simp [go_sem])
  have t2 := hx1.keep (k := w.heap.size + 6) (o := 2) (v := .int .i64 0) (by simp [go_sem])
  have t3 := hx1.keep (k := w.heap.size + 6) (o := 3) (v := .slice (some ⟨w.heap.size + 1, 0, none⟩) 1 1) (by simp [go_sem])
  have t4 := hx1.keep (k := w.heap.size + 6) (o := 4) (v := .slice (some ⟨w.heap.size + 2, 0, none⟩) 2 2) (by simp [go_sem])
  have t5 := hx1.keep (k := w.heap.size + 6) (o := 5) (v := .slice (some ⟨w.heap.size + 5, 0, none⟩) 1 1) (by simp [go_sem])
  have t6 := hx1.keep (k := w.heap.size + 1) (o := 0) (v := .int .i64 0) (by simp [go_sem])
  have t7 := hx1.keep (k := w.heap.size + 2) (o := 0) (v := .int .i64 0) (by simp [go_sem])
  have t8 := hx1.keep (k := w.heap.size + 2) (o := 1) (v := .int .i64 100) (by simp [go_sem])
  have t9 := hx1.keep (k := w.heap.size + 3) (o := 0) (v := .int .i64 0) (by simp [go_sem])
  have t10 := hx1.keep (k := w.heap.size + 3) (o := 1) (v := .int .i64 100) (by simp [go_sem])
  have t11 := hx1.keep (k := w.heap.size + 4) (o := 0) (v := .slice (some ⟨w.heap.size + 3, 0, none⟩) 2 2) (by simp [go_sem])
  have t12 := hx1.keep (k := w.heap.size + 5) (o := 0) (v := .slice (some ⟨w.heap.size + 4, 0, none⟩) 1 1) (by simp [go_sem])
  have c0 := hx1.keep (k := w.heap.size) (o := 0) (v := .slice none 0 0) (by simp [go_sem])
  have c1 := hx1.keep (k := w.heap.size) (o := 1) (v := .int .i64 0) (by simp [go_sem])
  have c2 := hx1.keep (k := w.heap.size) (o := 2) (v := .int .i64 0) (by simp [go_sem])
  have c3 := hx1.keep (k := w.heap.size) (o := 3) (v := .slice none 0 0) (by simp [go_sem])
  have f0 : ∀ o, w1.frozen? ⟨w.heap.size, o, none⟩ = false := fun o => (hx1.frozen (by simp; omega)).trans (by simp [go_sem])
  have g6 : ∀ o, w1.frozen? ⟨w.heap.size + 6, o, none⟩ = false := fun o => (hx1.frozen (by simp)).trans (by simp [go_sem])
  have hs := hx1.size
  simp at hs
  have X : Ext w w1 := by (repeat (first | exact Ext.refl _ | (with_reducible assumption) | (with_reducible refine Ext.drew ?_) | (with_reducible refine Ext.alloc ?_ _) | (with_reducible refine Ext.drewN ?_ _) | (with_reducible refine Ext.setCell ?_ (by omega) _) | (with_reducible refine Ext.trans ?_ (by with_reducible assumption))))
  clear hx1
  go_wp2_with fail
  (with_reducible refine (hb _ _ _).mono ?_)
  rintro e w2 ⟨rfl, hx2⟩
  go_wp2_with fail
  (with_reducible refine (hb _ _ _).mono ?_)
  rintro e w3 ⟨rfl, hx3⟩
  go_wp2_with fail
  (with_reducible refine (hb _ _ _).mono ?_)
  rintro e w4 ⟨rfl, hx4⟩
  go_wp2_with fail
  (with_reducible refine (hb _ _ _).mono ?_)
  rintro e w5 ⟨rfl, hx5⟩
  go_wp2_with fail
  (with_reducible refine (hb _ _ _).mono ?_)
  rintro e w6 ⟨rfl, hx6⟩
  have Y : Ext w1 w6 := hx2.trans (hx3.trans (hx4.trans (hx5.trans hx6)))
  clear hx2 hx3 hx4 hx5 hx6
  replace t0 := Y.keep t0
  replace t1 := Y.keep t1
  replace t2 := Y.keep t2
  replace t3 := Y.keep t3
  replace t4 := Y.keep t4
  replace t5 := Y.keep t5
  replace t6 := Y.keep t6
  replace t7 := Y.keep t7
  replace t8 := Y.keep t8
  replace t9 := Y.keep t9
  replace t10 := Y.keep t10
  replace t11 := Y.keep t11
  replace t12 := Y.keep t12
  have g : Hid (∀ a0 a1 a2 a3 k o v, k ≠ w.heap.size → w6.cell? ⟨k, o, none⟩ = some v → ((((w6.setCell ⟨w.heap.size, 0, none⟩ a0).setCell ⟨w.heap.size, 1, none⟩ a1).setCell ⟨w.heap.size, 2, none⟩ a2).setCell ⟨w.heap.size, 3, none⟩ a3).cell? ⟨k, o, none⟩ = some v) :=
    Lib.hid (fun _ _ _ _ _ _ _ hk h => sc_ne' (.inl hk) (sc_ne' (.inl hk) (sc_ne' (.inl hk) (sc_ne' (.inl hk) h))))
  have g6' : ∀ o, w6.frozen? ⟨w.heap.size + 6, o, none⟩ = false := fun o => (Y.frozen (by omega)).trans (g6 o)
  have HG6 := Lib.hid g6'
  have HT : Hid (_ ∧ _ ∧ _ ∧ _ ∧ _ ∧ _ ∧ _ ∧ _ ∧ _ ∧ _ ∧ _ ∧ _ ∧ _) := Lib.hid ⟨t0, t1, t2, t3, t4, t5, t6, t7, t8, t9, t10, t11, t12⟩
  clear g6 g6' t0 t1 t2 t3 t4 t5 t6 t7 t8 t9 t10 t11 t12
  replace c0 := Y.keep c0
  replace c1 := Y.keep c1
  replace c2 := Y.keep c2
  replace c3 := Y.keep c3
  have f1 : ∀ o, w6.frozen? ⟨w.heap.size, o, none⟩ = false := fun o => (Y.frozen (by omega)).trans (f0 o)
  have hlt : w.heap.size < w6.heap.size := Nat.lt_of_lt_of_le (by omega) Y.size
  have hne : ¬ w.heap.size = w6.heap.size := by omega
  have hs6 : w.heap.size + 6 < w6.heap.size := Nat.lt_of_lt_of_le (by omega) Y.size
  have XX := X.trans Y
  clear f0 X Y hs
  go_wp2_with fail
  refine bodyPost_ret (v := .agg #[.slice (some ⟨w.heap.size + 6, 0, none⟩) 1 1, .int .i64 10, .int .i64 31, .slice (some ⟨w6.heap.size, 0, none⟩) 2 2]) (by simp [results, Try.results5, go_sem, c0, c1, c2, c3, hlt, hne]) rfl ⟨_, rfl, ?_, by (repeat (first | exact Ext.refl _ | (with_reducible assumption) | (with_reducible refine Ext.drew ?_) | (with_reducible refine Ext.alloc ?_ _) | (with_reducible refine Ext.drewN ?_ _) | (with_reducible refine Ext.setCell ?_ (by omega) _) | (with_reducible refine Ext.trans ?_ (by with_reducible assumption))))⟩
  obtain ⟨t0, t1, t2, t3, t4, t5, t6, t7, t8, t9, t10, t11, t12⟩ := HT.out
  have y := fun (a0 a1 a2 a3 : Value) (o : Obj) => (Ext.refl ((((w6.setCell ⟨w.heap.size, 0, none⟩ a0).setCell ⟨w.heap.size, 1, none⟩ a1).setCell ⟨w.heap.size, 2, none⟩ a2).setCell ⟨w.heap.size, 3, none⟩ a3)).alloc o
  have G := g.out
  refine ⟨(y _ _ _ _ _).keep (G _ _ _ _ _ _ _ (by omega) t0), (y _ _ _ _ _).keep (G _ _ _ _ _ _ _ (by omega) t1), (y _ _ _ _ _).keep (G _ _ _ _ _ _ _ (by omega) t2), (y _ _ _ _ _).keep (G _ _ _ _ _ _ _ (by omega) t3), (y _ _ _ _ _).keep (G _ _ _ _ _ _ _ (by omega) t4), (y _ _ _ _ _).keep (G _ _ _ _ _ _ _ (by omega) t5), (y _ _ _ _ _).keep (G _ _ _ _ _ _ _ (by omega) t6), (y _ _ _ _ _).keep (G _ _ _ _ _ _ _ (by omega) t7), (y _ _ _ _ _).keep (G _ _ _ _ _ _ _ (by omega) t8), (y _ _ _ _ _).keep (G _ _ _ _ _ _ _ (by omega) t9), (y _ _ _ _ _).keep (G _ _ _ _ _ _ _ (by omega) t10), (y _ _ _ _ _).keep (G _ _ _ _ _ _ _ (by omega) t11), (y _ _ _ _ _).keep (G _ _ _ _ _ _ _ (by omega) t12), ?_, hs6, by simp [go_sem], fun o => ?_, fun o => by simp [go_sem]⟩
  · intro j v hj
    simp only [twoA, twoB, Fld.c, V9.l, List.cons_append, List.nil_append] at hj
    simp [go_sem, hj, hne]
  · refine ((y _ _ _ _ _).frozen (by simp [go_sem]; omega)).trans ?_
    rw [World.frozen?_setCell, World.frozen?_setCell, World.frozen?_setCell, World.frozen?_setCell]
    exact HG6.out o
end Go.Proofs.Ytedblocbcjoolaa
