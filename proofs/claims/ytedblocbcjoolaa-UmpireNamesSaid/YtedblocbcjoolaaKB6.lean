/- Bundled: what the texts VP UK UL UM UN UO UQ UR say one after another. -/
import Derived.Test.YtedblocbcjoolaaKB4
import Derived.Test.YtedblocbcjoolaaKB3
import Derived.Test.YtedblocbcjoolaaKB5
import Derived.Deep.MidRow
import Derived.Shelf.RegionOpen
import Derived.Sort.CutIn
import Derived.ChangeKeysEq
import Derived.Laws.StructEq
set_option linter.unusedSimpArgs false
set_option linter.unusedVariables false
/- The document's example of layer 7: the case, its truths, and what compares results. -/

namespace Go.Proofs.Ytedblocbcjoolaa
open Go.RowKit Go.Hs
attribute [local irreducible] World.setCell World.alloc
theorem mk_ints {w : World} {B n : Nat} (xs : List Int) (hn : n = xs.length) (hl : xs.length ≤ 1000) (h : ∀ i, i < xs.length → w.cell? ⟨B, i, none⟩ = some (.int .i64 (xs.getD i 0))) (ok : ∀ x ∈ xs, -1000 ≤ x ∧ x ≤ 1000) : IntsV w (.slice (some ⟨B, 0, none⟩) n n) xs := by
  subst hn
  refine ⟨_, _, rfl, Nat.le_refl _, by omega, fun i hi => ⟨B, 0, rfl, ?_, ?_⟩⟩
  · have := h i hi
    simpa [hi] using this
  · have := ok _ (List.getElem_mem hi)
    omega
theorem mk_ints2 {w : World} {B n : Nat} (xs : List (List Int)) (hn : n = xs.length) (hl : xs.length ≤ 1000) (h : ∀ i, i < xs.length → ∃ v, w.cell? ⟨B, i, none⟩ = some v ∧ IntsV w v (xs.getD i [])) : Ints2V w (.slice (some ⟨B, 0, none⟩) n n) xs := by
  subst hn
  refine ⟨_, _, rfl, Nat.le_refl _, by omega, fun i hi => ⟨B, 0, rfl, ?_⟩⟩
  obtain ⟨v, h1, h2⟩ := h i hi
  exact ⟨v, by simpa using h1, by simpa [hi] using h2⟩
theorem mk_ints3 {w : World} {B n : Nat} (xs : List (List (List Int))) (hn : n = xs.length) (hl : xs.length ≤ 1000) (h : ∀ i, i < xs.length → ∃ v, w.cell? ⟨B, i, none⟩ = some v ∧ Ints2V w v (xs.getD i [])) : Ints3V w (.slice (some ⟨B, 0, none⟩) n n) xs := by
  subst hn
  refine ⟨_, _, rfl, Nat.le_refl _, by omega, fun i hi => ⟨B, 0, rfl, ?_⟩⟩
  obtain ⟨v, h1, h2⟩ := h i hi
  exact ⟨v, by simpa using h1, by simpa [hi] using h2⟩
theorem mk_tars {w : World} {B n : Nat} (xs : List Tar) (hn : n = xs.length) (hl : xs.length ≤ 1000) (h : ∀ i, i < xs.length → TarAt w B (i * 6) (xs.getD i default)) : TarsV w (.slice (some ⟨B, 0, none⟩) n n) xs := by
  subst hn
  refine ⟨_, _, rfl, Nat.le_refl _, by omega, fun i hi => ⟨B, 0, rfl, ?_⟩⟩
  have := h i hi
  simpa [hi] using this

/-- The case of the document's examples, and its truths. -/
def twoT : List Tar := [⟨0, true, 0, [0], [0, 100], [[[0, 100]]]⟩]
def twoC : Cas := ⟨twoT, 10, 31, [⟨0, 1000, 4, 40, 41, 30, 30, 33, 36⟩, ⟨0, 200, 4, 20, 20, 17, 18, 0, 4⟩]⟩
def truthL (a u b : Int) : List Thr := [⟨a, 30, u⟩, ⟨20, b, 0⟩]

theorem tars_two {W : World} {b1 b2 b3 b4 b5 b6 : Nat} (t0 : W.cell? ⟨b6, 0, none⟩ = some (.int .i64 0)) (t1 : W.cell? ⟨b6, 1, none⟩ = some (.bool true)) (t2 : W.cell? ⟨b6, 2, none⟩ = some (.int .i64 0)) (t3 : W.cell? ⟨b6, 3, none⟩ = some (.slice (some ⟨b1, 0, none⟩) 1 1)) (t4 : W.cell? ⟨b6, 4, none⟩ = some (.slice (some ⟨b2, 0, none⟩) 2 2)) (t5 : W.cell? ⟨b6, 5, none⟩ = some (.slice (some ⟨b5, 0, none⟩) 1 1))
    (t6 : W.cell? ⟨b1, 0, none⟩ = some (.int .i64 0)) (t7 : W.cell? ⟨b2, 0, none⟩ = some (.int .i64 0)) (t8 : W.cell? ⟨b2, 1, none⟩ = some (.int .i64 100)) (t9 : W.cell? ⟨b3, 0, none⟩ = some (.int .i64 0)) (t10 : W.cell? ⟨b3, 1, none⟩ = some (.int .i64 100)) (t11 : W.cell? ⟨b4, 0, none⟩ = some (.slice (some ⟨b3, 0, none⟩) 2 2)) (t12 : W.cell? ⟨b5, 0, none⟩ = some (.slice (some ⟨b4, 0, none⟩) 1 1)) :
    TarsV W (.slice (some ⟨b6, 0, none⟩) 1 1) twoT := by
  have one : ∀ b x, W.cell? ⟨b, 0, none⟩ = some (.int .i64 x) → -1000 ≤ x → x ≤ 1000 → IntsV W (.slice (some ⟨b, 0, none⟩) 1 1) [x] := fun b x h h1 h2 => mk_ints [x] rfl (by simp) (fun i hi => by
    obtain rfl : i = 0 := by simpa using hi
    simpa using h) (by simp; omega)
  have two : ∀ b x y, W.cell? ⟨b, 0, none⟩ = some (.int .i64 x) → W.cell? ⟨b, 1, none⟩ = some (.int .i64 y) → (-1000 ≤ x ∧ x ≤ 1000) → (-1000 ≤ y ∧ y ≤ 1000) → IntsV W (.slice (some ⟨b, 0, none⟩) 2 2) [x, y] := fun b x y h k h1 h2 => mk_ints [x, y] rfl (by simp) (fun i hi => by
    rcases i with _ | _ | i
    · simpa using h
    · simpa using k
    · simp at hi; omega) (by simp; omega)
  refine mk_tars twoT rfl (by decide) (fun i hi => ?_)
  obtain rfl : i = 0 := by simpa [twoT] using hi
  refine ⟨_, _, _, t0, t1, t2, t3, t4, t5, by simp [twoT, i64ok], by simp [twoT, i64ok], one _ _ t6 (by omega) (by omega), two _ _ _ t7 t8 (by omega) (by omega), mk_ints3 _ rfl (by decide) (fun i hi => ?_)⟩
  obtain rfl : i = 0 := by simpa [twoT] using hi
  refine ⟨_, t12, mk_ints2 _ rfl (by decide) (fun i hi => ?_)⟩
  obtain rfl : i = 0 := by simpa [twoT] using hi
  exact ⟨_, t11, two _ _ _ t9 t10 (by omega) (by omega)⟩

set_option maxRecDepth 100000 in
theorem betweenU_any (a b : Int) (w : World) : Calls Try.prog 12 #[.int .i64 a, .int .i64 b] w fun e w' => e = .returned (.agg #[.int .i64 a, .int .i64 b]) ∧ Ext w w' := by
  have n0 : (⟨w.heap.size + 2, 0, none⟩ : Addr) ≠ ⟨w.heap.size + 2, 1, none⟩ := by intro h; cases h
  go_enter Try.func12, Try.ntmps12
  go_wp2_with fail
  exact bodyPost_ret (v := .agg #[.int .i64 a, .int .i64 b]) (by simp [results, Try.results12, go_sem]) rfl ⟨rfl, by (repeat (first | exact Ext.refl _ | (with_reducible assumption) | (with_reducible refine Ext.drew ?_) | (with_reducible refine Ext.alloc ?_ _) | (with_reducible refine Ext.drewN ?_ _) | (with_reducible refine Ext.setCell ?_ (by omega) _) | (with_reducible refine Ext.trans ?_ (by with_reducible assumption))))⟩

set_option maxRecDepth 100000 in
theorem truthU_any (a u b : Int) (w : World) : Calls Try.prog 6 #[.int .i64 a, .int .i64 u, .int .i64 b] w fun e w' => ∃ v, e = .returned v ∧ ThrsV w' v (truthL a u b) ∧ Ext w w' := by
  go_enter Try.func6, Try.ntmps6
  go_wp2_with fail
  go_ret
  refine ⟨_, rfl, ?_, by (repeat (first | exact Ext.refl _ | (with_reducible assumption) | (with_reducible refine Ext.drew ?_) | (with_reducible refine Ext.alloc ?_ _) | (with_reducible refine Ext.drewN ?_ _) | (with_reducible refine Ext.setCell ?_ (by omega) _) | (with_reducible refine Ext.trans ?_ (by with_reducible assumption))))⟩
  refine ⟨_, _, rfl, by simp [truthL], by simp [truthL], fun i hi => ?_⟩
  simp [truthL] at hi
  rcases i with _ | _ | i
  · exact ⟨_, 0, rfl, by simp [go_sem, truthL, Thr.c], by simp [go_sem, truthL, Thr.c], by simp [go_sem, truthL, Thr.c]⟩
  · exact ⟨_, 0, rfl, by simp [go_sem, truthL, Thr.c], by simp [go_sem, truthL, Thr.c], by simp [go_sem, truthL, Thr.c]⟩
  · omega

set_option maxRecDepth 100000 in
set_option maxHeartbeats 1000000 in
theorem twoU_any (w : World) : Calls Try.prog 5 #[] w fun e w' => ∃ v, e = .returned v ∧ CasV w' v twoC ∧ Ext w w' := by
  have hb : ∀ a b W, Calls Try.prog 12 #[.int .i64 a, .int .i64 b] W fun e w' => e = .returned (.agg #[.int .i64 a, .int .i64 b]) ∧ Ext W w' := betweenU_any
  go_enter Try.func5, Try.ntmps5
  go_wp2_with fail
  (with_reducible refine (hb _ _ _).mono ?_)
  rintro e w1 ⟨rfl, hx1⟩
  have t0 := hx1.keep (k := w.heap.size + 6) (o := 0) (v := .int .i64 0) (by simp [go_sem])
  have t1 := hx1.keep (k := w.heap.size + 6) (o := 1) (v := .bool true) (by simp [go_sem])
  have t2 := hx1.keep (k := w.heap.size + 6) (o := 2) (v := .int .i64 0) (by simp [go_sem])
  have t3 := hx1.keep (k := w.heap.size + 6) (o := 3) (v := .slice (some ⟨w.heap.size + 1, 0, none⟩) 1 1) (by simp [go_sem])
  have t4 := hx1.keep (k := w.heap.size + 6) (o := 4) (v := .slice (some ⟨w.heap.size + 2, 0, none⟩) 2 2) (by simp [go_sem])
  have t5 := hx1.keep (k := w.heap.size + 6) (o := 5) (v := .slice (some ⟨w.heap.size + 5, 0, none⟩) 1 1) (by simp [go_sem])
  have t6 := hx1.keep (k := w.heap.size + 1) (o := 0) (v := .int .i64 0) (by simp [go_sem])
  have t7 := hx1.keep (k := w.heap.size + 2) (o := 0) (v := .int .i64 0) (by simp [go_sem])
  have t8 := hx1.keep (k := w.heap.size + 2) (o := 1) (v := .int .i64 100) (by simp [go_sem])
  have t9 := hx1.keep (k := w.heap.size + 3) (o := 0) (v := .int .i64 0) (by simp [go_sem])
  have t10 := hx1.keep (k := w.heap.size + 3) (o := 1) (v := .int .i64 100) (by simp [go_sem])
  have t11 := hx1.keep (k := w.heap.size + 4) (o := 0) (v := .slice (some ⟨w.heap.size + 3, 0, none⟩) 2 2) (by simp [go_sem])
  have t12 := hx1.keep (k := w.heap.size + 5) (o := 0) (v := .slice (some ⟨w.heap.size + 4, 0, none⟩) 1 1) (by simp [go_sem])
  have c0 := hx1.keep (k := w.heap.size) (o := 0) (v := .slice none 0 0) (by simp [go_sem])
  have c1 := hx1.keep (k := w.heap.size) (o := 1) (v := .int .i64 0) (by simp [go_sem])
  have c2 := hx1.keep (k := w.heap.size) (o := 2) (v := .int .i64 0) (by simp [go_sem])
  have c3 := hx1.keep (k := w.heap.size) (o := 3) (v := .slice none 0 0) (by simp [go_sem])
  have f0 : ∀ o, w1.frozen? ⟨w.heap.size, o, none⟩ = false := fun o => (hx1.frozen (by simp; omega)).trans (by simp [go_sem])
  have hs := hx1.size
  simp at hs
  have X : Ext w w1 := by (repeat (first | exact Ext.refl _ | (with_reducible assumption) | (with_reducible refine Ext.drew ?_) | (with_reducible refine Ext.alloc ?_ _) | (with_reducible refine Ext.drewN ?_ _) | (with_reducible refine Ext.setCell ?_ (by omega) _) | (with_reducible refine Ext.trans ?_ (by with_reducible assumption))))
  clear hx1
  go_wp2_with fail
  (with_reducible refine (hb _ _ _).mono ?_)
  rintro e w2 ⟨rfl, hx2⟩
  go_wp2_with fail
  (with_reducible refine (hb _ _ _).mono ?_)
  rintro e w3 ⟨rfl, hx3⟩
  go_wp2_with fail
  (with_reducible refine (hb _ _ _).mono ?_)
  rintro e w4 ⟨rfl, hx4⟩
  go_wp2_with fail
  (with_reducible refine (hb _ _ _).mono ?_)
  rintro e w5 ⟨rfl, hx5⟩
  go_wp2_with fail
  (with_reducible refine (hb _ _ _).mono ?_)
  rintro e w6 ⟨rfl, hx6⟩
  have Y : Ext w1 w6 := hx2.trans (hx3.trans (hx4.trans (hx5.trans hx6)))
  clear hx2 hx3 hx4 hx5 hx6
  replace t0 := Y.keep t0
  replace t1 := Y.keep t1
  replace t2 := Y.keep t2
  replace t3 := Y.keep t3
  replace t4 := Y.keep t4
  replace t5 := Y.keep t5
  replace t6 := Y.keep t6
  replace t7 := Y.keep t7
  replace t8 := Y.keep t8
  replace t9 := Y.keep t9
  replace t10 := Y.keep t10
  replace t11 := Y.keep t11
  replace t12 := Y.keep t12
  have hT : Hid (∀ a0 a1 a2 a3, TarsV ((((w6.setCell ⟨w.heap.size, 0, none⟩ a0).setCell ⟨w.heap.size, 1, none⟩ a1).setCell ⟨w.heap.size, 2, none⟩ a2).setCell ⟨w.heap.size, 3, none⟩ a3) (.slice (some ⟨w.heap.size + 6, 0, none⟩) 1 1) twoT) := Lib.hid (fun a0 a1 a2 a3 => by
    have g : ∀ k o v, k ≠ w.heap.size → w6.cell? ⟨k, o, none⟩ = some v → ((((w6.setCell ⟨w.heap.size, 0, none⟩ a0).setCell ⟨w.heap.size, 1, none⟩ a1).setCell ⟨w.heap.size, 2, none⟩ a2).setCell ⟨w.heap.size, 3, none⟩ a3).cell? ⟨k, o, none⟩ = some v :=
      fun k o v hk h => sc_ne' (.inl hk) (sc_ne' (.inl hk) (sc_ne' (.inl hk) (sc_ne' (.inl hk) h)))
    exact tars_two (g _ _ _ (by omega) t0) (g _ _ _ (by omega) t1) (g _ _ _ (by omega) t2) (g _ _ _ (by omega) t3) (g _ _ _ (by omega) t4) (g _ _ _ (by omega) t5) (g _ _ _ (by omega) t6) (g _ _ _ (by omega) t7) (g _ _ _ (by omega) t8) (g _ _ _ (by omega) t9) (g _ _ _ (by omega) t10) (g _ _ _ (by omega) t11) (g _ _ _ (by omega) t12))
  clear t0 t1 t2 t3 t4 t5 t6 t7 t8 t9 t10 t11 t12
  replace c0 := Y.keep c0
  replace c1 := Y.keep c1
  replace c2 := Y.keep c2
  replace c3 := Y.keep c3
  have f1 : ∀ o, w6.frozen? ⟨w.heap.size, o, none⟩ = false := fun o => (Y.frozen (by omega)).trans (f0 o)
  have hlt : w.heap.size < w6.heap.size := Nat.lt_of_lt_of_le (by omega) Y.size
  have hne : ¬ w.heap.size = w6.heap.size := by omega
  have XX := X.trans Y
  clear f0 X Y hs
  go_wp2_with fail
  refine bodyPost_ret (v := .agg #[.slice (some ⟨w.heap.size + 6, 0, none⟩) 1 1, .int .i64 10, .int .i64 31, .slice (some ⟨w6.heap.size, 0, none⟩) 2 2]) (by simp [results, Try.results5, go_sem, c0, c1, c2, c3, hlt, hne]) rfl ⟨_, rfl, ⟨_, _, rfl, ?_, ?_⟩, by (repeat (first | exact Ext.refl _ | (with_reducible assumption) | (with_reducible refine Ext.drew ?_) | (with_reducible refine Ext.alloc ?_ _) | (with_reducible refine Ext.drewN ?_ _) | (with_reducible refine Ext.setCell ?_ (by omega) _) | (with_reducible refine Ext.trans ?_ (by with_reducible assumption))))⟩
  · exact TarsV.ext ((Ext.refl _).alloc _) (hT.out _ _ _ _)
  · refine ⟨_, _, rfl, by simp [twoC], by simp [twoC], fun i hi => ?_⟩
    simp [twoC] at hi
    rcases i with _ | _ | i
    · refine ⟨_, 0, rfl, ?_⟩
      unfold Cell9
      refine ⟨?_, ?_, ?_, ?_, ?_, ?_, ?_, ?_, ?_⟩ <;> simp [go_sem, twoC, Fld.c, hne]
    · refine ⟨_, 0, rfl, ?_⟩
      unfold Cell9
      refine ⟨?_, ?_, ?_, ?_, ?_, ?_, ?_, ?_, ?_⟩ <;> simp [go_sem, twoC, Fld.c, hne]
    · omega

set_option maxRecDepth 100000 in
set_option maxHeartbeats 1000000 in
theorem sameU_any (va vb : Value) (xs ys : List Int) (a1 a2 a3 b1 b2 b3 : Int) (w : World) (hv : IntsV w va xs) (hu : IntsV w vb ys) (hlx : xs.length ≤ 1000) (hly : ys.length ≤ 1000) :
    Calls Try.prog 9 #[.agg #[va, .int .i64 a1, .int .i64 a2, .int .i64 a3], .agg #[vb, .int .i64 b1, .int .i64 b2, .int .i64 b3]] w fun e w' => e = .returned (.bool (sameI xs ys && (a1 == b1 && (a2 == b2 && a3 == b3)))) ∧ Ext w w' := by
  have HC : Hid (∀ w', Ext w w' → Calls Try.prog 10 #[va, vb] w' fun e w'' => e = .returned (.bool (sameI xs ys)) ∧ Ext w' w'') := Lib.hid (fun w' hx => SameI_any va vb xs ys w' (hv.ext hx) (hu.ext hx) hlx hly)
  obtain ⟨p, c, rfl, -, -⟩ := hv.cellsI
  obtain ⟨q, d, rfl, -, -⟩ := hu.cellsI
  clear hv hu
  generalize sameI xs ys = s at *
  generalize xs.length = n at *
  generalize ys.length = m at *
  go_enter Try.func9, Try.ntmps9
  go_wp2_with fail
  (with_reducible refine (HC.out _ (by (repeat (first | exact Ext.refl _ | (with_reducible assumption) | (with_reducible refine Ext.drew ?_) | (with_reducible refine Ext.alloc ?_ _) | (with_reducible refine Ext.drewN ?_ _) | (with_reducible refine Ext.setCell ?_ (by omega) _) | (with_reducible refine Ext.trans ?_ (by with_reducible assumption)))))).mono ?_)
  rintro e w1 ⟨rfl, hx1⟩
  have q1 := hx1.keep (k := w.heap.size) (o := 1) (v := .int .i64 a1) (by simp [go_sem])
  have q2 := hx1.keep (k := w.heap.size) (o := 2) (v := .int .i64 a2) (by simp [go_sem])
  have q3 := hx1.keep (k := w.heap.size) (o := 3) (v := .int .i64 a3) (by simp [go_sem])
  have p1 := hx1.keep (k := w.heap.size + 1) (o := 1) (v := .int .i64 b1) (by simp [go_sem])
  have p2 := hx1.keep (k := w.heap.size + 1) (o := 2) (v := .int .i64 b2) (by simp [go_sem])
  have p3 := hx1.keep (k := w.heap.size + 1) (o := 3) (v := .int .i64 b3) (by simp [go_sem])
  have X : Ext w w1 := by (repeat (first | exact Ext.refl _ | (with_reducible assumption) | (with_reducible refine Ext.drew ?_) | (with_reducible refine Ext.alloc ?_ _) | (with_reducible refine Ext.drewN ?_ _) | (with_reducible refine Ext.setCell ?_ (by omega) _) | (with_reducible refine Ext.trans ?_ (by with_reducible assumption))))
  clear hx1
  cases s with
  | false =>
    go_wp2_with fail
    go_ret
    exact ⟨ret_bool (by simp [*]), X⟩
  | true =>
    cases h1 : (a1 == b1) with
    | false =>
      go_wp2_with fail
      go_ret
      exact ⟨ret_bool (by simp [*]), X⟩
    | true =>
      cases h2 : (a2 == b2) with
      | false =>
        go_wp2_with fail
        go_ret
        exact ⟨ret_bool (by simp [*]), X⟩
      | true =>
        cases h3 : (a3 == b3) with
        | false =>
          go_wp2_with fail
          go_ret
          exact ⟨ret_bool (by simp [*]), X⟩
        | true =>
          go_wp2_with fail
          go_ret
          exact ⟨ret_bool (by simp [*]), X⟩
end Go.Proofs.Ytedblocbcjoolaa

/- Contracts of layer 7: whether a list is a truth of a case. -/
namespace Go.Hs
open Go.RowKit
theorem listedB_len {c : Cas} {t : List Thr} (h : t.length ≠ c.flds.length) : listedB c t = false := by simp [listedB, h]
theorem listedB_no {c : Cas} {t : List Thr} {k : Nat} (h : k < c.flds.length) (hk : thrB (c.flds.getD k default) (t.getD k default) = false) : listedB c t = false := by
  unfold listedB
  have : allB c.flds.length (fun i => thrB (c.flds.getD i default) (t.getD i default)) = false := by
    rw [← Bool.not_eq_true, allB_iff]
    intro h'
    rw [h' k h] at hk; cases hk
  rw [this]; simp
theorem listedB_yes {c : Cas} {t : List Thr} (h : t.length = c.flds.length) (hk : ∀ k, k < c.flds.length → thrB (c.flds.getD k default) (t.getD k default) = true) : listedB c t = true := by
  unfold listedB
  rw [allB_iff.2 hk]; simp [h]
theorem Cells9.at {w : World} {b off : Nat} {us : List V9} (h : Cells9 w (some ⟨b, off, none⟩) us) (i : Nat) (hi : i < us.length) : Cell9 w b (off + i * 9) us[i] := by
  obtain ⟨b', off', he, hr⟩ := h i hi
  cases he; exact hr
end Go.Hs
namespace Go.Proofs.Ytedblocbcjoolaa
open Go.RowKit Go.Hs
attribute [local irreducible] World.setCell World.alloc

set_option maxRecDepth 100000 in
set_option maxHeartbeats 4000000 in
theorem listed_u (c : Cas) (v : Value) (t : List Thr) (vt : Value) (w : World) (hv : CasV w v c) (ht : ThrsV w vt t) :
    Calls Try.prog 16 #[v, vt] w fun e w' => e = .returned (.bool (listedB c t)) ∧ Ext w w' := by
  obtain ⟨a1, c1, a2, c2, rfl, -, -, hcl, hl1, hl2⟩ := hv.open
  obtain ⟨at', ct, rfl, ht1, ht2, htc⟩ := ht
  have HNL : Hid (t.length ≠ c.flds.length → listedB c t = false) := Lib.hid listedB_len
  have HNO : Hid (∀ k, k < c.flds.length → thrB (c.flds.getD k default) (t.getD k default) = false → listedB c t = false) := Lib.hid (fun k h => listedB_no h)
  have HYES : Hid (t.length = c.flds.length → (∀ k, k < c.flds.length → thrB (c.flds.getD k default) (t.getD k default) = true) → listedB c t = true) := Lib.hid listedB_yes
  have HCL := Lib.hid hcl
  have HTC := Lib.hid htc
  have HHAS := Lib.hid has_u
  clear hv hcl htc
  generalize listedB c t = r at *
  by_cases hlen : t.length = c.flds.length
  · have hne : ((t.length : Int) != (c.flds.length : Int)) = false := by rw [bne_eq_false_iff_eq]; omega
    have HYES' := Lib.hid (HYES.out hlen)
    have HLEN := Lib.hid hlen
    clear HNL HYES hlen
    go_enter Try.func16, Try.ntmps16
    go_wp2_with fail
    go_loopw [16] (fun s16 wr => ∃ k : Nat, k ≤ c.flds.length ∧ s16 = .int .i64 k ∧ Hid (∀ m, m < k → thrB (c.flds.getD m default) (t.getD m default) = true) ∧ Ext w wr) (fun s _ => c.flds.length - (intOf s).toNat)
    case atStart => exact ⟨0, Nat.zero_le _, rfl, Lib.hid (fun m hm => absurd hm (Nat.not_lt_zero _)), by (repeat (first | exact Ext.refl _ | (with_reducible assumption) | (with_reducible refine Ext.drew ?_) | (with_reducible refine Ext.alloc ?_ _) | (with_reducible refine Ext.drewN ?_ _) | (with_reducible refine Ext.setCell ?_ (by omega) _) | (with_reducible refine Ext.trans ?_ (by with_reducible assumption))))⟩
    case round =>
      obtain ⟨k, hk, rfl, HP, hx⟩ := hrel
      obtain ⟨wo, rfl⟩ : ∃ x, x = wr := ⟨_, rfl⟩
      by_cases hlt : k < c.flds.length
      · obtain ⟨b, off, rfl, hce⟩ := HCL.out k (by simpa using hlt)
        obtain ⟨b', off', rfl, hte⟩ := HTC.out k (by have := HLEN.out; simp; omega)
        have hce := hce.ext hx
        have hte := hte.ext hx
        have hlt' : k < t.length := by have := HLEN.out; omega
        have e1 : (c.flds.map Fld.c)[k]'(by simpa using hlt) = (c.flds[k]).c := by simp
        have e2 : (t.map Thr.c)[k]'(by simpa using hlt') = (t[k]).c := by simp
        rw [e1] at hce
        rw [e2] at hte
        clear e1 e2
        have g1 : c.flds.getD k default = c.flds[k] := by simp [hlt]
        have g2 : t.getD k default = t[k] := by simp [hlt']
        have HNO' := Lib.hid (HNO.out k hlt)
        have HNX : Hid (thrB (c.flds.getD k default) (t.getD k default) = true → ∀ m, m < k + 1 → thrB (c.flds.getD m default) (t.getD m default) = true) := Lib.hid (fun h => upTo_next HP.out h)
        rw [g1, g2] at HNO' HNX
        clear g1 g2
        have HTB : Hid (thrB c.flds[k] t[k] = (inR t[k].a c.flds[k].alo c.flds[k].ahi && (inR t[k].b c.flds[k].blo c.flds[k].bhi && inR t[k].u c.flds[k].ulo c.flds[k].uhi))) := rfl
        generalize thrB c.flds[k] t[k] = tb at *
        generalize c.flds[k] = f at *
        generalize t[k] = x at *
        obtain ⟨cr, va, ne, al, ah, bl, bh, ul, uh⟩ := f
        obtain ⟨A, B, U⟩ := x
        obtain ⟨m0, m1, m2, m3, m4, m5, m6, m7, m8⟩ := hce
        obtain ⟨t0, t1, t2⟩ := hte
        simp only [Fld.c, Thr.c] at m0 m1 m2 m3 m4 m5 m6 m7 m8 t0 t1 t2 HTB
        go_upto_region 6 with fail
        obtain ⟨W, hW⟩ : ∃ W, W = wo.alloc (.cells #[.int .i64 cr, .int .i64 va, .int .i64 ne, .int .i64 al, .int .i64 ah, .int .i64 bl, .int .i64 bh, .int .i64 ul, .int .i64 uh] 46) := ⟨_, rfl⟩
        rw [← hW]
        have X : Ext wo W := by rw [hW]; (repeat (first | exact Ext.refl _ | (with_reducible assumption) | (with_reducible refine Ext.drew ?_) | (with_reducible refine Ext.alloc ?_ _) | (with_reducible refine Ext.drewN ?_ _) | (with_reducible refine Ext.setCell ?_ (by omega) _) | (with_reducible refine Ext.trans ?_ (by with_reducible assumption))))
        have f3 : ∀ w', Ext W w' → w'.cell? ⟨wo.heap.size, 3, none⟩ = some (.int .i64 al) := fun w' h => h.keep (by rw [hW]; simp)
        have f4 : ∀ w', Ext W w' → w'.cell? ⟨wo.heap.size, 4, none⟩ = some (.int .i64 ah) := fun w' h => h.keep (by rw [hW]; simp)
        have f5 : ∀ w', Ext W w' → w'.cell? ⟨wo.heap.size, 5, none⟩ = some (.int .i64 bl) := fun w' h => h.keep (by rw [hW]; simp)
        have f6 : ∀ w', Ext W w' → w'.cell? ⟨wo.heap.size, 6, none⟩ = some (.int .i64 bh) := fun w' h => h.keep (by rw [hW]; simp)
        have f7 : ∀ w', Ext W w' → w'.cell? ⟨wo.heap.size, 7, none⟩ = some (.int .i64 ul) := fun w' h => h.keep (by rw [hW]; simp)
        have f8 : ∀ w', Ext W w' → w'.cell? ⟨wo.heap.size, 8, none⟩ = some (.int .i64 uh) := fun w' h => h.keep (by rw [hW]; simp)
        have g0 : ∀ w', Ext W w' → w'.cell? ⟨b', off' + k * 3, none⟩ = some (.int .i64 A) := fun w' h => (X.trans h).keep t0
        have g1 : ∀ w', Ext W w' → w'.cell? ⟨b', off' + k * 3 + 1, none⟩ = some (.int .i64 B) := fun w' h => (X.trans h).keep t1
        have g2 : ∀ w', Ext W w' → w'.cell? ⟨b', off' + k * 3 + 2, none⟩ = some (.int .i64 U) := fun w' h => (X.trans h).keep t2
        clear m0 m1 m2 m3 m4 m5 m6 m7 m8 t0 t1 t2 hW
        cases h1 : inR A al ah with
        | false =>
          obtain rfl : r = false := HNO'.out (by rw [HTB.out]; simp [*])
          clear HTB HNX HNO' HYES'
          refine wp_region_quiet (C := Ext W) (by kernel_rfl) (by kernel_rfl) (Ext.drew (by (repeat (first | exact Ext.refl _ | (with_reducible assumption) | (with_reducible refine Ext.drew ?_) | (with_reducible refine Ext.alloc ?_ _) | (with_reducible refine Ext.drewN ?_ _) | (with_reducible refine Ext.setCell ?_ (by omega) _) | (with_reducible refine Ext.trans ?_ (by with_reducible assumption)))))) ?_
          rw [show ∀ (l : List Oper), l.toArray.toList = l from fun l => rfl]
          repeat (first
            | go_big_quiet_skip
            | (go_big_quiet_want
               first
                | (go_big_quiet_op; go_big_quiet_on)
                | (apply Exists.intro
                   refine ⟨fun w' hxw => ?_, ?_⟩
                   focus (have q3 := f3 w' hxw; have q4 := f4 w' hxw; have q0 := g0 w' hxw; go_simp; first | exact rfl | exact (HHAS.out _ _ _ w').mono (fun e w'' h => ⟨h.1, hxw.trans h.2⟩))
                   simp only [Act.put, List.setIfInBounds_toArray, List.set_cons_zero, List.set_cons_succ]
                   go_big_quiet_on)))
          refine wpQuiet_nil ?_
          intro w2 hx2
          go_wp2_with fail
          go_ret
          exact ⟨rfl, by (repeat (first | exact Ext.refl _ | (with_reducible assumption) | (with_reducible refine Ext.drew ?_) | (with_reducible refine Ext.alloc ?_ _) | (with_reducible refine Ext.drewN ?_ _) | (with_reducible refine Ext.setCell ?_ (by omega) _) | (with_reducible refine Ext.trans ?_ (by with_reducible assumption))))⟩
        | true =>
          cases h2 : inR B bl bh with
          | false =>
            obtain rfl : r = false := HNO'.out (by rw [HTB.out]; simp [*])
            clear HTB HNX HNO' HYES'
            refine wp_region_quiet (C := Ext W) (by kernel_rfl) (by kernel_rfl) (Ext.drew (by (repeat (first | exact Ext.refl _ | (with_reducible assumption) | (with_reducible refine Ext.drew ?_) | (with_reducible refine Ext.alloc ?_ _) | (with_reducible refine Ext.drewN ?_ _) | (with_reducible refine Ext.setCell ?_ (by omega) _) | (with_reducible refine Ext.trans ?_ (by with_reducible assumption)))))) ?_
            rw [show ∀ (l : List Oper), l.toArray.toList = l from fun l => rfl]
            repeat (first
              | go_big_quiet_skip
              | (go_big_quiet_want
                 first
                  | (go_big_quiet_op; go_big_quiet_on)
                  | (apply Exists.intro
                     refine ⟨fun w' hxw => ?_, ?_⟩
                     focus (have q3 := f3 w' hxw; have q4 := f4 w' hxw; have q0 := g0 w' hxw; have q5 := f5 w' hxw; have q6 := f6 w' hxw; have q1 := g1 w' hxw; go_simp; first | exact rfl | exact (HHAS.out _ _ _ w').mono (fun e w'' h => ⟨h.1, hxw.trans h.2⟩))
                     simp only [Act.put, List.setIfInBounds_toArray, List.set_cons_zero, List.set_cons_succ]
                     go_big_quiet_on)))
            refine wpQuiet_nil ?_
            intro w2 hx2
            go_wp2_with fail
            go_ret
            exact ⟨rfl, by (repeat (first | exact Ext.refl _ | (with_reducible assumption) | (with_reducible refine Ext.drew ?_) | (with_reducible refine Ext.alloc ?_ _) | (with_reducible refine Ext.drewN ?_ _) | (with_reducible refine Ext.setCell ?_ (by omega) _) | (with_reducible refine Ext.trans ?_ (by with_reducible assumption))))⟩
          | true =>
            cases h3 : inR U ul uh with
            | false =>
              obtain rfl : r = false := HNO'.out (by rw [HTB.out]; simp [*])
              clear HTB HNX HNO' HYES'
              refine wp_region_quiet (C := Ext W) (by kernel_rfl) (by kernel_rfl) (Ext.drew (by (repeat (first | exact Ext.refl _ | (with_reducible assumption) | (with_reducible refine Ext.drew ?_) | (with_reducible refine Ext.alloc ?_ _) | (with_reducible refine Ext.drewN ?_ _) | (with_reducible refine Ext.setCell ?_ (by omega) _) | (with_reducible refine Ext.trans ?_ (by with_reducible assumption)))))) ?_
              rw [show ∀ (l : List Oper), l.toArray.toList = l from fun l => rfl]
              repeat (first
                | go_big_quiet_skip
                | (go_big_quiet_want
                   first
                    | (go_big_quiet_op; go_big_quiet_on)
                    | (apply Exists.intro
                       refine ⟨fun w' hxw => ?_, ?_⟩
                       focus (have q3 := f3 w' hxw; have q4 := f4 w' hxw; have q0 := g0 w' hxw; have q5 := f5 w' hxw; have q6 := f6 w' hxw; have q1 := g1 w' hxw; have q7 := f7 w' hxw; have q8 := f8 w' hxw; have q2 := g2 w' hxw; go_simp; first | exact rfl | exact (HHAS.out _ _ _ w').mono (fun e w'' h => ⟨h.1, hxw.trans h.2⟩))
                       simp only [Act.put, List.setIfInBounds_toArray, List.set_cons_zero, List.set_cons_succ]
                       go_big_quiet_on)))
              refine wpQuiet_nil ?_
              intro w2 hx2
              go_wp2_with fail
              go_ret
              exact ⟨rfl, by (repeat (first | exact Ext.refl _ | (with_reducible assumption) | (with_reducible refine Ext.drew ?_) | (with_reducible refine Ext.alloc ?_ _) | (with_reducible refine Ext.drewN ?_ _) | (with_reducible refine Ext.setCell ?_ (by omega) _) | (with_reducible refine Ext.trans ?_ (by with_reducible assumption))))⟩
            | true =>
              have HNXT := Lib.hid (HNX.out (by rw [HTB.out]; simp [*]))
              clear HTB HNX HNO'
              refine wp_region_quiet (C := Ext W) (by kernel_rfl) (by kernel_rfl) (Ext.drew (by (repeat (first | exact Ext.refl _ | (with_reducible assumption) | (with_reducible refine Ext.drew ?_) | (with_reducible refine Ext.alloc ?_ _) | (with_reducible refine Ext.drewN ?_ _) | (with_reducible refine Ext.setCell ?_ (by omega) _) | (with_reducible refine Ext.trans ?_ (by with_reducible assumption)))))) ?_
              rw [show ∀ (l : List Oper), l.toArray.toList = l from fun l => rfl]
              repeat (first
                | go_big_quiet_skip
                | (go_big_quiet_want
                   first
                    | (go_big_quiet_op; go_big_quiet_on)
                    | (apply Exists.intro
                       refine ⟨fun w' hxw => ?_, ?_⟩
                       focus (have q3 := f3 w' hxw; have q4 := f4 w' hxw; have q0 := g0 w' hxw; have q5 := f5 w' hxw; have q6 := f6 w' hxw; have q1 := g1 w' hxw; have q7 := f7 w' hxw; have q8 := f8 w' hxw; have q2 := g2 w' hxw; go_simp; first | exact rfl | exact (HHAS.out _ _ _ w').mono (fun e w'' h => ⟨h.1, hxw.trans h.2⟩))
                       simp only [Act.put, List.setIfInBounds_toArray, List.set_cons_zero, List.set_cons_succ]
                       go_big_quiet_on)))
              refine wpQuiet_nil ?_
              intro w2 hx2
              go_wp2_with fail
              go_roundw
              case rel => exact ⟨k + 1, by omega, by go_num, HNXT, by (repeat (first | exact Ext.refl _ | (with_reducible assumption) | (with_reducible refine Ext.drew ?_) | (with_reducible refine Ext.alloc ?_ _) | (with_reducible refine Ext.drewN ?_ _) | (with_reducible refine Ext.setCell ?_ (by omega) _) | (with_reducible refine Ext.trans ?_ (by with_reducible assumption))))⟩
              case measure => simp [intOf]; omega
      · have ek : k = c.flds.length := by omega
        subst ek
        obtain rfl : r = true := HYES'.out HP.out
        clear HYES' HP HNO
        go_wp2_with fail
        go_ret
        exact ⟨rfl, hx⟩
  · have hne : ((t.length : Int) != (c.flds.length : Int)) = true := by rw [bne_iff_ne]; omega
    obtain rfl : r = false := HNL.out hlen
    clear HNL HNO HYES HCL HTC HHAS
    go_enter Try.func16, Try.ntmps16
    go_wp2_with fail
    go_ret
    exact ⟨rfl, by (repeat (first | exact Ext.refl _ | (with_reducible assumption) | (with_reducible refine Ext.drew ?_) | (with_reducible refine Ext.alloc ?_ _) | (with_reducible refine Ext.drewN ?_ _) | (with_reducible refine Ext.setCell ?_ (by omega) _) | (with_reducible refine Ext.trans ?_ (by with_reducible assumption))))⟩
end Go.Proofs.Ytedblocbcjoolaa

/- Contracts of layer 7: how a case ends. -/
namespace Go.Hs
open Go.RowKit Go.Proofs.Ytedblocbcjoolaa
def countsT (fs : List Fld) (t : List Thr) : List Int := (fs.zip t).map (fun p => settledS p.1 p.2)
theorem own_intsV {w : World} {B e n : Nat} {v : Value} {us : List Value} {xs : List Int} (h : w.ownsRow B e 1 v n us) (hu : us = xs.map (.int .i64)) (hn : n = xs.length) (ho : ∀ x ∈ xs, i64ok x) (hl : xs.length ≤ 1000) : IntsV w v xs := by
  subst hu hn
  rcases own_open h with ⟨rfl, h0⟩ | ⟨g, cap, rfl, hB, hg, hn, hc⟩
  · have e : xs = [] := List.eq_nil_of_length_eq_zero h0
    subst e
    exact ⟨none, 0, rfl, Nat.le_refl _, by simp, fun i h => absurd h (by simp)⟩
  · refine ⟨some ⟨g, 0, none⟩, cap, rfl, hn, by omega, fun i hi => ⟨g, 0, rfl, ?_, ho _ (List.getElem_mem hi)⟩⟩
    have := hc i (.int .i64 xs[i]) (by simp [hi])
    simpa using this
/-- The result and the sum so far, in their boxes. -/
structure PlayI (w : World) (R S : Nat) (cs : List Int) (s : Sm) (v : Value) (W : World) : Prop where
  ext : Ext w W
  r0 : W.cell? ⟨R, 0, none⟩ = some v
  r1 : W.cell? ⟨R, 1, none⟩ = some (.int .i64 0)
  r2 : W.cell? ⟨R, 2, none⟩ = some (.int .i64 0)
  r3 : W.cell? ⟨R, 3, none⟩ = some (.int .i64 0)
  s0 : W.cell? ⟨S, 0, none⟩ = some (.int .i64 s.award)
  s1 : W.cell? ⟨S, 1, none⟩ = some (.int .i64 s.e0)
  s2 : W.cell? ⟨S, 2, none⟩ = some (.int .i64 s.e1)
  s3 : W.cell? ⟨S, 3, none⟩ = some (.int .i64 s.e2)
  s4 : W.cell? ⟨S, 4, none⟩ = some (.int .i64 s.e3)
  fr : ∀ o, W.frozen? ⟨R, o, none⟩ = false
  fs : ∀ o, W.frozen? ⟨S, o, none⟩ = false
  own : W.ownsRow (S + 1) 3 1 v cs.length (cs.map (.int .i64))
  n1 : w.heap.size ≤ R
  n2 : R + 1 = S
theorem PlayI.lt {w : World} {R S : Nat} {cs : List Int} {s : Sm} {v : Value} {W : World} (h : PlayI w R S cs s v W) : S < W.heap.size := lt_of_cell h.s0
theorem PlayI.grow {w : World} {R S : Nat} {cs : List Int} {s : Sm} {v : Value} {W W' : World} (h : PlayI w R S cs s v W) (hx : Ext W W') : PlayI w R S cs s v W' :=
  ⟨h.ext.trans hx, hx.keep h.r0, hx.keep h.r1, hx.keep h.r2, hx.keep h.r3, hx.keep h.s0, hx.keep h.s1, hx.keep h.s2, hx.keep h.s3, hx.keep h.s4,
    fun o => (hx.frozen (lt_of_cell h.r0)).trans (h.fr o), fun o => (hx.frozen (lt_of_cell h.s0)).trans (h.fs o), own_keep h.own (fun _ hg => hx.heap (own_lt h.own hg).2), h.n1, h.n2⟩
theorem PlayI.sum {w : World} {R S : Nat} {cs : List Int} {s : Sm} {v : Value} {W : World} (h : PlayI w R S cs s v W) (q : Sm) :
    PlayI w R S cs q v (((((W.setCell ⟨S, 0, none⟩ (.int .i64 q.award)).setCell ⟨S, 1, none⟩ (.int .i64 q.e0)).setCell ⟨S, 2, none⟩ (.int .i64 q.e1)).setCell ⟨S, 3, none⟩ (.int .i64 q.e2)).setCell ⟨S, 4, none⟩ (.int .i64 q.e3)) := by
  have h1 := h.n1
  have h2 := h.n2
  have ne : ∀ {b i o : Nat} {x y : Value} {A : World}, (b ≠ S ∨ i ≠ o) → A.cell? ⟨b, i, none⟩ = some x → (A.setCell ⟨S, o, none⟩ y).cell? ⟨b, i, none⟩ = some x := fun {b i o x y A} hne hc => by
    rw [World.cell?_setCell_other (h := by intro e; cases e; simp at hne)]; exact hc
  have sm : ∀ {i : Nat} {x y : Value} {A : World}, A.cell? ⟨S, i, none⟩ = some x → (A.setCell ⟨S, i, none⟩ y).cell? ⟨S, i, none⟩ = some y := fun hc => World.cell?_setCell_same _ _ _ hc
  refine ⟨((((h.ext.setCell (by omega) _).setCell (by omega) _).setCell (by omega) _).setCell (by omega) _).setCell (by omega) _, ?_, ?_, ?_, ?_, ?_, ?_, ?_, ?_, ?_, ?_, ?_, ?_, h.n1, h.n2⟩
  · exact ne (.inl (by omega)) (ne (.inl (by omega)) (ne (.inl (by omega)) (ne (.inl (by omega)) (ne (.inl (by omega)) h.r0))))
  · exact ne (.inl (by omega)) (ne (.inl (by omega)) (ne (.inl (by omega)) (ne (.inl (by omega)) (ne (.inl (by omega)) h.r1))))
  · exact ne (.inl (by omega)) (ne (.inl (by omega)) (ne (.inl (by omega)) (ne (.inl (by omega)) (ne (.inl (by omega)) h.r2))))
  · exact ne (.inl (by omega)) (ne (.inl (by omega)) (ne (.inl (by omega)) (ne (.inl (by omega)) (ne (.inl (by omega)) h.r3))))
  · exact ne (.inr (by decide)) (ne (.inr (by decide)) (ne (.inr (by decide)) (ne (.inr (by decide)) (sm h.s0))))
  · exact ne (.inr (by decide)) (ne (.inr (by decide)) (ne (.inr (by decide)) (sm (ne (.inr (by decide)) h.s1))))
  · exact ne (.inr (by decide)) (ne (.inr (by decide)) (sm (ne (.inr (by decide)) (ne (.inr (by decide)) h.s2))))
  · exact ne (.inr (by decide)) (sm (ne (.inr (by decide)) (ne (.inr (by decide)) (ne (.inr (by decide)) h.s3))))
  · exact sm (ne (.inr (by decide)) (ne (.inr (by decide)) (ne (.inr (by decide)) (ne (.inr (by decide)) h.s4))))
  · intro o; simp only [World.frozen?_setCell]; exact h.fr o
  · intro o; simp only [World.frozen?_setCell]; exact h.fs o
  · refine own_keep h.own (fun g hg => ?_)
    have hgS := (own_lt h.own hg).1
    rw [Below.heap_setCell _ _ _ _ (show g ≠ S by omega), Below.heap_setCell _ _ _ _ (show g ≠ S by omega), Below.heap_setCell _ _ _ _ (show g ≠ S by omega), Below.heap_setCell _ _ _ _ (show g ≠ S by omega), Below.heap_setCell _ _ _ _ (show g ≠ S by omega)]
/-- One count more. -/
theorem PlayI.app {w : World} {R S : Nat} {cs : List Int} {s : Sm} {v v' : Value} {W W' : World} {n : Int} (h : PlayI w R S cs s v W) (hg : W.grownBy W' v.ownBlock) (ho : W'.ownsRow (S + 1) 3 1 v' (cs.length + 1) (cs.map (.int .i64) ++ [.int .i64 n])) :
    PlayI w R S (cs ++ [n]) s v' (W'.setCell ⟨R, 0, none⟩ v') := by
  have h1 := h.n1
  have h2 := h.n2
  have hne : ∀ b, b ≤ S → some b ≠ v.ownBlock := fun b hb e => by have := (own_lt h.own e.symm).1; omega
  have k : ∀ {b i : Nat} {x : Value}, b ≤ S → W.cell? ⟨b, i, none⟩ = some x → W'.cell? ⟨b, i, none⟩ = some x := fun hb hc => hg.cell hc (hne _ hb)
  have ne : ∀ {b i : Nat} {x : Value}, (b ≠ R ∨ i ≠ 0) → W'.cell? ⟨b, i, none⟩ = some x → (W'.setCell ⟨R, 0, none⟩ v').cell? ⟨b, i, none⟩ = some x := fun {b i x} hn hc => by
    rw [World.cell?_setCell_other (h := by intro e; cases e; simp at hn)]; exact hc
  have f : ∀ b, b ≤ S → b < W.heap.size → ∀ o, W'.frozen? ⟨b, o, none⟩ = W.frozen? ⟨b, o, none⟩ := fun b hb hl o => World.frozen?_of_block (w := W) (hg.block b hl (hne b hb))
  have hl := h.lt
  refine ⟨(grown_ext h.ext hg (fun g hg => by have := (own_lt h.own hg).1; omega)).setCell (by omega) _, World.cell?_setCell_same _ _ _ (k (by omega) h.r0), ne (.inr (by decide)) (k (by omega) h.r1), ne (.inr (by decide)) (k (by omega) h.r2), ne (.inr (by decide)) (k (by omega) h.r3),
    ne (.inl (by omega)) (k (Nat.le_refl _) h.s0), ne (.inl (by omega)) (k (Nat.le_refl _) h.s1), ne (.inl (by omega)) (k (Nat.le_refl _) h.s2), ne (.inl (by omega)) (k (Nat.le_refl _) h.s3), ne (.inl (by omega)) (k (Nat.le_refl _) h.s4), ?_, ?_, ?_, h.n1, h.n2⟩
  · intro o; rw [World.frozen?_setCell, f R (by omega) (by omega)]; exact h.fr o
  · intro o; rw [World.frozen?_setCell, f S (Nat.le_refl _) hl]; exact h.fs o
  · have e1 : (cs ++ [n]).length = cs.length + 1 := by simp
    have e2 : (cs ++ [n]).map (Value.int .i64) = cs.map (.int .i64) ++ [.int .i64 n] := by simp
    rw [e1, e2]
    refine own_keep ho (fun g hg => ?_)
    have := (own_lt ho hg).1
    exact Below.heap_setCell _ _ _ _ (show g ≠ R by omega)
end Go.Hs
namespace Go.Proofs.Ytedblocbcjoolaa
open Go.RowKit Go.Hs
attribute [local irreducible] World.setCell World.alloc

/-- The error of a play. -/
def playE (c : Cas) (t : List Thr) : Int := if caseE c ≠ 0 then caseE c else if listedB c t then 0 else 2
def zeroR : Value := .agg #[.slice none 0 0, .int .i64 0, .int .i64 0, .int .i64 0]

set_option maxRecDepth 100000 in
set_option maxHeartbeats 2000000 in
theorem Play_bad (c : Cas) (v : Value) (t : List Thr) (vt : Value) (w : World) (hv : CasV w v c) (ht : ThrsV w vt t) (h : playE c t ≠ 0) :
    Calls Try.prog 4 #[v, vt] w fun e w' => e = .returned (.tuple #[zeroR, .int .i64 (playE c t)]) ∧ Ext w w' := by
  have HC : Hid (∀ w', Ext w w' → Calls Try.prog 14 #[v] w' fun e w'' => e = .returned (.int .i64 (caseE c)) ∧ Ext w' w'') := Lib.hid (fun w' hx => check_u c v w' (hv.ext hx))
  have HL : Hid (∀ w', Ext w w' → Calls Try.prog 16 #[v, vt] w' fun e w'' => e = .returned (.bool (listedB c t)) ∧ Ext w' w'') := Lib.hid (fun w' hx => listed_u c v t vt w' (hv.ext hx) (ht.ext hx))
  obtain ⟨a1, c1, a2, c2, rfl, -, -, -, -, -⟩ := hv.open
  obtain ⟨a3, c3, rfl, -, -, -⟩ := ht
  unfold playE at h ⊢
  unfold zeroR
  clear hv
  generalize caseE c = ce at *
  generalize listedB c t = lb at *
  by_cases h0 : ce = 0
  · subst h0
    obtain rfl : lb = false := by cases lb <;> simp_all
    clear h
    simp only [ne_eq, not_true_eq_false, if_false, Bool.false_eq_true]
    go_enter Try.func4, Try.ntmps4
    go_wp2_with fail
    (with_reducible refine (HC.out _ (by (repeat (first | exact Ext.refl _ | (with_reducible assumption) | (with_reducible refine Ext.drew ?_) | (with_reducible refine Ext.alloc ?_ _) | (with_reducible refine Ext.drewN ?_ _) | (with_reducible refine Ext.setCell ?_ (by omega) _) | (with_reducible refine Ext.trans ?_ (by with_reducible assumption)))))).mono ?_)
    rintro e w1 ⟨rfl, hx1⟩
    have q0 := hx1.keep (k := w.heap.size) (o := 0) (v := .slice a1 c.tars.length c1) (by simp [go_sem])
    have q1 := hx1.keep (k := w.heap.size) (o := 1) (v := .int .i64 c.day) (by simp [go_sem])
    have q2 := hx1.keep (k := w.heap.size) (o := 2) (v := .int .i64 c.fee) (by simp [go_sem])
    have q3 := hx1.keep (k := w.heap.size) (o := 3) (v := .slice a2 c.flds.length c2) (by simp [go_sem])
    go_wp2_with fail
    (with_reducible refine (HL.out _ (by (repeat (first | exact Ext.refl _ | (with_reducible assumption) | (with_reducible refine Ext.drew ?_) | (with_reducible refine Ext.alloc ?_ _) | (with_reducible refine Ext.drewN ?_ _) | (with_reducible refine Ext.setCell ?_ (by omega) _) | (with_reducible refine Ext.trans ?_ (by with_reducible assumption)))))).mono ?_)
    rintro e w2 ⟨rfl, hx2⟩
    have r0 := hx2.keep (hx1.keep (k := w.heap.size + 1) (o := 0) (v := .slice none 0 0) (by simp [go_sem]))
    have r1 := hx2.keep (hx1.keep (k := w.heap.size + 1) (o := 1) (v := .int .i64 0) (by simp [go_sem]))
    have r2 := hx2.keep (hx1.keep (k := w.heap.size + 1) (o := 2) (v := .int .i64 0) (by simp [go_sem]))
    have r3 := hx2.keep (hx1.keep (k := w.heap.size + 1) (o := 3) (v := .int .i64 0) (by simp [go_sem]))
    have hl1 : w.heap.size + 1 < w1.heap.size := lt_of_cell (hx1.keep (k := w.heap.size + 1) (o := 0) (v := .slice none 0 0) (by simp [go_sem]))
    have f : ∀ o, w2.frozen? ⟨w.heap.size + 1, o, none⟩ = false := fun o => ((hx2.frozen hl1).trans (hx1.frozen (by simp))).trans (by simp [go_sem])
    go_wp2_with fail
    exact bodyPost_ret (v := .tuple #[.agg #[.slice none 0 0, .int .i64 0, .int .i64 0, .int .i64 0], .int .i64 2]) (by simp [results, Try.results4, go_sem, r0, r1, r2, r3]) rfl ⟨rfl, by (repeat (first | exact Ext.refl _ | (with_reducible assumption) | (with_reducible refine Ext.drew ?_) | (with_reducible refine Ext.alloc ?_ _) | (with_reducible refine Ext.drewN ?_ _) | (with_reducible refine Ext.setCell ?_ (by omega) _) | (with_reducible refine Ext.trans ?_ (by with_reducible assumption))))⟩
  · simp only [ne_eq, h0, not_false_eq_true, if_true]
    have hd : (ce != 0) = true := by simp [h0]
    clear h h0 HL
    go_enter Try.func4, Try.ntmps4
    go_wp2_with fail
    (with_reducible refine (HC.out _ (by (repeat (first | exact Ext.refl _ | (with_reducible assumption) | (with_reducible refine Ext.drew ?_) | (with_reducible refine Ext.alloc ?_ _) | (with_reducible refine Ext.drewN ?_ _) | (with_reducible refine Ext.setCell ?_ (by omega) _) | (with_reducible refine Ext.trans ?_ (by with_reducible assumption)))))).mono ?_)
    rintro e w1 ⟨rfl, hx1⟩
    have r0 := (hx1.keep (k := w.heap.size + 1) (o := 0) (v := .slice none 0 0) (by simp [go_sem]))
    have r1 := (hx1.keep (k := w.heap.size + 1) (o := 1) (v := .int .i64 0) (by simp [go_sem]))
    have r2 := (hx1.keep (k := w.heap.size + 1) (o := 2) (v := .int .i64 0) (by simp [go_sem]))
    have r3 := (hx1.keep (k := w.heap.size + 1) (o := 3) (v := .int .i64 0) (by simp [go_sem]))
    have f : ∀ o, w1.frozen? ⟨w.heap.size + 1, o, none⟩ = false := fun o => (hx1.frozen (by simp)).trans (by simp [go_sem])
    go_wp2_with fail
    exact bodyPost_ret (v := .tuple #[.agg #[.slice none 0 0, .int .i64 0, .int .i64 0, .int .i64 0], .int .i64 ce]) (by simp [results, Try.results4, go_sem, r0, r1, r2, r3]) rfl ⟨rfl, by (repeat (first | exact Ext.refl _ | (with_reducible assumption) | (with_reducible refine Ext.drew ?_) | (with_reducible refine Ext.alloc ?_ _) | (with_reducible refine Ext.drewN ?_ _) | (with_reducible refine Ext.setCell ?_ (by omega) _) | (with_reducible refine Ext.trans ?_ (by with_reducible assumption))))⟩
end Go.Proofs.Ytedblocbcjoolaa

/- Contracts of layer 7: how a valid case ends in a truth. -/
namespace Go.Hs
open Go.RowKit Go.Proofs.Ytedblocbcjoolaa
theorem countsT_next {fs : List Fld} {t : List Thr} {k : Nat} (h1 : k < fs.length) (h2 : k < t.length) : countsT (fs.take k) (t.take k) ++ [settledS fs[k] t[k]] = countsT (fs.take (k + 1)) (t.take (k + 1)) := by
  unfold countsT
  rw [List.take_succ_eq_append_getElem h1, List.take_succ_eq_append_getElem h2, List.zip_append (by simp; omega)]
  simp
theorem sumT_next {c : Cas} {fs : List Fld} {t : List Thr} {k : Nat} (h1 : k < fs.length) (h2 : k < t.length) : (sumT c (fs.take k) (t.take k)).plus (outS c fs[k] t[k]) = sumT c (fs.take (k + 1)) (t.take (k + 1)) := by
  unfold sumT
  rw [List.take_succ_eq_append_getElem h1, List.take_succ_eq_append_getElem h2, List.zip_append (by simp; omega)]
  simp
theorem countsT_len {fs : List Fld} {t : List Thr} (h : t.length = fs.length) : (countsT fs t).length = fs.length := by
  simp [countsT, h]
theorem playE_zero {c : Cas} {t : List Thr} (h : playE c t = 0) : caseE c = 0 ∧ listedB c t = true := by
  unfold playE at h
  split at h
  · rename_i h0; exact absurd h h0
  · rename_i h0
    cases e : listedB c t with
    | true => exact ⟨by omega, rfl⟩
    | false => rw [e] at h; simp at h
theorem listedB_iff {c : Cas} {t : List Thr} : listedB c t = true ↔ t.length = c.flds.length ∧ ∀ k (h1 : k < c.flds.length) (h2 : k < t.length), ThrOK c.flds[k] t[k] := by
  unfold listedB
  simp only [Bool.and_eq_true, decide_eq_true_eq, allB_iff]
  constructor
  · rintro ⟨h1, h2⟩
    refine ⟨h1, fun k h3 h4 => ?_⟩
    have := h2 k h3
    rw [thrB_iff] at this
    simpa [h3, h4] using this
  · rintro ⟨h1, h2⟩
    refine ⟨h1, fun k h3 => ?_⟩
    have := h2 k h3 (by omega)
    rw [thrB_iff]
    simpa [h3, show k < t.length by omega] using this
theorem sc_ne {W : World} {b i b' i' : Nat} {x v : Value} (h : b ≠ b' ∨ i ≠ i') (hc : W.cell? ⟨b, i, none⟩ = some x) : (W.setCell ⟨b', i', none⟩ v).cell? ⟨b, i, none⟩ = some x := by
  rw [World.cell?_setCell_other (h := by intro e; cases e; simp at h)]; exact hc
theorem sc_eq {W : World} {b i : Nat} {x v : Value} (hc : W.cell? ⟨b, i, none⟩ = some x) : (W.setCell ⟨b, i, none⟩ v).cell? ⟨b, i, none⟩ = some v := World.cell?_setCell_same _ _ _ hc
theorem own_set {W : World} {B e n b i : Nat} {v x : Value} {us : List Value} (h : W.ownsRow B e 1 v n us) (hb : b < B) : (W.setCell ⟨b, i, none⟩ x).ownsRow B e 1 v n us :=
  own_keep h (fun g hg => Below.heap_setCell _ _ _ _ (show g ≠ b by have := (own_lt h hg).1; omega))
end Go.Hs
namespace Go.Proofs.Ytedblocbcjoolaa
open Go.RowKit Go.Hs
attribute [local irreducible] World.setCell World.alloc

/-- What 'Play' returns of a valid case and truth. -/
def PlayV (c : Cas) (t : List Thr) (w0 w : World) (v : Value) : Prop := ∃ a q, v = .agg #[.slice a c.flds.length q, .int .i64 (sumT c c.flds t).award, .int .i64 (feeA c.fee (sumT c c.flds t)), .int .i64 (feeB c.fee (sumT c c.flds t))] ∧
  IntsV w (.slice a c.flds.length q) (countsT c.flds t) ∧ Ext w0 w

/-- The same, and its counts lie in new memory. -/
def PlayN (c : Cas) (t : List Thr) (w0 w : World) (v : Value) : Prop := ∃ a q, v = .agg #[.slice a c.flds.length q, .int .i64 (sumT c c.flds t).award, .int .i64 (feeA c.fee (sumT c c.flds t)), .int .i64 (feeB c.fee (sumT c c.flds t))] ∧
  IntsV w (.slice a c.flds.length q) (countsT c.flds t) ∧ (∀ g o, a = some ⟨g, o, none⟩ → w0.heap.size ≤ g) ∧ Ext w0 w

set_option maxRecDepth 100000 in
set_option maxHeartbeats 8000000 in
theorem Play_new (c : Cas) (v : Value) (t : List Thr) (vt : Value) (w : World) (hv : CasV w v c) (ht : ThrsV w vt t) (h : playE c t = 0) :
    Calls Try.prog 4 #[v, vt] w fun e w' => ∃ r, e = .returned (.tuple #[r, .int .i64 0]) ∧ PlayN c t w w' r := by
  obtain ⟨he0, hlb⟩ := playE_zero h
  have hcas := caseE_zero he0
  have hck := caseE_tars he0
  obtain ⟨hlen, hthr⟩ := listedB_iff.1 hlb
  have HC : Hid (∀ w', Ext w w' → Calls Try.prog 14 #[v] w' fun e w'' => e = .returned (.int .i64 0) ∧ Ext w' w'') := Lib.hid (fun w' hx => he0 ▸ check_u c v w' (hv.ext hx))
  have HL : Hid (∀ w', Ext w w' → Calls Try.prog 16 #[v, vt] w' fun e w'' => e = .returned (.bool true) ∧ Ext w' w'') := Lib.hid (fun w' hx => hlb ▸ listed_u c v t vt w' (hv.ext hx) (ht.ext hx))
  have HPY : Hid (∀ f n w', Ext w w' → Calls Try.prog 18 #[v, f.c.val, .int .i64 n] w' fun e w'' => e = .returned (.tuple #[.int .i64 (payC c f n), .bool (payOk c f n)]) ∧ Ext w' w'') := Lib.hid (fun f n w' hx => pay_u c v f n w' (hv.ext hx))
  have HST : Hid (∀ k (h1 : k < c.flds.length) (h2 : k < t.length) w', Calls Try.prog 17 #[c.flds[k].c.val, t[k].c.val] w' fun e w'' => e = .returned (.tuple #[.int .i64 (settledS c.flds[k] t[k]), .int .i64 (loserS c.flds[k] t[k])]) ∧ Ext w' w'') :=
    Lib.hid (fun k h1 h2 w' => by
      have hf := hcas.flds _ (List.getElem_mem h1)
      have hx := hthr k h1 h2
      have := hf.a; have := hf.b; have := hf.u; have := hx.a; have := hx.b; have := hx.u
      exact settle_u _ _ hf.near (by omega) (by omega) (by omega) w')
  have HPL : Hid (∀ k (h1 : k < c.flds.length) (h2 : k < t.length) s w', SmN k s → Calls Try.prog 19 #[s.v, .agg #[.int .i64 (payC c c.flds[k] (settledS c.flds[k] t[k])), .int .i64 (loserS c.flds[k] t[k])]] w' fun e w'' => e = .returned (s.plus (outS c c.flds[k] t[k])).v ∧ Ext w' w'') :=
    Lib.hid (fun k h1 h2 s w' hs => plus_u k s (outS c c.flds[k] t[k]) hs (outS_ok hcas hck (hcas.flds _ (List.getElem_mem h1)) (hthr k h1 h2)) (by have := hcas.few; omega) w')
  have HSN : Hid (∀ k (h1 : k < c.flds.length) (h2 : k < t.length) s, SmN k s → SmN (k + 1) (s.plus (outS c c.flds[k] t[k]))) :=
    Lib.hid (fun k h1 h2 s hs => hs.plus (outS_ok hcas hck (hcas.flds _ (List.getElem_mem h1)) (hthr k h1 h2)))
  have HFE : Hid (∀ s w', SmN c.flds.length s → Calls Try.prog 20 #[s.v, .int .i64 c.fee] w' fun e w'' => e = .returned (.tuple #[.int .i64 (feeA c.fee s), .int .i64 (feeB c.fee s)]) ∧ Ext w' w'') :=
    Lib.hid (fun s w' hs => fees_u c.flds.length s hs (by have := hcas.few; omega) c.fee hcas.fee w')
  have HB : Hid (∀ k (h1 : k < c.flds.length) (h2 : k < t.length), i64ok (settledS c.flds[k] t[k])) := Lib.hid (fun k h1 h2 => by
    have hf := hcas.flds _ (List.getElem_mem h1)
    have hx := hthr k h1 h2
    have := hf.a; have := hf.b; have := hx.a; have := hx.b
    have := settled_bd (f := c.flds[k]) (x := t[k]) (by omega) (by omega)
    unfold i64ok; omega)
  obtain ⟨a1, c1, a2, c2, rfl, -, -, hcl, hl1, hl2⟩ := hv.open
  obtain ⟨at', ct, rfl, ht1, ht2, htc⟩ := ht
  obtain ⟨i1, hi1, hz10, hz11, hz12⟩ := info_parts info_int
  have HCL := Lib.hid hcl
  have HTC := Lib.hid htc
  have hfew := hcas.few
  have HLEN := Lib.hid hlen
  clear hv hcl htc h he0 hlb hcas hck hthr hlen
  go_enter Try.func4, Try.ntmps4
  go_wp2_with fail
  (with_reducible refine (HC.out _ (by (repeat (first | exact Ext.refl _ | (with_reducible assumption) | (with_reducible refine Ext.drew ?_) | (with_reducible refine Ext.alloc ?_ _) | (with_reducible refine Ext.drewN ?_ _) | (with_reducible refine Ext.setCell ?_ (by omega) _) | (with_reducible refine Ext.trans ?_ (by with_reducible assumption)))))).mono ?_)
  rintro e w1 ⟨rfl, hx1⟩
  have q0 := hx1.keep (k := w.heap.size) (o := 0) (v := .slice a1 c.tars.length c1) (by simp [go_sem])
  have q1 := hx1.keep (k := w.heap.size) (o := 1) (v := .int .i64 c.day) (by simp [go_sem])
  have q2 := hx1.keep (k := w.heap.size) (o := 2) (v := .int .i64 c.fee) (by simp [go_sem])
  have q3 := hx1.keep (k := w.heap.size) (o := 3) (v := .slice a2 c.flds.length c2) (by simp [go_sem])
  have z0 := hx1.keep (k := w.heap.size + 1) (o := 0) (v := .slice none 0 0) (by simp [go_sem])
  have hz1 := hx1.keep (k := w.heap.size + 1) (o := 1) (v := .int .i64 0) (by simp [go_sem])
  have hz2 := hx1.keep (k := w.heap.size + 1) (o := 2) (v := .int .i64 0) (by simp [go_sem])
  have hz3 := hx1.keep (k := w.heap.size + 1) (o := 3) (v := .int .i64 0) (by simp [go_sem])
  have X1 : Ext w w1 := by (repeat (first | exact Ext.refl _ | (with_reducible assumption) | (with_reducible refine Ext.drew ?_) | (with_reducible refine Ext.alloc ?_ _) | (with_reducible refine Ext.drewN ?_ _) | (with_reducible refine Ext.setCell ?_ (by omega) _) | (with_reducible refine Ext.trans ?_ (by with_reducible assumption))))
  have hf1 : ∀ o, w1.frozen? ⟨w.heap.size + 1, o, none⟩ = false := fun o => (hx1.frozen (by simp)).trans (by simp [go_sem])
  clear hx1
  go_wp2_with fail
  (with_reducible refine (HL.out _ X1).mono ?_)
  rintro e wb ⟨rfl, hx2⟩
  have q0 := hx2.keep q0
  have q1 := hx2.keep q1
  have q2 := hx2.keep q2
  have q3 := hx2.keep q3
  have hf2 : ∀ o, wb.frozen? ⟨w.heap.size + 1, o, none⟩ = false := fun o => (hx2.frozen (lt_of_cell z0)).trans (hf1 o)
  have X2 := X1.trans hx2
  have HZ : Hid (wb.cell? ⟨w.heap.size + 1, 0, none⟩ = some (.slice none 0 0) ∧ wb.cell? ⟨w.heap.size + 1, 1, none⟩ = some (.int .i64 0) ∧ wb.cell? ⟨w.heap.size + 1, 2, none⟩ = some (.int .i64 0) ∧ wb.cell? ⟨w.heap.size + 1, 3, none⟩ = some (.int .i64 0) ∧ ∀ o, wb.frozen? ⟨w.heap.size + 1, o, none⟩ = false) :=
    Lib.hid ⟨hx2.keep z0, hx2.keep hz1, hx2.keep hz2, hx2.keep hz3, hf2⟩
  have y3 : ∀ A B, ((wb.alloc A).alloc B).cell? ⟨w.heap.size, 3, none⟩ = some (.slice a2 c.flds.length c2) := fun A B => (((Ext.refl wb).alloc A).alloc B).keep q3
  clear hx2 X1 z0 hz1 hz2 hz3 hf1 hf2 HC HL
  go_wp2_with fail
  have P0 : PlayI wb wb.heap.size (wb.heap.size + 1) [] Sm.zero (.slice none 0 0) ((wb.alloc (.cells #[.slice none 0 0, .int .i64 0, .int .i64 0, .int .i64 0] 24)).alloc (.cells #[.int .i64 0, .int .i64 0, .int .i64 0, .int .i64 0, .int .i64 0] 58)) :=
    ⟨by (repeat (first | exact Ext.refl _ | (with_reducible assumption) | (with_reducible refine Ext.drew ?_) | (with_reducible refine Ext.alloc ?_ _) | (with_reducible refine Ext.drewN ?_ _) | (with_reducible refine Ext.setCell ?_ (by omega) _) | (with_reducible refine Ext.trans ?_ (by with_reducible assumption)))), by simp [go_sem], by simp [go_sem], by simp [go_sem], by simp [go_sem], by simp [go_sem, Sm.zero], by simp [go_sem, Sm.zero], by simp [go_sem, Sm.zero], by simp [go_sem, Sm.zero], by simp [go_sem, Sm.zero], fun o => by simp [go_sem], fun o => by simp [go_sem], World.ownsRow_nil _ _ _ _, Nat.le_refl _, rfl⟩
  obtain ⟨W0, hW0⟩ : ∃ W0, (wb.alloc (.cells #[.slice none 0 0, .int .i64 0, .int .i64 0, .int .i64 0] 24)).alloc (.cells #[.int .i64 0, .int .i64 0, .int .i64 0, .int .i64 0, .int .i64 0] 58) = W0 := ⟨_, rfl⟩
  rw [hW0] at P0 ⊢
  have HP0 := Lib.hid P0
  clear hW0 P0 y3
  have hR : wb.heap.size ≤ wb.heap.size := Nat.le_refl _
  generalize hRR : wb.heap.size = R at *
  have HRR := Lib.hid hRR
  clear hRR
  go_loopw [29] (fun s29 wr => ∃ (k : Nat) (a5 : Option Addr) (q5 : Nat), k ≤ c.flds.length ∧ s29 = .int .i64 k ∧ Hid (PlayI wb R (R + 1) (countsT (c.flds.take k) (t.take k)) (sumT c (c.flds.take k) (t.take k)) (.slice a5 k q5) wr ∧ SmN k (sumT c (c.flds.take k) (t.take k)))) (fun s _ => c.flds.length - (intOf s).toNat)
  case atStart => exact ⟨0, none, 0, Nat.zero_le _, rfl, Lib.hid ⟨HP0.out, SmN.zero⟩⟩
  case round =>
    obtain ⟨k, a5, q5, hk, rfl, HP⟩ := hrel
    obtain ⟨wo, rfl⟩ : ∃ x, x = wr := ⟨_, rfl⟩
    by_cases hlt : k < c.flds.length
    · have hlt' : k < t.length := by have := HLEN.out; omega
      obtain ⟨b, off, rfl, hce⟩ := HCL.out k (by simpa using hlt)
      obtain ⟨b', off', rfl, hte⟩ := HTC.out k (by simpa using hlt')
      have HW0 := HP.out.1.ext
      have X := X2.trans HW0
      have hce := hce.ext X
      have hte := hte.ext X
      have e1 : (c.flds.map Fld.c)[k]'(by simpa using hlt) = (c.flds[k]).c := by simp
      have e2 : (t.map Thr.c)[k]'(by simpa using hlt') = (t[k]).c := by simp
      rw [e1] at hce
      rw [e2] at hte
      clear e1 e2
      have hst := Lib.hid (HST.out k hlt hlt')
      have hpl := Lib.hid (HPL.out k hlt hlt' _ · HP.out.2)
      have hsn := Lib.hid (HSN.out k hlt hlt' _ HP.out.2)
      have hbd := Lib.hid (HB.out k hlt hlt')
      have hct := Lib.hid (countsT_next hlt hlt')
      have hsm := Lib.hid (sumT_next (c := c) hlt hlt')
      have hpy := Lib.hid (HPY.out c.flds[k] (settledS c.flds[k] t[k]))
      have hcl := Lib.hid (show (countsT (c.flds.take k) (t.take k)).length = k by rw [countsT_len (by simp; omega)]; simp; omega)
      generalize hq : outS c c.flds[k] t[k] = oq at *
      clear hq
      generalize payC c c.flds[k] (settledS c.flds[k] t[k]) = pn at *
      generalize payOk c c.flds[k] (settledS c.flds[k] t[k]) = pok at *
      generalize loserS c.flds[k] t[k] = lo at *
      generalize settledS c.flds[k] t[k] = st at *
      generalize c.flds[k] = f at *
      generalize t[k] = x at *
      have HP1 := Lib.hid HP.out.1
      have hcl' := hcl.out
      have q0 := HW0.keep q0
      have q1 := HW0.keep q1
      have q2 := HW0.keep q2
      have q3 := HW0.keep q3
      generalize hss : sumT c (c.flds.take k) (t.take k) = sm at *
      have HSS := Lib.hid hss
      generalize hcc : countsT (c.flds.take k) (t.take k) = cs at *
      have HCC := Lib.hid hcc
      clear hss hcc hcl' HW0
      obtain ⟨cr, va, ne, al, ah, bl, bh, ul, uh⟩ := f
      obtain ⟨A, B, U⟩ := x
      obtain ⟨m0, m1, m2, m3, m4, m5, m6, m7, m8⟩ := hce
      obtain ⟨t0, t1, t2⟩ := hte
      simp only [Fld.c, Thr.c] at m0 m1 m2 m3 m4 m5 m6 m7 m8 t0 t1 t2 hst hpy
      go_upto_region 11 with fail
      obtain ⟨W, hW⟩ : ∃ W, W = wo.alloc (.cells #[.int .i64 cr, .int .i64 va, .int .i64 ne, .int .i64 al, .int .i64 ah, .int .i64 bl, .int .i64 bh, .int .i64 ul, .int .i64 uh] 46) := ⟨_, rfl⟩
      rw [← hW]
      have XW : Ext wo W := by rw [hW]; (repeat (first | exact Ext.refl _ | (with_reducible assumption) | (with_reducible refine Ext.drew ?_) | (with_reducible refine Ext.alloc ?_ _) | (with_reducible refine Ext.drewN ?_ _) | (with_reducible refine Ext.setCell ?_ (by omega) _) | (with_reducible refine Ext.trans ?_ (by with_reducible assumption))))
      have f0 : W.cell? ⟨wo.heap.size, 0, none⟩ = some (.int .i64 cr) := by rw [hW]; simp
      have f1 : W.cell? ⟨wo.heap.size, 1, none⟩ = some (.int .i64 va) := by rw [hW]; simp
      have f2 : W.cell? ⟨wo.heap.size, 2, none⟩ = some (.int .i64 ne) := by rw [hW]; simp
      have f3 : W.cell? ⟨wo.heap.size, 3, none⟩ = some (.int .i64 al) := by rw [hW]; simp
      have f4 : W.cell? ⟨wo.heap.size, 4, none⟩ = some (.int .i64 ah) := by rw [hW]; simp
      have f5 : W.cell? ⟨wo.heap.size, 5, none⟩ = some (.int .i64 bl) := by rw [hW]; simp
      have f6 : W.cell? ⟨wo.heap.size, 6, none⟩ = some (.int .i64 bh) := by rw [hW]; simp
      have f7 : W.cell? ⟨wo.heap.size, 7, none⟩ = some (.int .i64 ul) := by rw [hW]; simp
      have f8 : W.cell? ⟨wo.heap.size, 8, none⟩ = some (.int .i64 uh) := by rw [hW]; simp
      have g0 := XW.keep t0
      have g1 := XW.keep t1
      have g2 := XW.keep t2
      have hK : ∀ w', Ext W w' → (w'.cell? ⟨wo.heap.size, 0, none⟩ = some (.int .i64 cr) ∧ w'.cell? ⟨wo.heap.size, 1, none⟩ = some (.int .i64 va) ∧ w'.cell? ⟨wo.heap.size, 2, none⟩ = some (.int .i64 ne) ∧ w'.cell? ⟨wo.heap.size, 3, none⟩ = some (.int .i64 al) ∧ w'.cell? ⟨wo.heap.size, 4, none⟩ = some (.int .i64 ah) ∧ w'.cell? ⟨wo.heap.size, 5, none⟩ = some (.int .i64 bl) ∧ w'.cell? ⟨wo.heap.size, 6, none⟩ = some (.int .i64 bh) ∧ w'.cell? ⟨wo.heap.size, 7, none⟩ = some (.int .i64 ul) ∧ w'.cell? ⟨wo.heap.size, 8, none⟩ = some (.int .i64 uh)) ∧ (w'.cell? ⟨b', off' + k * 3, none⟩ = some (.int .i64 A) ∧ w'.cell? ⟨b', off' + k * 3 + 1, none⟩ = some (.int .i64 B) ∧ w'.cell? ⟨b', off' + k * 3 + 2, none⟩ = some (.int .i64 U)) :=
        fun w' hx => ⟨⟨hx.keep f0, hx.keep f1, hx.keep f2, hx.keep f3, hx.keep f4, hx.keep f5, hx.keep f6, hx.keep f7, hx.keep f8⟩, hx.keep g0, hx.keep g1, hx.keep g2⟩
      have HK := Lib.hid hK
      have HQ : Hid (∀ w', Ext wo w' → w'.cell? ⟨w.heap.size, 0, none⟩ = some (.slice a1 c.tars.length c1) ∧ w'.cell? ⟨w.heap.size, 1, none⟩ = some (.int .i64 c.day) ∧ w'.cell? ⟨w.heap.size, 2, none⟩ = some (.int .i64 c.fee) ∧ w'.cell? ⟨w.heap.size, 3, none⟩ = some (.slice (some ⟨b, off, none⟩) c.flds.length c2)) :=
        Lib.hid (fun w' hx => ⟨hx.keep q0, hx.keep q1, hx.keep q2, hx.keep q3⟩)
      clear hK f0 f1 f2 f3 f4 f5 f6 f7 f8 g0 g1 g2 m0 m1 m2 m3 m4 m5 m6 m7 m8 t0 t1 t2 hW q0 q1 q2 q3
      refine wp_region_quiet (C := Ext W) (by kernel_rfl) (by kernel_rfl) (Ext.drew (by (repeat (first | exact Ext.refl _ | (with_reducible assumption) | (with_reducible refine Ext.drew ?_) | (with_reducible refine Ext.alloc ?_ _) | (with_reducible refine Ext.drewN ?_ _) | (with_reducible refine Ext.setCell ?_ (by omega) _) | (with_reducible refine Ext.trans ?_ (by with_reducible assumption)))))) ?_
      rw [show ∀ (l : List Oper), l.toArray.toList = l from fun l => rfl]
      repeat (first
        | go_big_quiet_skip
        | (go_big_quiet_want
           first
            | (go_big_quiet_op; go_big_quiet_on)
            | (apply Exists.intro
               refine ⟨fun w' hxw => ?_, ?_⟩
               focus (obtain ⟨⟨f0, f1, f2, f3, f4, f5, f6, f7, f8⟩, g0, g1, g2⟩ := HK.out w' hxw; go_simp; first | exact rfl | exact (hst.out w').mono (fun e w'' h => ⟨h.1, hxw.trans h.2⟩))
               simp only [Act.put, List.setIfInBounds_toArray, List.set_cons_zero, List.set_cons_succ]
               go_big_quiet_on)))
      refine wpQuiet_nil ?_
      intro w2 hx2
      obtain ⟨⟨f0, f1, f2, f3, f4, f5, f6, f7, f8⟩, -, -, -⟩ := HK.out _ hx2
      obtain ⟨q0, q1, q2, q3⟩ := HQ.out _ (XW.trans hx2)
      go_wp2_with fail
      (with_reducible refine (hpy.out _ ?hx).mono ?_)
      case hx => exact X.trans (XW.trans hx2)
      rintro e w4 ⟨rfl, hx4⟩
      have X4 : Ext wo w4 := (XW.trans hx2).trans hx4
      have hp4 := HP1.out.grow X4
      obtain ⟨-, r0, r1, r2, r3, s0, s1, s2, s3, s4, fr, fs, -, -, -⟩ := hp4
      have hpl2 := hpl.out
      simp only [Sm.v] at hpl2
      have HPL2 := Lib.hid hpl2
      clear hpl2 hpl
      generalize sm.plus oq = sq at *
      go_wp2_with fail
      (with_reducible refine (HPL2.out _).mono ?_)
      rintro e w5 ⟨rfl, hx5⟩
      have hp5 := HP1.out.grow (X4.trans hx5)
      have HP6 := Lib.hid (hp5.sum sq)
      obtain ⟨-, r0, r1, r2, r3, s0, s1, s2, s3, s4, fr, fs, -, -, -⟩ := hp5
      have hRl : R < w5.heap.size := lt_of_cell r0
      have hSl : R + 1 < w5.heap.size := lt_of_cell s0
      obtain ⟨q0, q1, q2, q3⟩ := HQ.out _ (X4.trans hx5)
      clear f0 f1 f2 f3 f4 f5 f6 f7 f8 HK HPL2
      go_upto_region 14 with fail
      clear r0 r1 r2 r3 s0 s1 s2 s3 s4 fr fs
      have X5 := X4.trans hx5
      clear hx5 X4 hx4 hx2 XW
      generalize (((((w5.setCell ⟨R + 1, 0, none⟩ (.int .i64 sq.award)).setCell ⟨R + 1, 1, none⟩ (.int .i64 sq.e0)).setCell ⟨R + 1, 2, none⟩ (.int .i64 sq.e1)).setCell ⟨R + 1, 3, none⟩ (.int .i64 sq.e2)).setCell ⟨R + 1, 4, none⟩ (.int .i64 sq.e3)) = W6 at *
      have HP7 : Hid (∀ o, PlayI wb R (R + 1) cs sq (.slice a5 k q5) (W6.alloc o)) := Lib.hid (fun o => HP6.out.grow ((Ext.refl _).alloc o))
      have r0 := HP6.out.r0
      have hlen := hcl.out
      have HLN := Lib.hid hlen
      clear hlen
      go_wp2_with (at_builtin; refine wpList_append_own_at _ rfl _ _ 22 rfl (R + 1 + 1) 3 i1 (.int .i64 0) 1 8 Try.underlying22 hi1 hz10 hz11 hz12 rfl (by decide) (.slice a5 k q5) k (cs.map (.int .i64)) rfl ?own ⟨W6.heap.size, 0, none⟩ 1 1 [.int .i64 st] rfl rfl (cell_one_new _ _ _) ?one ?f1 ?f2 ?f3 ?next)
      case own => have := (HP7.out (.cells #[.int .i64 st] 3)).own; rw [HLN.out] at this; exact this
      case one => first | rfl | (intro u hu; simp at hu; subst hu; rfl)
      case f1 => simp only [maxLen]; omega
      case f2 => omega
      case f3 => have := HP6.out.lt; simp; omega
      case next =>
        intro v' w7 hown hgrow hnil hat
        have hp7 := HP7.out (.cells #[.int .i64 st] 3)
        have hne : some R ≠ (Value.slice a5 k q5).ownBlock := fun e => by have := (own_lt hp7.own e.symm).1; omega
        have c7 := hgrow.cell hp7.r0 hne
        have f7 : w7.frozen? ⟨R, 0, none⟩ = false := (World.frozen?_of_block (w := W6.alloc (.cells #[.int .i64 st] 3)) (hgrow.block R (by have := hp7.lt; omega) hne)).trans (hp7.fr 0)
        have hp8 := hp7.app (n := st) hgrow (by rw [HLN.out]; exact hown)
        have HP8 := Lib.hid hp8
        clear hp8 hp7 hnil hat hgrow hne
        rcases own_open hown with ⟨-, h0⟩ | ⟨g, cap, rfl, -, -, -, -⟩
        · omega
        · clear hown
          go_wp2_with fail
          go_roundw
          case rel => exact ⟨k + 1, _, _, by omega, by go_num, by rw [← hct.out, ← hsm.out]; exact Lib.hid ⟨HP8.out, hsn.out⟩⟩
          case measure => simp [intOf]; omega
    · have ek : k = c.flds.length := by omega
      subst ek
      have hp := HP.out
      rw [List.take_length, List.take_of_length_le (by have := HLEN.out; omega)] at hp
      obtain ⟨hp1, hp2⟩ := hp
      have HP1 := Lib.hid hp1
      have hfe := Lib.hid (fun w' => HFE.out _ w' hp2)
      have HSQ : Hid (sumT c c.flds t = sumT c c.flds t) := Lib.hid rfl
      have hcl := Lib.hid (countsT_len HLEN.out)
      have hbd : Hid (∀ x ∈ countsT c.flds t, i64ok x) := Lib.hid (fun x hx => by
        unfold countsT at hx
        obtain ⟨p, hp, rfl⟩ := List.mem_map.1 hx
        obtain ⟨i, hi, he⟩ := List.getElem_of_mem hp
        have h1 : i < c.flds.length := by simp at hi; omega
        have h2 : i < t.length := by simp at hi; omega
        have := HB.out i h1 h2
        rw [← he]
        simpa using this)
      clear HP hp1 hp2 HST HPL HSN HB HPY HSQ
      have X := X2.trans HP1.out.ext
      have hlR := HP1.out.lt
      have hRR := HRR.out
      have hwR : w.heap.size + 1 < R := by have := lt_of_cell HZ.out.1; simp only at this; omega
      have HGO := Lib.hid (And.intro HP1.out.own (And.intro HCL.out HTC.out))
      have hex := HP1.out.ext
      obtain ⟨-, r0, r1, r2, r3, s0, s1, s2, s3, s4, fr, fs, -, -, -⟩ := HP1.out
      have q2 := hex.keep q2
      have HZ' : Hid (wo.cell? ⟨w.heap.size + 1, 0, none⟩ = some (.slice none 0 0) ∧ wo.cell? ⟨w.heap.size + 1, 1, none⟩ = some (.int .i64 0) ∧ wo.cell? ⟨w.heap.size + 1, 2, none⟩ = some (.int .i64 0) ∧ wo.cell? ⟨w.heap.size + 1, 3, none⟩ = some (.int .i64 0) ∧ ∀ o, wo.frozen? ⟨w.heap.size + 1, o, none⟩ = false) :=
        Lib.hid ⟨hex.keep HZ.out.1, hex.keep HZ.out.2.1, hex.keep HZ.out.2.2.1, hex.keep HZ.out.2.2.2.1, fun o => (hex.frozen (lt_of_cell HZ.out.1)).trans (HZ.out.2.2.2.2 o)⟩
      clear q0 q1 q3 HCL HTC hex HP1 HZ HP0
      generalize hsm : sumT c c.flds t = sm at *
      have HSM := Lib.hid hsm
      clear hsm
      have hfe2 := hfe.out
      simp only [Sm.v] at hfe2
      have HFE2 := Lib.hid hfe2
      clear hfe hfe2 HFE
      generalize hfa : feeA c.fee sm = fa at *
      generalize hfb : feeB c.fee sm = fb at *
      have HFA := Lib.hid hfa
      have HFB := Lib.hid hfb
      clear hfa hfb
      go_wp2_with fail
      (with_reducible refine (HFE2.out _).mono ?_)
      rintro e w9 ⟨rfl, hx9⟩
      have k0 := hx9.keep (sc_ne (v := .int .i64 sm.award) (b' := R) (i' := 1) (.inr (by decide)) r0)
      have k1 := hx9.keep (sc_eq (v := .int .i64 sm.award) r1)
      have k2 := hx9.keep (sc_ne (v := .int .i64 sm.award) (b' := R) (i' := 1) (.inr (by decide)) r2)
      have k3 := hx9.keep (sc_ne (v := .int .i64 sm.award) (b' := R) (i' := 1) (.inr (by decide)) r3)
      have hne : w.heap.size + 1 ≠ R := by omega
      have z0 := hx9.keep (sc_ne (v := .int .i64 sm.award) (b' := R) (i' := 1) (.inl hne) HZ'.out.1)
      have z1 := hx9.keep (sc_ne (v := .int .i64 sm.award) (b' := R) (i' := 1) (.inl hne) HZ'.out.2.1)
      have z2 := hx9.keep (sc_ne (v := .int .i64 sm.award) (b' := R) (i' := 1) (.inl hne) HZ'.out.2.2.1)
      have z3 := hx9.keep (sc_ne (v := .int .i64 sm.award) (b' := R) (i' := 1) (.inl hne) HZ'.out.2.2.2.1)
      have fr9 : ∀ o, w9.frozen? ⟨R, o, none⟩ = false := fun o => (hx9.frozen (by rw [World.size_setCell]; omega)).trans (by rw [World.frozen?_setCell]; exact fr o)
      have fz9 : ∀ o, w9.frozen? ⟨w.heap.size + 1, o, none⟩ = false := fun o => (hx9.frozen (by rw [World.size_setCell]; omega)).trans (by rw [World.frozen?_setCell]; exact HZ'.out.2.2.2.2 o)
      have own9 := own_keep (own_set (i := 1) (x := .int .i64 sm.award) HGO.out.1 (show R < R + 1 + 1 by omega)) (fun g hg => hx9.heap (own_lt (own_set HGO.out.1 (show R < R + 1 + 1 by omega)) hg).2)
      have X9 : Ext w w9 := (X.setCell (by omega) _).trans hx9
      have HOW := Lib.hid own9
      clear own9 r0 r1 r2 r3 s0 s1 s2 s3 s4 fr fs q2 HZ' hx9
      go_wp2_with fail
      refine bodyPost_ret (v := .tuple #[.agg #[.slice a5 c.flds.length q5, .int .i64 sm.award, .int .i64 fa, .int .i64 fb], .int .i64 0]) (by simp [results, Try.results4, go_sem, z0, z1, z2, z3]) rfl ?_
      refine ⟨_, rfl, a5, q5, ?_, ?_, fun g o hg => ?_, ?_⟩
      · rw [HSM.out, HFA.out, HFB.out]
      · have hb1 : R < R + 1 + 1 := by omega
        have hb2 : w.heap.size + 1 < R + 1 + 1 := by omega
        refine own_intsV (own_set (own_set (own_set (own_set (own_set (own_set HOW.out hb1) hb1) hb2) hb2) hb2) hb2) rfl rfl hbd.out ?_
        have := hcl.out
        omega
      · subst hg
        have := (own_lt HOW.out (g := g) rfl).1
        omega
      · exact (((((X9.setCell (by omega) _).setCell (by omega) _).setCell (by omega) _).setCell (by omega) _).setCell (by omega) _).setCell (by omega) _

theorem Play_good (c : Cas) (v : Value) (t : List Thr) (vt : Value) (w : World) (hv : CasV w v c) (ht : ThrsV w vt t) (h : playE c t = 0) :
    Calls Try.prog 4 #[v, vt] w fun e w' => ∃ r, e = .returned (.tuple #[r, .int .i64 0]) ∧ PlayV c t w w' r :=
  (Play_new c v t vt w hv ht h).mono (fun e w' ⟨r, he, a, q, hr, h1, _, h2⟩ => ⟨r, he, a, q, hr, h1, h2⟩)

theorem PlayV.ext {c : Cas} {t : List Thr} {w0 w w' : World} {v : Value} (h : PlayV c t w0 w v) (hx : Ext w w') : PlayV c t w0 w' v := by
  obtain ⟨a, q, he, h1, h2⟩ := h
  exact ⟨a, q, he, h1.ext hx, h2.trans hx⟩

/-- Whether the award is so many pence. -/
def proveB (c : Cas) (t : List Thr) (n : Int) : Bool := (playE c t == 0) && ((sumT c c.flds t).award == n)

set_option maxRecDepth 100000 in
set_option maxHeartbeats 2000000 in
theorem Prove_u (c : Cas) (v : Value) (t : List Thr) (vt : Value) (n : Int) (w : World) (hv : CasV w v c) (ht : ThrsV w vt t) :
    Calls Try.prog 11 #[v, vt, .int .i64 n] w fun e w' => e = .returned (.bool (proveB c t n)) ∧ Ext w w' := by
  have HPB : Hid (proveB c t n = ((playE c t == 0) && ((sumT c c.flds t).award == n))) := rfl
  generalize proveB c t n = pb at *
  by_cases h : playE c t = 0
  · have HP : Hid (∀ w', Ext w w' → Calls Try.prog 4 #[v, vt] w' fun e w'' => ∃ r, e = .returned (.tuple #[r, .int .i64 0]) ∧ PlayV c t w' w'' r) := Lib.hid (fun w' hx => Play_good c v t vt w' (hv.ext hx) (ht.ext hx) h)
    have HPB' : Hid (pb = ((sumT c c.flds t).award == n)) := Lib.hid (by rw [HPB.out, h]; rfl)
    obtain ⟨a1, c1, a2, c2, rfl, -, -, -, -, -⟩ := hv.open
    obtain ⟨a3, c3, rfl, -, -, -⟩ := ht
    clear hv h HPB
    go_enter Try.func11, Try.ntmps11
    go_wp2_with fail
    (with_reducible refine (HP.out _ (by (repeat (first | exact Ext.refl _ | (with_reducible assumption) | (with_reducible refine Ext.drew ?_) | (with_reducible refine Ext.alloc ?_ _) | (with_reducible refine Ext.drewN ?_ _) | (with_reducible refine Ext.setCell ?_ (by omega) _) | (with_reducible refine Ext.trans ?_ (by with_reducible assumption)))))).mono ?_)
    rintro e w1 ⟨r, rfl, a, q, rfl, -, hx1⟩
    generalize (sumT c c.flds t).award = aw at *
    cases hb : (aw == n) with
    | false =>
      obtain rfl : pb = false := by rw [HPB'.out, hb]
      clear HPB'
      go_wp2_with fail
      go_ret
      exact ⟨rfl, by (repeat (first | exact Ext.refl _ | (with_reducible assumption) | (with_reducible refine Ext.drew ?_) | (with_reducible refine Ext.alloc ?_ _) | (with_reducible refine Ext.drewN ?_ _) | (with_reducible refine Ext.setCell ?_ (by omega) _) | (with_reducible refine Ext.trans ?_ (by with_reducible assumption))))⟩
    | true =>
      obtain rfl : pb = true := by rw [HPB'.out, hb]
      clear HPB'
      go_wp2_with fail
      go_ret
      exact ⟨rfl, by (repeat (first | exact Ext.refl _ | (with_reducible assumption) | (with_reducible refine Ext.drew ?_) | (with_reducible refine Ext.alloc ?_ _) | (with_reducible refine Ext.drewN ?_ _) | (with_reducible refine Ext.setCell ?_ (by omega) _) | (with_reducible refine Ext.trans ?_ (by with_reducible assumption))))⟩
  · have HP : Hid (∀ w', Ext w w' → Calls Try.prog 4 #[v, vt] w' fun e w'' => e = .returned (.tuple #[zeroR, .int .i64 (playE c t)]) ∧ Ext w' w'') := Lib.hid (fun w' hx => Play_bad c v t vt w' (hv.ext hx) (ht.ext hx) h)
    obtain rfl : pb = false := by rw [HPB.out]; simp [h]
    have hd : (playE c t == 0) = false := by simp [h]
    obtain ⟨a1, c1, a2, c2, rfl, -, -, -, -, -⟩ := hv.open
    obtain ⟨a3, c3, rfl, -, -, -⟩ := ht
    unfold zeroR at HP
    clear hv h HPB
    generalize playE c t = pe at *
    go_enter Try.func11, Try.ntmps11
    go_wp2_with fail
    (with_reducible refine (HP.out _ (by (repeat (first | exact Ext.refl _ | (with_reducible assumption) | (with_reducible refine Ext.drew ?_) | (with_reducible refine Ext.alloc ?_ _) | (with_reducible refine Ext.drewN ?_ _) | (with_reducible refine Ext.setCell ?_ (by omega) _) | (with_reducible refine Ext.trans ?_ (by with_reducible assumption)))))).mono ?_)
    rintro e w1 ⟨rfl, hx1⟩
    go_wp2_with fail
    go_ret
    exact ⟨rfl, by (repeat (first | exact Ext.refl _ | (with_reducible assumption) | (with_reducible refine Ext.drew ?_) | (with_reducible refine Ext.alloc ?_ _) | (with_reducible refine Ext.drewN ?_ _) | (with_reducible refine Ext.setCell ?_ (by omega) _) | (with_reducible refine Ext.trans ?_ (by with_reducible assumption))))⟩
end Go.Proofs.Ytedblocbcjoolaa

/- Contracts of layer 7: the flags of all counts that a field can have. -/
namespace Go.Hs
open Go.RowKit
section
variable {F : Fence} {n : Nat} {P : Program} {w : World} {ops : Array Oper} {rest : List Oper} {o : Oper} {a : Act} {Q : Exit → Act → World → Prop}
/-- A load whose result is known. -/
theorem stepIn_load (hg : o.guard = none) (T : TypeId) (x : Operand) (hop : o.op = .load T x) (v p : Value) (hx : a.eval x = p) (hr : (Instr.loadAt T p).run P w = .ok v w)
    (h : wpListIn F n P ops Q rest (a.put o.dst v) w) : wpListIn F n P ops Q (o :: rest) a w := by
  refine wpListIn_plain hg fun K' hK' => ?_
  unfold Oper.wpIn
  refine ⟨by simp [Oper.about, hop], ?_⟩
  rw [Oper.semAt_plain F _ _ (by rw [hop]; intro c hc'; cases hc')]
  simp [execOp, hop, hx, hr, Result.andThen]
  exact hK' _ _ h
/-- A store whose outcome is known. -/
theorem stepIn_store (hg : o.guard = none) (T : TypeId) (x y : Operand) (hop : o.op = .store T x y) (p v : Value) (w' : World) (hx : a.eval x = p) (hy : a.eval y = v) (hr : (Instr.storeAt T p v).run P w = .ok () w')
    (h : wpListIn F n P ops Q rest (a.put o.dst undef) w') : wpListIn F n P ops Q (o :: rest) a w := by
  refine wpListIn_plain hg fun K' hK' => ?_
  unfold Oper.wpIn
  refine ⟨by simp [Oper.about, hop], ?_⟩
  rw [Oper.semAt_plain F _ _ (by rw [hop]; intro c hc'; cases hc')]
  simp [execOp, hop, hx, hy, hr, Result.andThen]
  exact hK' _ _ h
end
theorem results_load {P : Program} {fn : Func} {p : Tmp} {ty : TypeId} (h : fn.results = #[.cell p ty]) (tmps : Array Value) (w : World) (q : Addr) (v : Value) (hp : tmps.getD p undef = .pointer (some q)) (hl : (loadVar ty q).run P w = .ok v w) :
    (results fn tmps).run P w = .ok v w := by
  have hp' : tmps[p]?.getD undef = .pointer (some q) := by simpa using hp
  simp [results, h, hp', asAddr, hl]
/-- The flags of a row of cells. -/
def BitsAt (b N : Nat) (g : Nat → Bool) (W : World) : Prop := ∀ j, j < N → W.cell? ⟨b, j, none⟩ = some (.bool (g j))
theorem BitsAt.below {b N n : Nat} {g : Nat → Bool} {w w' : World} (h : BitsAt b N g w) (hx : Below n w w') (hb : b < n) : BitsAt b N g w' := fun j hj => (hx.cell (p := ⟨b, j, none⟩) hb).trans (h j hj)
theorem BitsAt.ext {b N : Nat} {g : Nat → Bool} {w w' : World} (h : BitsAt b N g w) (hx : Ext w w') : BitsAt b N g w' := fun j hj => hx.keep (h j hj)
def bitsV (N : Nat) (g : Nat → Bool) : List Value := (List.range N).map (fun j => .bool (g j))
theorem bitsV_len (N : Nat) (g : Nat → Bool) : (bitsV N g).length = N := by simp [bitsV]
theorem BitsAt.range {b N : Nat} {g : Nat → Bool} {w : World} (h : BitsAt b N g w) : w.rangeAt b 0 (bitsV N g) := fun j v hv => by
  have hj : j < N := by
    have := (List.getElem?_eq_some_iff.1 hv).1
    rwa [bitsV_len] at this
  have e : v = .bool (g j) := by simp [bitsV, hj] at hv; exact hv.symm
  subst e
  simpa using h j hj
theorem setCell_same (W : World) (a : Addr) (v : Value) (h : W.cell? a = some v) : W.setCell a v = W := by
  obtain ⟨heap, tape, drawn, os, output⟩ := W
  unfold World.setCell
  simp only [World.mk.injEq, and_true]
  apply Array.ext_getElem?
  intro i
  rw [Array.getElem?_modify]
  split
  · rename_i e
    subst e
    unfold World.cell? at h
    simp only at h
    cases ho : heap[a.block]? with
    | none => rfl
    | some o =>
      rw [ho] at h
      cases o with
      | cells c e f =>
        simp only at h
        split at h
        · cases h
        · rename_i hsp
          simp only [Option.map_some, hsp, Bool.false_eq_true, if_false, Option.some.injEq, Obj.cells.injEq, and_true]
          apply Array.ext_getElem?
          intro k
          rw [Array.getElem?_setIfInBounds]
          split
          · rename_i e; subst e
            split
            · exact h.symm
            · rename_i hlt; rw [Array.getElem?_eq_none (by omega)] at h; cases h
          · rfl
      | _ => cases h
  · rfl
/-- What lies there is stored there. -/
theorem setCells_same (b : Nat) : ∀ (vs : List Value) (o : Nat) (W : World), W.rangeAt b o vs → W.setCells b o vs = W
  | [], _, _, _ => rfl
  | v :: vs, o, W, h => by
    rw [World.setCells]
    have h0 : W.cell? ⟨b, o, none⟩ = some v := by simpa using h 0 v rfl
    rw [setCell_same W _ v h0]
    exact setCells_same b vs (o + 1) W (fun j u hu => by
      have := h (j + 1) u (by simpa using hu)
      rw [show o + 1 + j = o + (j + 1) by omega]; exact this)
end Go.Hs

/- Contracts of layer 7: the flags of all counts that a field can have. -/
namespace Go.Hs
open Go.RowKit
def seenB (f : Fld) (n : Nat) (j : Nat) : Bool := (List.range n).any (fun i => settledS f (truthAt f i) == (j : Int))
theorem seenB_zero (f : Fld) : seenB f 0 = fun _ => false := rfl
theorem seenB_next (f : Fld) (n m : Nat) (h : settledS f (truthAt f n) = (m : Int)) (j : Nat) : seenB f (n + 1) j = (seenB f n j || m == j) := by
  unfold seenB
  rw [List.range_succ, List.any_append]
  simp only [List.any_cons, List.any_nil, Bool.or_false, h]
  congr 1
  rw [Bool.eq_iff_iff]; simp only [beq_iff_eq]; omega
theorem seenB_all (f : Fld) : seenB f (truthsN f) = isCount f := by
  funext j
  unfold seenB isCount truthsS
  rw [List.any_map]; rfl
/-- What a field that is valid has to be for 'settle'. -/
structure FldR (f : Fld) : Prop where
  near : 0 ≤ f.near ∧ f.near ≤ 100
  a : 0 ≤ f.alo ∧ f.alo ≤ f.ahi ∧ f.ahi ≤ 100
  b : 0 ≤ f.blo ∧ f.blo ≤ f.bhi ∧ f.bhi ≤ 100
  u : 0 ≤ f.ulo ∧ f.ulo ≤ f.uhi ∧ f.uhi ≤ 100
theorem FldOK.r {l : List Tar} {f : Fld} (h : FldOK l f) : FldR f := ⟨h.near, ⟨h.a.1, h.a.2.1, h.a.2.2.1⟩, ⟨h.b.1, h.b.2.1, h.b.2.2.1⟩, ⟨h.u.1, h.u.2.1, h.u.2.2.1⟩⟩
theorem truthAt_ok {f : Fld} {n : Nat} (h : n < truthsN f) : ThrOK f (truthAt f n) := mem_truths.1 (by unfold truthsS; exact List.mem_map.2 ⟨n, List.mem_range.2 h, rfl⟩)
theorem Cell9.below {w w' : World} {b n : Nat} {x : V9} (h : Cell9 w b 0 x) (hx : Below n w w') (hb : b < n) : Cell9 w' b 0 x := by
  obtain ⟨h0, h1, h2, h3, h4, h5, h6, h7, h8⟩ := h
  have k : ∀ o, w'.cell? ⟨b, o, none⟩ = w.cell? ⟨b, o, none⟩ := fun o => hx.cell (p := ⟨b, o, none⟩) hb
  exact ⟨by rw [k]; exact h0, by rw [k]; exact h1, by rw [k]; exact h2, by rw [k]; exact h3, by rw [k]; exact h4, by rw [k]; exact h5, by rw [k]; exact h6, by rw [k]; exact h7, by rw [k]; exact h8⟩
theorem Below.froz {w w' : World} {b n o : Nat} (hx : Below n w w') (hb : b < n) : w'.frozen? ⟨b, o, none⟩ = w.frozen? ⟨b, o, none⟩ := World.frozen?_of_block (w := w) (hx.block b hb)
/-- What holds between two rounds of 'settled'. -/
structure SetI (w : World) (B : Nat) (f : Fld) (n : Nat) (W : World) : Prop where
  ext : Ext w W
  fc : Cell9 W B 0 f.c
  tr : Cell9 W (B + 2) 0 f.c
  bits : BitsAt (B + 1) 101 (seenB f n) W
  fr : ∀ o, W.frozen? ⟨B + 1, o, none⟩ = false
  s : B + 3 ≤ W.heap.size
theorem SetI.below {w : World} {B n D : Nat} {f : Fld} {W W' : World} (h : SetI w B f n W) (hx : Below D W W') (h1 : w.heap.size ≤ D) (h2 : B + 3 ≤ D) : SetI w B f n W' :=
  ⟨Below.trans h.ext (hx.mono h1), h.fc.below hx (by omega), h.tr.below hx (by omega), h.bits.below hx (by omega), fun o => (Below.froz hx (by omega)).trans (h.fr o), Nat.le_trans h.s hx.size⟩
theorem SetI.set {w : World} {B n m : Nat} {f : Fld} {W : World} (h : SetI w B f n W) (hw : w.heap.size ≤ B + 1) (hm : settledS f (truthAt f n) = (m : Int)) : SetI w B f (n + 1) (W.setCell ⟨B + 1, m, none⟩ (.bool true)) := by
  have k : ∀ b o v, b ≠ B + 1 → W.cell? ⟨b, o, none⟩ = some v → (W.setCell ⟨B + 1, m, none⟩ (.bool true)).cell? ⟨b, o, none⟩ = some v := fun b o v hb hc => sc_ne (.inl hb) hc
  have k9 : ∀ b, b ≠ B + 1 → Cell9 W b 0 f.c → Cell9 (W.setCell ⟨B + 1, m, none⟩ (.bool true)) b 0 f.c := fun b hb ⟨h0, h1, h2, h3, h4, h5, h6, h7, h8⟩ =>
    ⟨k _ _ _ hb h0, k _ _ _ hb h1, k _ _ _ hb h2, k _ _ _ hb h3, k _ _ _ hb h4, k _ _ _ hb h5, k _ _ _ hb h6, k _ _ _ hb h7, k _ _ _ hb h8⟩
  refine ⟨h.ext.setCell hw _, k9 _ (by omega) h.fc, k9 _ (by omega) h.tr, fun j hj => ?_, fun o => by rw [World.frozen?_setCell]; exact h.fr o, by rw [World.size_setCell]; exact h.s⟩
  rw [seenB_next f n m hm]
  by_cases e : m = j
  · subst e
    simp only [beq_self_eq_true, Bool.or_true]
    exact sc_eq (h.bits m hj)
  · have : (m == j) = false := by simp [e]
    rw [this, Bool.or_false]
    exact sc_ne (.inr (Ne.symm e)) (h.bits j hj)
end Go.Hs
namespace Go.Proofs.Ytedblocbcjoolaa
open Go.RowKit Go.Hs
attribute [local irreducible] World.setCell World.alloc
theorem zero101 : Try.zeroCells72 = Array.replicate 101 (.bool false) := by kernel_rfl
theorem size101 : (Try.prog.info? 72).map (·.size) = some 101 := by kernel_rfl
theorem setI_start (w : World) (f : Fld) :
    SetI w w.heap.size f 0 (((w.alloc (.cells #[f.c.c0, f.c.c1, f.c.c2, f.c.c3, f.c.c4, f.c.c5, f.c.c6, f.c.c7, f.c.c8] 46)).alloc (.cells Try.zeroCells72 72)).alloc
      (.cells #[f.c.c0, f.c.c1, f.c.c2, f.c.c3, f.c.c4, f.c.c5, f.c.c6, f.c.c7, f.c.c8] 46)) := by
  refine ⟨by (repeat (first | exact Ext.refl _ | (with_reducible assumption) | (with_reducible refine Ext.drew ?_) | (with_reducible refine Ext.alloc ?_ _) | (with_reducible refine Ext.drewN ?_ _) | (with_reducible refine Ext.setCell ?_ (by omega) _) | (with_reducible refine Ext.trans ?_ (by with_reducible assumption)))), ?_, ?_, fun j hj => ?_, fun o => by simp [go_sem], by simp⟩
  · refine ⟨?_, ?_, ?_, ?_, ?_, ?_, ?_, ?_, ?_⟩ <;> simp [go_sem]
  · refine ⟨?_, ?_, ?_, ?_, ?_, ?_, ?_, ?_, ?_⟩ <;> simp [go_sem]
  · rw [seenB_zero]
    refine ((Ext.refl _).alloc _).keep ?_
    rw [zero101]
    have h := cell_of_row ((w.alloc (.cells #[f.c.c0, f.c.c1, f.c.c2, f.c.c3, f.c.c4, f.c.c5, f.c.c6, f.c.c7, f.c.c8] 46)).alloc (.cells (Array.replicate 101 (.bool false)) 72)) (w.heap.size + 1) j (Array.replicate 101 (.bool false)) 72 (0, 0)
      (by have := World.alloc_heap_new (w.alloc (.cells #[f.c.c0, f.c.c1, f.c.c2, f.c.c3, f.c.c4, f.c.c5, f.c.c6, f.c.c7, f.c.c8] 46)) (.cells (Array.replicate 101 (.bool false)) 72); rwa [World.size_alloc] at this)
    rw [h]
    simp [hj]
attribute [local go_sem] Oper.semAt_some
attribute [local simp] wide_fn wide_fn' wide_depth wide_round
attribute [local go_sem] wide_fn wide_fn' wide_depth wide_round

set_option maxRecDepth 100000 in
set_option maxHeartbeats 4000000 in
theorem settled_u (f : Fld) (hf : FldR f) (w : World) :
    CallsIn Fence.wide 0 Try.prog 22 #[f.c.val] w fun e w' => e = .returned (.agg (bitsV 101 (isCount f)).toArray) ∧ Ext w w' := by
  have hst : ∀ n, n < truthsN f → ∃ m : Nat, settledS f (truthAt f n) = (m : Int) ∧ m < 101 := fun n hn => by
    have hx := truthAt_ok hn
    have := hx.a; have := hx.b; have := hf.a; have := hf.b
    have := settled_bd (f := f) (x := truthAt f n) (by omega) (by omega)
    exact ⟨(settledS f (truthAt f n)).toNat, by omega, by omega⟩
  have HSE : Hid (∀ n, n < truthsN f → ∀ w', Calls Try.prog 17 #[f.c.val, (truthAt f n).c.val] w' fun e w'' => e = .returned (.tuple #[.int .i64 (settledS f (truthAt f n)), .int .i64 (loserS f (truthAt f n))]) ∧ Ext w' w'') :=
    Lib.hid (fun n hn w' => by
      have hx := truthAt_ok hn
      have := hx.a; have := hx.b; have := hx.u; have := hf.a; have := hf.b; have := hf.u
      exact settle_u _ _ hf.near (by omega) (by omega) (by omega) w')
  have HST := Lib.hid hst
  have hgv := fun b => truths_gives b f hf.a hf.b hf.u
  have htr : ∀ W, CallsIn Fence.wide 0 Try.prog 23 #[f.c.val] W _ := fun W => callsIn_wide.2 (truths_u f W)
  have hlen := truthsV_len f
  refine callsIn_of_wp_marks Try.func22 rfl trivial ?_ rfl
  simp only [Try.ntmps22, List.size_toArray, List.length_cons, List.length_nil, Nat.reduceAdd, Nat.reduceSub, Array.replicate_succ, Array.replicate_zero, List.push_toArray, List.append_toArray, List.nil_append, List.cons_append]
  obtain ⟨fc, hfc⟩ : ∃ fc, fc = f.c := ⟨_, rfl⟩
  have HFC := Lib.hid hfc
  rw [← hfc] at htr ⊢
  clear hfc hst
  gi_wp2_with (gi_at_call 23; (with_reducible refine (htr _).mono ?_); rintro e w' ⟨rfl, rfl⟩)
  subst_vars
  have H0 := setI_start w f
  generalize (((w.alloc (.cells #[f.c.c0, f.c.c1, f.c.c2, f.c.c3, f.c.c4, f.c.c5, f.c.c6, f.c.c7, f.c.c8] 46)).alloc (.cells Try.zeroCells72 72)).alloc
      (.cells #[f.c.c0, f.c.c1, f.c.c2, f.c.c3, f.c.c4, f.c.c5, f.c.c6, f.c.c7, f.c.c8] 46)) = W0 at *
  have hs0 := H0.s
  have hsw : w.heap.size ≤ W0.heap.size := by omega
  refine each_outer (vs := truthsV f) (K := fun W => Cell9 W (w.heap.size + 2) 0 f.c) (by rfl) fn_truths1 (by rfl) (fun i W' => SetI w w.heap.size f i W') (fun _ _ => False) (hgv _) (fun i W' h => h.tr)
    (fun i A B h hx => h.below hx hsw hs0) (fun c A B h hx => h) H0 ?hround ?hdone ?hstop
  case hround =>
    intro i hi W1 hj hs
    rw [truthsV_get]
    have hiN : i < truthsN f := by omega
    obtain ⟨m, hm, hm1⟩ := HST.out i hiN
    have hse := HSE.out i hiN
    rw [hm] at hse
    have hset := fun W (h : SetI w w.heap.size f i W) => h.set (by omega) hm
    have HSET := Lib.hid hset
    have HJ := Lib.hid hj
    clear hset hm H0 hj HST HSE
    generalize loserS f (truthAt f i) = lo at *
    generalize truthAt f i = x at *
    obtain ⟨A, B, U⟩ := x
    simp only [Thr.c] at *
    simp only [Array.zip_eq_zipWith]
    gi_wp2_with fail
    refine ⟨Kept.ext (by (repeat (first | exact Ext.refl _ | (with_reducible assumption) | (with_reducible refine Ext.drew ?_) | (with_reducible refine Ext.alloc ?_ _) | (with_reducible refine Ext.drewN ?_ _) | (with_reducible refine Ext.setCell ?_ (by omega) _) | (with_reducible refine Ext.trans ?_ (by with_reducible assumption))))), fun W2 hT _ => ?_⟩
    have BA : Below W0.heap.size W1 W2 := (((Ext.refl W1).alloc (.cells #[.int .i64 A, .int .i64 B, .int .i64 U] 62)).mono (by omega)).trans (hT.below (by omega))
    have J2 := HJ.out.below BA hsw hs0
    have x0 : W2.cell? ⟨W1.heap.size, 0, none⟩ = some (.int .i64 A) := hT.cell (by omega) (by simp)
    have x1 : W2.cell? ⟨W1.heap.size, 1, none⟩ = some (.int .i64 B) := hT.cell (by omega) (by simp)
    have x2 : W2.cell? ⟨W1.heap.size, 2, none⟩ = some (.int .i64 U) := hT.cell (by omega) (by simp)
    obtain ⟨f0, f1, f2, f3, f4, f5, f6, f7, f8⟩ := J2.fc
    simp only [Nat.zero_add] at f0 f1 f2 f3 f4 f5 f6 f7 f8
    have HJ2 := Lib.hid J2
    have HSEI : Hid (∀ W, CallsIn (Fence.wide.inRound (W0.heap.size + 1)) 0 Try.prog 17 #[f.c.val, .agg #[.int .i64 A, .int .i64 B, .int .i64 U]] W fun e w'' => e = .returned (.tuple #[.int .i64 m, .int .i64 lo]) ∧ Ext W w'') := Lib.hid (fun W => CallsIn.inRound _ (callsIn_wide.2 (hse W)))
    clear J2 hT BA hse
    gi_wp2_with (gi_at_call 17; (with_reducible refine (HSEI.out _).mono ?_); rintro e w3 ⟨rfl, hx3⟩; have J3 := Lib.hid (HJ2.out.below (D := W2.heap.size) hx3 (HJ2.out.ext.size) (HJ2.out.s)); have hb := J3.out.bits m hm1; have hfr := J3.out.fr)
    refine ⟨?_, HSET.out _ J3.out⟩
    have hk : Kept W0.heap.size W2 w3 := Kept.ext hx3
    exact ⟨by rw [World.size_setCell]; exact hk.1, fun k hk1 hk2 => (Below.heap_setCell _ _ _ _ (show k ≠ w.heap.size + 1 by omega)).trans (hk.2 k hk1 hk2)⟩
  case hdone =>
    intro W3 hj hd
    rw [hlen] at hj
    have HB := hj.bits
    rw [seenB_all] at HB
    have hr := HB.range
    have hl : ∀ (W : World), W.rangeAt (w.heap.size + 1) 0 (bitsV 101 (isCount f)) → (Instr.loadAt 72 (.pointer (some ⟨w.heap.size + 1, 0, none⟩))).run Try.prog W = .ok (.agg (bitsV 101 (isCount f)).toArray) W := fun W h =>
      run_loadAt_mid W _ _ 72 _ _ h Try.underlying72 rfl (by rw [bitsV_len]; exact size101)
    have hst : (Instr.storeAt 72 (.pointer (some ⟨w.heap.size + 1, 0, none⟩)) (.agg (bitsV 101 (isCount f)).toArray)).run Try.prog W3 = .ok () W3 := by
      have := run_storeAt_mid (P := Try.prog) W3 (w.heap.size + 1) 0 72 (bitsV 101 (isCount f)).toArray (fun j hj' => by
        have hj2 : j < 101 := by simpa [bitsV] using hj'
        have hc := HB j hj2
        simp only [Nat.zero_add]
        exact ⟨by rw [hc]; rfl, hj.fr j⟩) (by rw [List.size_toArray, bitsV_len]; exact size101) (all_oneCell_toArray (fun v hv => by
        unfold bitsV at hv
        obtain ⟨j, -, rfl⟩ := List.mem_map.1 hv
        rfl))
      rw [this, show (bitsV 101 (isCount f)).toArray.toList = bitsV 101 (isCount f) by simp, setCells_same _ _ _ _ hr]
    have hl3 := hl W3 hr
    have hX := hj.ext
    have hlv : (loadVar 72 ⟨w.heap.size + 1, 0, none⟩).run Try.prog (W3.putObj W0.heap.size (.deferred none)) = .ok (.agg (bitsV 101 (isCount f)).toArray) (W3.putObj W0.heap.size (.deferred none)) :=
      run_loadVar_mid _ _ _ 72 _ _ ((HB.below (Turned.below (Turned.put W3 W0.heap.size (.deferred none)) (Nat.le_refl _)) (by omega)).range) Try.underlying72 rfl (by rw [bitsV_len]; exact size101)
    have hXX : Ext w (W3.putObj W0.heap.size (.deferred none)) := Below.trans hX ((Turned.below (Turned.put W3 W0.heap.size (.deferred none)) (Nat.le_refl _)).mono hsw)
    generalize hbv : bitsV 101 (isCount f) = bv at *
    have HBV := Lib.hid hbv
    clear hbv
    clear hl HB hr hj
    gi_wp2_with (first | refine stepIn_load rfl 72 _ rfl _ _ rfl hl3 ?_ | refine stepIn_store rfl 72 _ _ rfl _ _ _ rfl rfl hst ?_)
    refine ⟨by simp, .inl ⟨_, _, rfl, run_takeDeferred hd, ?_⟩⟩
    exact ⟨_, results_load rfl _ _ _ _ rfl hlv, by rw [HBV.out], hXX⟩
  case hstop => exact fun c W h _ => h.elim
end Go.Proofs.Ytedblocbcjoolaa

/- Contracts of layer 7: all counts of a field. -/
namespace Go.Hs
open Go.RowKit
/-- An index into an array whose outcome is known. -/
theorem step_index {P : Program} {w : World} {ops : Array Oper} {rest : List Oper} {o : Oper} {a : Act} {Q : Exit → Act → World → Prop} (hg : o.guard = none) (T : TypeId) (x i : Operand) (hop : o.op = .index T x i) (p q v : Value)
    (hx : a.eval x = p) (hi : a.eval i = q) (hr : (Instr.index T p q).run P w = .ok v w) (h : wpList P ops Q rest (a.put o.dst v) w) : wpList P ops Q (o :: rest) a w :=
  wpList_plain hg fun _ hK => by
    unfold Oper.wp execOp
    simp only [hop, hx, hi, hr, Sem.run_bind, Sem.run_pure, Result.andThen_ok]
    exact hK _ _ h
def askF (e : Int) (n : Nat) (k : Int) : Int := if e ≠ 0 then e else if inR k 0 ((n : Int) - 1) then 0 else 2
/-- The error of a question about a field. -/
def askE (c : Cas) (k : Int) : Int := askF (caseE c) c.flds.length k
theorem askE_zero {c : Cas} {k : Int} (h : askE c k = 0) : caseE c = 0 ∧ 0 ≤ k ∧ k < c.flds.length := by
  unfold askE askF at h
  split at h
  · rename_i h0; exact absurd h h0
  · rename_i h0
    split at h
    · rename_i h1
      rw [inR_iff] at h1
      exact ⟨by omega, by omega, by omega⟩
    · omega
/-- A list of numbers up to k that meet a test. -/
def upto (p : Nat → Bool) (k : Nat) : List Int := ((List.range k).filter p).map (fun i : Nat => (i : Int))
theorem upto_yes {p : Nat → Bool} {k : Nat} (h : p k = true) : upto p (k + 1) = upto p k ++ [(k : Int)] := by
  unfold upto
  rw [List.range_succ, List.filter_append, List.map_append]
  simp [h]
theorem upto_no {p : Nat → Bool} {k : Nat} (h : p k = false) : upto p (k + 1) = upto p k := by
  unfold upto
  rw [List.range_succ, List.filter_append, List.map_append]
  simp [h]
theorem upto_len (p : Nat → Bool) (k : Nat) : (upto p k).length ≤ k := by
  unfold upto
  rw [List.length_map]
  have := List.length_filter_le p (List.range k)
  simpa using this
theorem upto_mem {p : Nat → Bool} {k : Nat} {x : Int} (h : x ∈ upto p k) : 0 ≤ x ∧ x < k := by
  unfold upto at h
  obtain ⟨i, hi, rfl⟩ := List.mem_map.1 h
  have := List.mem_range.1 (List.mem_filter.1 hi).1
  omega
theorem countsS_upto (f : Fld) : countsS f = upto (isCount f) 101 := rfl
/-- A list of numbers that is being built in a variable. -/
def UpRow (B e : Nat) (p : Nat → Bool) (k : Nat) (v : Value) (W : World) : Prop := W.ownsRow B e 1 v (upto p k).length ((upto p k).map (.int .i64))
theorem UpRow.ext {B e k : Nat} {p : Nat → Bool} {v : Value} {W W' : World} (h : UpRow B e p k v W) (hx : Ext W W') : UpRow B e p k v W' := own_keep h (fun _ hg => hx.heap (own_lt h hg).2)
theorem UpRow.ints {B e k : Nat} {p : Nat → Bool} {v : Value} {W : World} (h : UpRow B e p k v W) (hk : k ≤ 1000) : IntsV W v (upto p k) :=
  own_intsV h rfl rfl (fun x hx => by have := upto_mem hx; unfold i64ok; omega) (by have := upto_len p k; omega)
end Go.Hs
namespace Go.Proofs.Ytedblocbcjoolaa
open Go.RowKit Go.Hs
attribute [local irreducible] World.setCell World.alloc

theorem bitsV_get {N j : Nat} {g : Nat → Bool} (h : j < N) : (bitsV N g)[j]? = some (.bool (g j)) := by simp [bitsV, h]
theorem index_flags (L : List Value) (j : Nat) (b : Bool) (hj : j < 101) (h : L[j]? = some (.bool b)) (w' : World) : (Instr.index 72 (.agg L.toArray) (.int .i64 (j : Int))).run Try.prog w' = .ok (.bool b) w' := by
  simp only [Instr.index, asIntOf, Sem.run_bind, Sem.run_pure, Result.andThen_ok, run_underlying Try.underlying72]
  have h1 : (0 : Int) ≤ (j : Int) ∧ (j : Int) < ((101 : Nat) : Int) := by omega
  rw [if_pos h1]
  simp [go_sem, part, h]

set_option maxRecDepth 100000 in
set_option maxHeartbeats 2000000 in
theorem asked_u (c : Cas) (v : Value) (k : Int) (w : World) (hv : CasV w v c) :
    Calls Try.prog 21 #[v, .int .i64 k] w fun e w' => e = .returned (.int .i64 (askE c k)) ∧ Ext w w' := by
  have HC : Hid (∀ w', Ext w w' → Calls Try.prog 14 #[v] w' fun e w'' => e = .returned (.int .i64 (caseE c)) ∧ Ext w' w'') := Lib.hid (fun w' hx => check_u c v w' (hv.ext hx))
  have HW := Lib.hid (within_u k 0 ((c.flds.length : Int) - 1))
  obtain ⟨a1, c1, a2, c2, rfl, -, -, -, hl1, hl2⟩ := hv.open
  have HE : Hid (askE c k = askF (caseE c) c.flds.length k) := rfl
  clear hv
  generalize caseE c = ce at *
  generalize askE c k = r at *
  by_cases h0 : ce = 0
  · subst h0
    have HE' : Hid (r = if inR k 0 ((c.flds.length : Int) - 1) then 0 else 2) := HE.out
    clear HE
    cases hb : inR k 0 ((c.flds.length : Int) - 1) with
    | false =>
      obtain rfl : r = 2 := by rw [HE'.out, hb]; rfl
      rw [hb] at HW
      clear HE' hb
      go_enter Try.func21, Try.ntmps21
      go_wp2_with fail
      (with_reducible refine (HC.out _ (by (repeat (first | exact Ext.refl _ | (with_reducible assumption) | (with_reducible refine Ext.drew ?_) | (with_reducible refine Ext.alloc ?_ _) | (with_reducible refine Ext.drewN ?_ _) | (with_reducible refine Ext.setCell ?_ (by omega) _) | (with_reducible refine Ext.trans ?_ (by with_reducible assumption)))))).mono ?_)
      rintro e w1 ⟨rfl, hx1⟩
      have q3 := hx1.keep (k := w.heap.size) (o := 3) (v := .slice a2 c.flds.length c2) (by simp [go_sem])
      go_wp2_with fail
      (with_reducible refine (HW.out _).mono ?_)
      rintro e w2 ⟨rfl, hx2⟩
      go_wp2_with fail
      go_ret
      exact ⟨rfl, by (repeat (first | exact Ext.refl _ | (with_reducible assumption) | (with_reducible refine Ext.drew ?_) | (with_reducible refine Ext.alloc ?_ _) | (with_reducible refine Ext.drewN ?_ _) | (with_reducible refine Ext.setCell ?_ (by omega) _) | (with_reducible refine Ext.trans ?_ (by with_reducible assumption))))⟩
    | true =>
      obtain rfl : r = 0 := by rw [HE'.out, hb]; rfl
      rw [hb] at HW
      clear HE' hb
      go_enter Try.func21, Try.ntmps21
      go_wp2_with fail
      (with_reducible refine (HC.out _ (by (repeat (first | exact Ext.refl _ | (with_reducible assumption) | (with_reducible refine Ext.drew ?_) | (with_reducible refine Ext.alloc ?_ _) | (with_reducible refine Ext.drewN ?_ _) | (with_reducible refine Ext.setCell ?_ (by omega) _) | (with_reducible refine Ext.trans ?_ (by with_reducible assumption)))))).mono ?_)
      rintro e w1 ⟨rfl, hx1⟩
      have q3 := hx1.keep (k := w.heap.size) (o := 3) (v := .slice a2 c.flds.length c2) (by simp [go_sem])
      go_wp2_with fail
      (with_reducible refine (HW.out _).mono ?_)
      rintro e w2 ⟨rfl, hx2⟩
      go_wp2_with fail
      go_ret
      exact ⟨rfl, by (repeat (first | exact Ext.refl _ | (with_reducible assumption) | (with_reducible refine Ext.drew ?_) | (with_reducible refine Ext.alloc ?_ _) | (with_reducible refine Ext.drewN ?_ _) | (with_reducible refine Ext.setCell ?_ (by omega) _) | (with_reducible refine Ext.trans ?_ (by with_reducible assumption))))⟩
  · have hd : (ce != 0) = true := by simp [h0]
    obtain rfl : r = ce := by rw [HE.out]; unfold askF; rw [if_pos h0]
    clear HE h0 HW
    go_enter Try.func21, Try.ntmps21
    go_wp2_with fail
    (with_reducible refine (HC.out _ (by (repeat (first | exact Ext.refl _ | (with_reducible assumption) | (with_reducible refine Ext.drew ?_) | (with_reducible refine Ext.alloc ?_ _) | (with_reducible refine Ext.drewN ?_ _) | (with_reducible refine Ext.setCell ?_ (by omega) _) | (with_reducible refine Ext.trans ?_ (by with_reducible assumption)))))).mono ?_)
    rintro e w1 ⟨rfl, hx1⟩
    go_wp2_with fail
    go_ret
    exact ⟨rfl, by (repeat (first | exact Ext.refl _ | (with_reducible assumption) | (with_reducible refine Ext.drew ?_) | (with_reducible refine Ext.alloc ?_ _) | (with_reducible refine Ext.drewN ?_ _) | (with_reducible refine Ext.setCell ?_ (by omega) _) | (with_reducible refine Ext.trans ?_ (by with_reducible assumption))))⟩

set_option maxRecDepth 100000 in
set_option maxHeartbeats 2000000 in
theorem Counts_bad (c : Cas) (v : Value) (k : Int) (w : World) (hv : CasV w v c) (h : askE c k ≠ 0) :
    Calls Try.prog 7 #[v, .int .i64 k] w fun e w' => e = .returned (.tuple #[.slice none 0 0, .int .i64 (askE c k)]) ∧ Ext w w' := by
  have HA : Hid (∀ w', Ext w w' → Calls Try.prog 21 #[v, .int .i64 k] w' fun e w'' => e = .returned (.int .i64 (askE c k)) ∧ Ext w' w'') := Lib.hid (fun w' hx => asked_u c v k w' (hv.ext hx))
  obtain ⟨a1, c1, a2, c2, rfl, -, -, -, hl1, hl2⟩ := hv.open
  have hd : (askE c k != 0) = true := by simp [h]
  clear hv h
  generalize askE c k = r at *
  go_enter Try.func7, Try.ntmps7
  go_wp2_with fail
  (with_reducible refine (HA.out _ (by (repeat (first | exact Ext.refl _ | (with_reducible assumption) | (with_reducible refine Ext.drew ?_) | (with_reducible refine Ext.alloc ?_ _) | (with_reducible refine Ext.drewN ?_ _) | (with_reducible refine Ext.setCell ?_ (by omega) _) | (with_reducible refine Ext.trans ?_ (by with_reducible assumption)))))).mono ?_)
  rintro e w1 ⟨rfl, hx1⟩
  go_wp2_with fail
  go_ret2
  exact ⟨rfl, by (repeat (first | exact Ext.refl _ | (with_reducible assumption) | (with_reducible refine Ext.drew ?_) | (with_reducible refine Ext.alloc ?_ _) | (with_reducible refine Ext.drewN ?_ _) | (with_reducible refine Ext.setCell ?_ (by omega) _) | (with_reducible refine Ext.trans ?_ (by with_reducible assumption))))⟩

set_option maxRecDepth 100000 in
set_option maxHeartbeats 4000000 in
theorem Counts_good (c : Cas) (v : Value) (kI : Int) (w : World) (hv : CasV w v c) (h : askE c kI = 0) :
    Calls Try.prog 7 #[v, .int .i64 kI] w fun e w' => ∃ r, e = .returned (.tuple #[r, .int .i64 0]) ∧ IntsV w' r (countsS (c.flds.getD kI.toNat default)) ∧ Ext w w' := by
  obtain ⟨he0, hk0, hk1⟩ := askE_zero h
  have hcas := caseE_zero he0
  obtain ⟨k, rfl⟩ : ∃ k : Nat, kI = (k : Int) := ⟨kI.toNat, by omega⟩
  have hlt : k < c.flds.length := by omega
  have HA : Hid (∀ w', Ext w w' → Calls Try.prog 21 #[v, .int .i64 k] w' fun e w'' => e = .returned (.int .i64 0) ∧ Ext w' w'') := Lib.hid (fun w' hx => h ▸ asked_u c v k w' (hv.ext hx))
  have e0 : c.flds.getD (k : Int).toNat default = c.flds[k] := by simp [hlt]
  rw [e0]
  have hfr := (hcas.flds _ (List.getElem_mem hlt)).r
  have HSE : Hid (∀ w', Calls Try.prog 22 #[c.flds[k].c.val] w' fun e w'' => e = .returned (.agg (bitsV 101 (isCount c.flds[k])).toArray) ∧ Ext w' w'') := Lib.hid (fun w' => callsIn_wide.1 (settled_u _ hfr w'))
  obtain ⟨a1, c1, a2, c2, rfl, -, -, hcl, hl1, hl2⟩ := hv.open
  obtain ⟨b, off, rfl, hce⟩ := hcl k (by simpa using hlt)
  have e1 : (c.flds.map Fld.c)[k]'(by simpa using hlt) = (c.flds[k]).c := by simp
  rw [e1] at hce
  have HIX : Hid (∀ (j : Nat), j < 101 → ∀ w', (Instr.index 72 (.agg (bitsV 101 (isCount c.flds[k])).toArray) (.int .i64 (j : Int))).run Try.prog w' = .ok (.bool (isCount c.flds[k] j)) w') := Lib.hid (fun j hj w' => index_flags _ j _ hj (bitsV_get hj) w')
  obtain ⟨i1, hi1, hz10, hz11, hz12⟩ := info_parts info_int
  clear hv hcl h he0 hk0 hk1 hcas hfr e0 e1
  have HCE : Hid (∀ w', Ext w w' → Cell9 w' b (off + k * 9) (c.flds[k]).c) := Lib.hid (fun w' hx => hce.ext hx)
  clear hce
  have HCS := Lib.hid (countsS_upto c.flds[k])
  generalize countsS c.flds[k] = cs at *
  generalize isCount c.flds[k] = g at *
  generalize hfd : c.flds[k] = f at *
  clear hfd
  obtain ⟨cr, va, ne, al, ah, bl, bh, ul, uh⟩ := f
  simp only [Fld.c] at *
  generalize (bitsV 101 g).toArray = bv at *
  go_enter Try.func7, Try.ntmps7
  go_wp2_with fail
  (with_reducible refine (HA.out _ (by (repeat (first | exact Ext.refl _ | (with_reducible assumption) | (with_reducible refine Ext.drew ?_) | (with_reducible refine Ext.alloc ?_ _) | (with_reducible refine Ext.drewN ?_ _) | (with_reducible refine Ext.setCell ?_ (by omega) _) | (with_reducible refine Ext.trans ?_ (by with_reducible assumption)))))).mono ?_)
  rintro e w1 ⟨rfl, hx1⟩
  have X1 : Ext w w1 := by (repeat (first | exact Ext.refl _ | (with_reducible assumption) | (with_reducible refine Ext.drew ?_) | (with_reducible refine Ext.alloc ?_ _) | (with_reducible refine Ext.drewN ?_ _) | (with_reducible refine Ext.setCell ?_ (by omega) _) | (with_reducible refine Ext.trans ?_ (by with_reducible assumption))))
  have q3 := hx1.keep (k := w.heap.size) (o := 3) (v := .slice (some ⟨b, off, none⟩) c.flds.length c2) (by simp [go_sem])
  obtain ⟨m0, m1, m2, m3, m4, m5, m6, m7, m8⟩ := HCE.out _ X1
  simp only at m0 m1 m2 m3 m4 m5 m6 m7 m8
  clear hx1
  go_wp2_with fail
  (with_reducible refine (HSE.out _).mono ?_)
  rintro e w2 ⟨rfl, hx2⟩
  have X2 := X1.trans hx2
  clear hx2 m0 m1 m2 m3 m4 m5 m6 m7 m8 q3 HA HSE X1
  have HX2 := Lib.hid X2
  go_wp2_with fail
  go_loopw [7, 22] (fun s7 s22 wr => ∃ (j m : Nat) (a5 : Option Addr) (q5 : Nat), j ≤ 101 ∧ s22 = .int .i64 j ∧ s7 = .slice a5 m q5 ∧ Hid (m = (upto g j).length ∧ UpRow w.heap.size 3 g j (.slice a5 m q5) wr) ∧ Ext w wr) (fun _ s _ => 101 - (intOf s).toNat)
  case atStart => exact ⟨0, 0, none, 0, Nat.zero_le _, rfl, rfl, Lib.hid ⟨rfl, World.ownsRow_nil _ _ _ _⟩, X2⟩
  case round =>
    obtain ⟨j, m, a5, q5, hj, rfl, rfl, HR, hx⟩ := hrel
    obtain ⟨wo, rfl⟩ : ∃ x, x = wr := ⟨_, rfl⟩
    by_cases hlt2 : j < 101
    · have hix := HIX.out j hlt2
      cases hg : g j with
      | false =>
        rw [hg] at hix
        have HR' : Hid (m = (upto g (j + 1)).length ∧ UpRow w.heap.size 3 g (j + 1) (.slice a5 m q5) wo) := Lib.hid (by unfold UpRow; rw [upto_no hg]; exact HR.out)
        clear hg
        go_wp2_with (refine step_index rfl 72 _ _ rfl _ _ _ rfl rfl (hix _) ?_)
        go_roundw
        case rel => exact ⟨j + 1, m, a5, q5, by omega, by go_num, rfl, HR', hx⟩
        case measure => simp [intOf]; omega
      | true =>
        rw [hg] at hix
        have HU := Lib.hid (upto_yes hg)
        have HML := Lib.hid (upto_len g j)
        have OWN := HR.out.2
        have hm := HR.out.1
        have hml : m ≤ 101 := by have := HML.out; omega
        unfold UpRow at OWN
        rw [← hm] at OWN
        have HOW := Lib.hid OWN
        have HM := Lib.hid hm
        clear hg OWN hm
        go_wp2_with (first | refine step_index rfl 72 _ _ rfl _ _ _ rfl rfl (hix _) ?_ | (at_builtin; refine wpList_append_own_at _ rfl _ _ 22 rfl w.heap.size 3 i1 (.int .i64 0) 1 8 Try.underlying22 hi1 hz10 hz11 hz12 rfl (by decide) (.slice a5 m q5) m ((upto g j).map (.int .i64)) rfl ?own ⟨wo.heap.size, 0, none⟩ 1 1 [.int .i64 (j : Int)] rfl rfl (cell_one_new _ _ _) ?one ?f1 ?f2 ?f3 ?next))
        case own => exact own_keep HOW.out (fun _ hg => ((Ext.refl wo).alloc _).heap (own_lt HOW.out hg).2)
        case one => first | rfl | (intro u hu; simp at hu; subst hu; rfl)
        case f1 => simp only [maxLen]; omega
        case f2 => omega
        case f3 => have h1 := hx.size; simp; omega
        case next =>
          intro v' w7 hown hgrow hnil hat
          have hx7 : Ext w w7 := grown_ext (hx.alloc _) hgrow (fun _ hg => (own_lt HOW.out hg).1)
          have HUR : Hid (m + 1 = (upto g (j + 1)).length ∧ UpRow w.heap.size 3 g (j + 1) v' w7) := Lib.hid (by
            unfold UpRow
            rw [HU.out]
            simp only [List.length_append, List.length_cons, List.length_nil, List.map_append, List.map_cons, List.map_nil]
            rw [← HM.out]
            exact ⟨rfl, hown⟩)
          clear hnil hat hgrow
          rcases own_open hown with ⟨-, h0⟩ | ⟨g', cap, rfl, -, -, -, -⟩
          · omega
          · clear hown
            go_wp2_with fail
            go_roundw
            case rel => exact ⟨j + 1, m + 1, _, _, by omega, by go_num, rfl, HUR, hx7⟩
            case measure => simp [intOf]; omega
    · have ek : j = 101 := by omega
      subst ek
      have hi := HR.out.2.ints (by decide)
      have HI := Lib.hid hi
      clear hi
      go_wp2_with fail
      go_ret2
      exact ⟨_, rfl, by rw [HCS.out]; exact HI.out, hx⟩
end Go.Proofs.Ytedblocbcjoolaa

/- Contracts of layer 7: whether the umpire is called for a field. -/
namespace Go.Hs
open Go.RowKit
def clB (f : Fld) (n : Nat) (j : Nat) : Bool := (List.range n).any (fun i => calledB f (truthAt f i) == (j != 0))
theorem clB_next (f : Fld) (n : Nat) (j : Nat) : clB f (n + 1) j = (clB f n j || calledB f (truthAt f n) == (j != 0)) := by
  unfold clB
  rw [List.range_succ, List.any_append]
  simp
theorem loser_called (f : Fld) (x : Thr) : loserS f x = 0 ↔ calledB f x = false := by
  unfold loserS
  cases calledB f x
  · simp
  · simp only [if_true, Bool.true_eq_false, iff_false]
    split
    · simp
    · split <;> simp
theorem calledV_clB (f : Fld) : calledV f = if clB f (truthsN f) 0 then (if clB f (truthsN f) 1 then 3 else 2) else (if clB f (truthsN f) 1 then 1 else 2) := by
  have e0 : clB f (truthsN f) 0 = (truthsS f).any (fun x => !calledB f x) := by
    unfold clB truthsS; rw [List.any_map]; congr 1; funext i; simp
  have e1 : clB f (truthsN f) 1 = (truthsS f).any (calledB f) := by
    unfold clB truthsS; rw [List.any_map]; congr 1; funext i; simp
  unfold calledV
  rw [e0, e1]
/-- What holds between two rounds of 'Called'. -/
structure CalI (w : World) (B k S : Nat) (v3 : Value) (f : Fld) (n : Nat) (W : World) : Prop where
  ext : Ext w W
  c3 : W.cell? ⟨B, 3, none⟩ = some v3
  kc : W.cell? ⟨B + 1, 0, none⟩ = some (.int .i64 k)
  tr : Cell9 W (S + 1) 0 f.c
  bits : BitsAt S 2 (clB f n) W
  fr : ∀ o, W.frozen? ⟨S, o, none⟩ = false
  s : S + 2 ≤ W.heap.size
  bs : B + 1 < S
  ws : w.heap.size ≤ S
theorem CalI.below {w : World} {B k S n D : Nat} {v3 : Value} {f : Fld} {W W' : World} (h : CalI w B k S v3 f n W) (hx : Below D W W') (h2 : S + 2 ≤ D) : CalI w B k S v3 f n W' :=
  have h3 := h.bs
  have h4 := h.ws
  ⟨Below.trans h.ext (hx.mono (by omega)), (hx.cell (p := ⟨B, 3, none⟩) (show B < D by omega)).trans h.c3, (hx.cell (p := ⟨B + 1, 0, none⟩) (show B + 1 < D by omega)).trans h.kc, h.tr.below hx (by omega), h.bits.below hx (by omega), fun o => (Below.froz hx (by omega)).trans (h.fr o), Nat.le_trans h.s hx.size, h.bs, h.ws⟩
theorem CalI.set {w : World} {B k S n m : Nat} {v3 : Value} {f : Fld} {W : World} (h : CalI w B k S v3 f n W) (hm : m < 2) (hc : calledB f (truthAt f n) = (m != 0)) : CalI w B k S v3 f (n + 1) (W.setCell ⟨S, m, none⟩ (.bool true)) := by
  have h3 := h.bs
  have q : ∀ b o v, b ≠ S → W.cell? ⟨b, o, none⟩ = some v → (W.setCell ⟨S, m, none⟩ (.bool true)).cell? ⟨b, o, none⟩ = some v := fun b o v hb hc => sc_ne (.inl hb) hc
  obtain ⟨t0, t1, t2, t3, t4, t5, t6, t7, t8⟩ := h.tr
  refine ⟨h.ext.setCell h.ws _, q _ _ _ (by omega) h.c3, q _ _ _ (by omega) h.kc, ⟨q _ _ _ (by omega) t0, q _ _ _ (by omega) t1, q _ _ _ (by omega) t2, q _ _ _ (by omega) t3, q _ _ _ (by omega) t4, q _ _ _ (by omega) t5, q _ _ _ (by omega) t6, q _ _ _ (by omega) t7, q _ _ _ (by omega) t8⟩,
    fun j hj => ?_, fun o => by rw [World.frozen?_setCell]; exact h.fr o, by rw [World.size_setCell]; exact h.s, h.bs, h.ws⟩
  rw [clB_next, hc]
  by_cases e : m = j
  · subst e
    simp only [beq_self_eq_true, Bool.or_true]
    exact sc_eq (h.bits m hj)
  · have : ((m != 0) == (j != 0)) = false := by
      have : (m = 0 ∧ j = 1) ∨ (m = 1 ∧ j = 0) := by omega
      rcases this with ⟨rfl, rfl⟩ | ⟨rfl, rfl⟩ <;> rfl
    rw [this, Bool.or_false]
    exact sc_ne (.inr (Ne.symm e)) (h.bits j hj)
end Go.Hs
namespace Go.Proofs.Ytedblocbcjoolaa
open Go.RowKit Go.Hs
attribute [local irreducible] World.setCell World.alloc

theorem eq_two (a b c d : Bool) (w : World) : (binOp .eql 74 (.agg #[.bool a, .bool b]) (.agg #[.bool c, .bool d])).run Try.prog w = .ok (.bool (a == c && b == d)) w := by
  have u3 := Try.underlying4
  have a3' := Try.isAgg4
  have z3 := Try.sizeOf4
  rw [run_eql_struct]
  rw [show (10000 : Nat) = 9999 + 1 from rfl, Op.equalIn]
  simp only [Sem.run_bind, run_underlying Try.underlying74, Result.andThen_ok]
  simp only [Std.Legacy.Range.forIn_eq_forIn_range', Std.Legacy.Range.size, Nat.sub_zero, Nat.add_sub_cancel, Nat.div_one, List.range'_succ, List.range'_zero, List.forIn_cons, List.forIn_nil]
  go_simp
  by_cases h0 : a = c <;> by_cases h1 : b = d <;> simp [h0, h1]
theorem calI_start (w w1 : World) (B k : Nat) (v3 : Value) (f : Fld) (hx : Ext w w1) (h3 : w1.cell? ⟨B, 3, none⟩ = some v3) (hk : w1.cell? ⟨B + 1, 0, none⟩ = some (.int .i64 k)) :
    CalI w B k w1.heap.size v3 f 0 ((w1.alloc (.cells #[.bool false, .bool false] 74)).alloc (.cells #[f.c.c0, f.c.c1, f.c.c2, f.c.c3, f.c.c4, f.c.c5, f.c.c6, f.c.c7, f.c.c8] 46)) := by
  have X : Ext w1 ((w1.alloc (.cells #[.bool false, .bool false] 74)).alloc (.cells #[f.c.c0, f.c.c1, f.c.c2, f.c.c3, f.c.c4, f.c.c5, f.c.c6, f.c.c7, f.c.c8] 46)) := by (repeat (first | exact Ext.refl _ | (with_reducible assumption) | (with_reducible refine Ext.drew ?_) | (with_reducible refine Ext.alloc ?_ _) | (with_reducible refine Ext.drewN ?_ _) | (with_reducible refine Ext.setCell ?_ (by omega) _) | (with_reducible refine Ext.trans ?_ (by with_reducible assumption))))
  refine ⟨hx.trans X, X.keep h3, X.keep hk, ?_, fun j hj => ?_, fun o => by simp [go_sem], by simp, lt_of_cell hk, hx.size⟩
  · refine ⟨?_, ?_, ?_, ?_, ?_, ?_, ?_, ?_, ?_⟩ <;> simp [go_sem]
  · have : j = 0 ∨ j = 1 := by omega
    rcases this with rfl | rfl <;> simp [go_sem, clB]

set_option maxRecDepth 100000 in
set_option maxHeartbeats 2000000 in
theorem Called_bad (c : Cas) (v : Value) (k : Int) (w : World) (hv : CasV w v c) (h : askE c k ≠ 0) :
    Calls Try.prog 8 #[v, .int .i64 k] w fun e w' => e = .returned (.tuple #[.int .i64 0, .int .i64 (askE c k)]) ∧ Ext w w' := by
  have HA : Hid (∀ w', Ext w w' → Calls Try.prog 21 #[v, .int .i64 k] w' fun e w'' => e = .returned (.int .i64 (askE c k)) ∧ Ext w' w'') := Lib.hid (fun w' hx => asked_u c v k w' (hv.ext hx))
  obtain ⟨a1, c1, a2, c2, rfl, -, -, -, hl1, hl2⟩ := hv.open
  have hd : (askE c k != 0) = true := by simp [h]
  clear hv h
  generalize askE c k = r at *
  go_enter Try.func8, Try.ntmps8
  go_wp2_with fail
  (with_reducible refine (HA.out _ (by (repeat (first | exact Ext.refl _ | (with_reducible assumption) | (with_reducible refine Ext.drew ?_) | (with_reducible refine Ext.alloc ?_ _) | (with_reducible refine Ext.drewN ?_ _) | (with_reducible refine Ext.setCell ?_ (by omega) _) | (with_reducible refine Ext.trans ?_ (by with_reducible assumption)))))).mono ?_)
  rintro e w1 ⟨rfl, hx1⟩
  go_wp2_with fail
  go_ret2
  exact ⟨rfl, by (repeat (first | exact Ext.refl _ | (with_reducible assumption) | (with_reducible refine Ext.drew ?_) | (with_reducible refine Ext.alloc ?_ _) | (with_reducible refine Ext.drewN ?_ _) | (with_reducible refine Ext.setCell ?_ (by omega) _) | (with_reducible refine Ext.trans ?_ (by with_reducible assumption))))⟩

attribute [local go_sem] Oper.semAt_some
attribute [local simp] wide_fn wide_fn' wide_depth wide_round
attribute [local go_sem] wide_fn wide_fn' wide_depth wide_round

set_option maxRecDepth 100000 in
set_option maxHeartbeats 4000000 in
theorem Called_good (c : Cas) (v : Value) (kI : Int) (w : World) (hv : CasV w v c) (h : askE c kI = 0) :
    Calls Try.prog 8 #[v, .int .i64 kI] w fun e w' => e = .returned (.tuple #[.int .i64 (calledV (c.flds.getD kI.toNat default)), .int .i64 0]) ∧ Ext w w' := by
  obtain ⟨he0, hk0, hk1⟩ := askE_zero h
  have hcas := caseE_zero he0
  obtain ⟨k, rfl⟩ : ∃ k : Nat, kI = (k : Int) := ⟨kI.toNat, by omega⟩
  have hlt : k < c.flds.length := by omega
  have HA : Hid (∀ w', Ext w w' → CallsIn Fence.wide 0 Try.prog 21 #[v, .int .i64 k] w' fun e w'' => e = .returned (.int .i64 0) ∧ Ext w' w'') := Lib.hid (fun w' hx => callsIn_wide.2 (h ▸ asked_u c v k w' (hv.ext hx)))
  have e0 : c.flds.getD (k : Int).toNat default = c.flds[k] := by simp [hlt]
  rw [e0]
  have hf := (hcas.flds _ (List.getElem_mem hlt)).r
  obtain ⟨a1, c1, a2, c2, rfl, -, -, hcl, hl1, hl2⟩ := hv.open
  obtain ⟨b, off, rfl, hce⟩ := hcl k (by simpa using hlt)
  have e1 : (c.flds.map Fld.c)[k]'(by simpa using hlt) = (c.flds[k]).c := by simp
  rw [e1] at hce
  have HCE : Hid (∀ w', Ext w w' → Cell9 w' b (off + k * 9) (c.flds[k]).c) := Lib.hid (fun w' hx => hce.ext hx)
  clear hv hcl h he0 hk0 hk1 hcas e0 e1 hce
  generalize c.flds[k] = f at *
  have HSE : Hid (∀ n, n < truthsN f → ∀ w', Calls Try.prog 17 #[f.c.val, (truthAt f n).c.val] w' fun e w'' => e = .returned (.tuple #[.int .i64 (settledS f (truthAt f n)), .int .i64 (loserS f (truthAt f n))]) ∧ Ext w' w'') :=
    Lib.hid (fun n hn w' => by
      have hx := truthAt_ok hn
      have := hx.a; have := hx.b; have := hx.u; have := hf.a; have := hf.b; have := hf.u
      exact settle_u _ _ hf.near (by omega) (by omega) (by omega) w')
  have hgv := fun b => truths_gives b f hf.a hf.b hf.u
  have HTR : Hid (∀ W, CallsIn Fence.wide 0 Try.prog 23 #[f.c.val] W fun e w' => e = .returned (.func (.func 41) #[] #[.pointer (some ⟨W.heap.size, 0, none⟩)]) ∧ w' = W.alloc (.cells #[f.c.c0, f.c.c1, f.c.c2, f.c.c3, f.c.c4, f.c.c5, f.c.c6, f.c.c7, f.c.c8] 46)) := Lib.hid (fun W => callsIn_wide.2 (truths_u f W))
  have hlen := truthsV_len f
  have HST := fun w1 => calI_start w w1 w.heap.size k (.slice (some ⟨b, off, none⟩) c.flds.length c2) f
  have HCV := Lib.hid (calledV_clB f)
  refine (callsIn_wide (n := 0)).1 (callsIn_of_wp_marks Try.func8 rfl trivial ?_ rfl)
  simp only [Try.ntmps8, List.size_toArray, List.length_cons, List.length_nil, Nat.reduceAdd, Nat.reduceSub, Array.replicate_succ, Array.replicate_zero, List.push_toArray, List.append_toArray, List.nil_append, List.cons_append]
  gi_wp2_with fail
  (with_reducible refine (HA.out _ (by (repeat (first | exact Ext.refl _ | (with_reducible assumption) | (with_reducible refine Ext.drew ?_) | (with_reducible refine Ext.alloc ?_ _) | (with_reducible refine Ext.drewN ?_ _) | (with_reducible refine Ext.setCell ?_ (by omega) _) | (with_reducible refine Ext.trans ?_ (by with_reducible assumption)))))).mono ?_)
  rintro e w1 ⟨rfl, hx1⟩
  have q3 := hx1.keep (k := w.heap.size) (o := 3) (v := .slice (some ⟨b, off, none⟩) c.flds.length c2) (by simp [go_sem])
  have qk := hx1.keep (k := w.heap.size + 1) (o := 0) (v := .int .i64 k) (by simp [go_sem])
  have X1 : Ext w w1 := by (repeat (first | exact Ext.refl _ | (with_reducible assumption) | (with_reducible refine Ext.drew ?_) | (with_reducible refine Ext.alloc ?_ _) | (with_reducible refine Ext.drewN ?_ _) | (with_reducible refine Ext.setCell ?_ (by omega) _) | (with_reducible refine Ext.trans ?_ (by with_reducible assumption))))
  have H0 := HST w1 X1 q3 qk
  have hy3 : ∀ A, (w1.alloc A).cell? ⟨w.heap.size, 3, none⟩ = some (.slice (some ⟨b, off, none⟩) c.flds.length c2) := fun A => ((Ext.refl w1).alloc A).keep q3
  have hyk : ∀ A, (w1.alloc A).cell? ⟨w.heap.size + 1, 0, none⟩ = some (.int .i64 k) := fun A => ((Ext.refl w1).alloc A).keep qk
  have hyf : ∀ A, Cell9 (w1.alloc A) b (off + k * 9) f.c := fun A => HCE.out _ (X1.alloc A)
  clear hx1 HST HA q3 qk
  have m0 := fun A => (hyf A).1
  have m1 := fun A => (hyf A).2.1
  have m2 := fun A => (hyf A).2.2.1
  have m3 := fun A => (hyf A).2.2.2.1
  have m4 := fun A => (hyf A).2.2.2.2.1
  have m5 := fun A => (hyf A).2.2.2.2.2.1
  have m6 := fun A => (hyf A).2.2.2.2.2.2.1
  have m7 := fun A => (hyf A).2.2.2.2.2.2.2.1
  have m8 := fun A => (hyf A).2.2.2.2.2.2.2.2
  have hH0 := Lib.hid H0
  clear H0 hyf
  gi_wp2_with (gi_at_call 23; (with_reducible refine (HTR.out _).mono ?_); rintro e w' ⟨rfl, rfl⟩)
  have H0 := hH0.out
  have hXC : Hid (∀ W, Ext w W → Cell9 W b (off + k * 9) f.c) := HCE
  clear m0 m1 m2 m3 m4 m5 m6 m7 m8 hy3 hyk hH0 X1 HTR
  generalize (w1.alloc (.cells #[.bool false, .bool false] 74)).alloc (.cells #[f.c.c0, f.c.c1, f.c.c2, f.c.c3, f.c.c4, f.c.c5, f.c.c6, f.c.c7, f.c.c8] 46) = W0 at *
  have hs0 := H0.s
  refine each_outer (vs := truthsV f) (K := fun W => Cell9 W (w1.heap.size + 1) 0 f.c) (by rfl) fn_truths1 (by rfl) (fun i W' => CalI w w.heap.size k w1.heap.size (.slice (some ⟨b, off, none⟩) c.flds.length c2) f i W') (fun _ _ => False) (hgv _) (fun i W' h => h.tr)
    (fun i A B h hx => h.below hx hs0) (fun c A B h hx => h) H0 ?hround ?hdone ?hstop
  case hround =>
    intro i hi W1 hj hs
    rw [truthsV_get]
    have hiN : i < truthsN f := by omega
    have hse := HSE.out i hiN
    have hset : ∀ (m : Nat) W, (m < 2) → (calledB f (truthAt f i) = (m != 0)) → CalI w w.heap.size k w1.heap.size (.slice (some ⟨b, off, none⟩) c.flds.length c2) f i W → CalI w w.heap.size k w1.heap.size (.slice (some ⟨b, off, none⟩) c.flds.length c2) f (i + 1) (W.setCell ⟨w1.heap.size, m, none⟩ (.bool true)) := fun m W hm hc h => h.set hm hc
    have HSET := Lib.hid hset
    have hlo := loser_called f (truthAt f i)
    have HLO := Lib.hid hlo
    have HJ := Lib.hid hj
    clear hset H0 hj HSE hlo
    generalize calledB f (truthAt f i) = cb at *
    generalize loserS f (truthAt f i) = lo at *
    generalize settledS f (truthAt f i) = st at *
    generalize truthAt f i = x at *
    obtain ⟨A, B, U⟩ := x
    simp only [Thr.c] at *
    simp only [Array.zip_eq_zipWith]
    gi_wp2_with fail
    refine ⟨Kept.ext (by (repeat (first | exact Ext.refl _ | (with_reducible assumption) | (with_reducible refine Ext.drew ?_) | (with_reducible refine Ext.alloc ?_ _) | (with_reducible refine Ext.drewN ?_ _) | (with_reducible refine Ext.setCell ?_ (by omega) _) | (with_reducible refine Ext.trans ?_ (by with_reducible assumption))))), fun W2 hT _ => ?_⟩
    have BA : Below W0.heap.size W1 W2 := (((Ext.refl W1).alloc (.cells #[.int .i64 A, .int .i64 B, .int .i64 U] 62)).mono (by omega)).trans (hT.below (by omega))
    have J2 := HJ.out.below BA hs0
    have x0 : W2.cell? ⟨W1.heap.size, 0, none⟩ = some (.int .i64 A) := hT.cell (by omega) (by simp)
    have x1 : W2.cell? ⟨W1.heap.size, 1, none⟩ = some (.int .i64 B) := hT.cell (by omega) (by simp)
    have x2 : W2.cell? ⟨W1.heap.size, 2, none⟩ = some (.int .i64 U) := hT.cell (by omega) (by simp)
    obtain ⟨f0, f1, f2, f3, f4, f5, f6, f7, f8⟩ := hXC.out _ J2.ext
    have c3 := J2.c3
    have ck := J2.kc
    have HJ2 := Lib.hid J2
    have hmix : Try.prog.follows .mixedOrders = true := by kernel_rfl
    have HSEI : Hid (∀ W, CallsIn (Fence.wide.inRound (W0.heap.size + 1)) 0 Try.prog 17 #[f.c.val, .agg #[.int .i64 A, .int .i64 B, .int .i64 U]] W fun e w'' => e = .returned (.tuple #[.int .i64 st, .int .i64 lo]) ∧ Ext W w'') := Lib.hid (fun W => CallsIn.inRound _ (callsIn_wide.2 (hse W)))
    clear J2 hT BA hse
    gi_upto_region 7 with fail
    gi_cut [9, 10] from 24 (fun s9 s10 wx => s9 = .int .i64 st ∧ s10 = .int .i64 lo ∧ Ext W2 wx)
    case first =>
      gi_region_with_o ((gi_at_call 17; (with_reducible refine (HSEI.out _).mono ?_); rintro e w3 ⟨rfl, hx3⟩))
      all_goals
        gi_wp2_with fail
        gi_meet
        exact ⟨rfl, rfl, by (repeat (first | exact Ext.refl _ | (with_reducible assumption) | (with_reducible refine Ext.drew ?_) | (with_reducible refine Ext.alloc ?_ _) | (with_reducible refine Ext.drewN ?_ _) | (with_reducible refine Ext.setCell ?_ (by omega) _) | (with_reducible refine Ext.trans ?_ (by with_reducible assumption))))⟩
    case rest =>
      obtain ⟨rfl, rfl, hx3⟩ := hcut
      obtain ⟨wd, rfl⟩ : ∃ x, x = wc := ⟨_, rfl⟩
      have J3 := HJ2.out.below (D := W2.heap.size) hx3 HJ2.out.s
      have b0 := J3.bits 0 (by decide)
      have b1 := J3.bits 1 (by decide)
      have hfr := J3.fr
      have hk : Kept W0.heap.size W2 wd := Kept.ext hx3
      have HJ3 := Lib.hid J3
      have hfin : ∀ (act : Act) (m : Nat), (m < 2) → (cb = (m != 0)) → roundEnd W0.heap.size (fun W' => CalI w w.heap.size k w1.heap.size (.slice (some ⟨b, off, none⟩) c.flds.length c2) f (i + 1) W') (fun _ _ => False) W2 .normal act (wd.setCell ⟨w1.heap.size, m, none⟩ (.bool true)) := fun _ m hm hc =>
        ⟨⟨by rw [World.size_setCell]; exact hk.1, fun q hq1 hq2 => (Below.heap_setCell _ _ _ _ (show q ≠ w1.heap.size by omega)).trans (hk.2 q hq1 hq2)⟩, HSET.out m wd hm hc HJ3.out⟩
      have HFIN := Lib.hid hfin
      clear J3 hfin hk f0 f1 f2 f3 f4 f5 f6 f7 f8 c3 ck
      by_cases hl0 : lo = 0
      · have hb0 : ((lo : Int) == 0) = true := by simp [hl0]
        have hcb := HLO.out.1 hl0
        have HCB := Lib.hid hcb
        clear hl0 hcb
        gi_wp2_with fail
        exact HFIN.out _ 0 (by decide) HCB.out
      · have hb0 : ((lo : Int) == 0) = false := by simp [hl0]
        have hcb : cb = true := by
          cases hq : cb with
          | true => rfl
          | false => exact absurd (HLO.out.2 hq) hl0
        have HCB := Lib.hid hcb
        clear hl0 hcb
        gi_wp2_with fail
        exact HFIN.out _ 1 (by decide) HCB.out
  case hdone =>
    intro W3 hj hd
    rw [hlen] at hj
    have b0 := hj.bits 0 (by decide)
    have b1 := hj.bits 1 (by decide)
    have hXX : Ext w (W3.putObj W0.heap.size (.deferred none)) := Below.trans hj.ext ((Turned.below (Turned.put W3 W0.heap.size (.deferred none)) (Nat.le_refl _)).mono (by have := hj.ws; omega))
    have heq := eq_two (clB f (truthsN f) 0) (clB f (truthsN f) 1) true true
    clear hj H0
    generalize clB f (truthsN f) 0 = x0 at *
    generalize clB f (truthsN f) 1 = x1 at *
    cases x0 <;> cases x1
    all_goals
      gi_wp2_with fail
      refine ⟨by simp, .inl ⟨_, _, rfl, run_takeDeferred hd, ?_⟩⟩
      first
        | exact ⟨.tuple #[.int .i64 2, .int .i64 0], by simp [results, Try.results8, go_sem], congrArg (fun z => Ending.returned (.tuple #[.int .i64 z, .int .i64 0])) HCV.out.symm, hXX⟩
        | exact ⟨.tuple #[.int .i64 3, .int .i64 0], by simp [results, Try.results8, go_sem], congrArg (fun z => Ending.returned (.tuple #[.int .i64 z, .int .i64 0])) HCV.out.symm, hXX⟩
        | exact ⟨.tuple #[.int .i64 1, .int .i64 0], by simp [results, Try.results8, go_sem], congrArg (fun z => Ending.returned (.tuple #[.int .i64 z, .int .i64 0])) HCV.out.symm, hXX⟩
  case hstop => exact fun c W h _ => h.elim
end Go.Proofs.Ytedblocbcjoolaa
