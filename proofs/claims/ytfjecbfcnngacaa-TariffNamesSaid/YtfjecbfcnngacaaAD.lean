/- The examples of the document: the closed part of each statement. -/
import Derived.Test.YtfjecbfcnngacaaAC
namespace Go.Proofs.Ytfjecbfcnngacaa
open Go.RowKit Go.Hs
attribute [local irreducible] World.setCell World.alloc

theorem ints_mk {w : World} {B n : Nat} (xs : List Int) (hn : n = xs.length) (hl : xs.length ≤ 1000) (h : ∀ i, i < xs.length → w.cell? ⟨B, i, none⟩ = some (.int .i64 (xs.getD i 0))) (ok : ∀ x ∈ xs, -1000 ≤ x ∧ x ≤ 1000) : IntsV w (.slice (some ⟨B, 0, none⟩) n n) xs := by
  subst hn
  refine ⟨_, _, rfl, Nat.le_refl _, by omega, fun i hi => ⟨B, 0, rfl, ?_, ?_⟩⟩
  · have := h i hi
    simpa [hi] using this
  · have := ok _ (List.getElem_mem hi)
    omega
theorem ints2_mk {w : World} {B n : Nat} (xs : List (List Int)) (hn : n = xs.length) (hl : xs.length ≤ 1000) (h : ∀ i, i < xs.length → ∃ v, w.cell? ⟨B, i, none⟩ = some v ∧ IntsV w v (xs.getD i [])) : Ints2V w (.slice (some ⟨B, 0, none⟩) n n) xs := by
  subst hn
  refine ⟨_, _, rfl, Nat.le_refl _, by omega, fun i hi => ⟨B, 0, rfl, ?_⟩⟩
  obtain ⟨v, h1, h2⟩ := h i hi
  exact ⟨v, by simpa using h1, by simpa [hi] using h2⟩
theorem ints3_mk {w : World} {B n : Nat} (xs : List (List (List Int))) (hn : n = xs.length) (hl : xs.length ≤ 1000) (h : ∀ i, i < xs.length → ∃ v, w.cell? ⟨B, i, none⟩ = some v ∧ Ints2V w v (xs.getD i [])) : Ints3V w (.slice (some ⟨B, 0, none⟩) n n) xs := by
  subst hn
  refine ⟨_, _, rfl, Nat.le_refl _, by omega, fun i hi => ⟨B, 0, rfl, ?_⟩⟩
  obtain ⟨v, h1, h2⟩ := h i hi
  exact ⟨v, by simpa using h1, by simpa [hi] using h2⟩
theorem tars_mk {w : World} {B n : Nat} (xs : List Tar) (hn : n = xs.length) (hl : xs.length ≤ 1000) (h : ∀ i, i < xs.length → TarAt w B (i * 6) (xs.getD i default)) : TarsV w (.slice (some ⟨B, 0, none⟩) n n) xs := by
  subst hn
  refine ⟨_, _, rfl, Nat.le_refl _, by omega, fun i hi => ⟨B, 0, rfl, ?_⟩⟩
  have := h i hi
  simpa [hi] using this

/-- The tariffs of the document's examples, and the claim. -/
def twoL : List Tar := [⟨0, true, 8, [0, 10], [0, 50, 100], [[[0, 40, 80], [0, 25, 100]]]⟩, ⟨30, false, 10, [0], [0, 100], [[[0, 90]]]⟩]
def oneC : Cla := ⟨0, 1050, 9, 12, 20, 25⟩

set_option maxRecDepth 100000 in
set_option maxHeartbeats 1000000 in
theorem two_any (w : World) : Calls Try.prog 56 #[] w fun e w' => ∃ v, e = .returned v ∧ TarsV w' v twoL ∧ Ext w w' := by
  go_enter Try.func56, Try.ntmps56
  go_wp2_with fail
  go_ret
  refine ⟨_, rfl, ?_, by (repeat (first | exact Ext.refl _ | (with_reducible assumption) | (with_reducible refine Ext.drew ?_) | (with_reducible refine Ext.alloc ?_ _) | (with_reducible refine Ext.drewN ?_ _) | (with_reducible refine Ext.setCell ?_ (by omega) _) | (with_reducible refine Ext.trans ?_ (by with_reducible assumption))))⟩
  refine tars_mk twoL rfl (by decide) (fun i hi => ?_)
  simp [twoL] at hi
  rcases i with _ | _ | i
  · refine ⟨.slice (some ⟨w.heap.size, 0, none⟩) 2 2, .slice (some ⟨w.heap.size + 1, 0, none⟩) 3 3, .slice (some ⟨w.heap.size + 5, 0, none⟩) 1 1, ?_, ?_, ?_, ?_, ?_, ?_, ?_⟩
    · simp [go_sem, twoL]
    · simp [go_sem, twoL]
    · simp [go_sem, twoL]
    · simp [go_sem]
    · simp [go_sem]
    · simp [go_sem]
    · refine ⟨by simp [twoL, i64ok], by simp [twoL, i64ok], (ints_mk _ rfl (by decide) (by intro i hi; rcases i with _ | _ | _ | i <;> first | (simp [go_sem, twoL]; done) | (simp [twoL] at hi; done) | (simp [twoL] at hi; omega)) (by decide)), (ints_mk _ rfl (by decide) (by intro i hi; rcases i with _ | _ | _ | i <;> first | (simp [go_sem, twoL]; done) | (simp [twoL] at hi; done) | (simp [twoL] at hi; omega)) (by decide)), ?_⟩
      refine ints3_mk _ rfl (by decide) (fun i hi => ?_)
      rcases i with _ | i
      · refine ⟨.slice (some ⟨w.heap.size + 4, 0, none⟩) 2 2, by simp [go_sem], ints2_mk _ rfl (by decide) (fun i hi => ?_)⟩
        rcases i with _ | _ | i
        · exact ⟨.slice (some ⟨w.heap.size + 2, 0, none⟩) 3 3, by simp [go_sem], (ints_mk _ rfl (by decide) (by intro i hi; rcases i with _ | _ | _ | i <;> first | (simp [go_sem, twoL]; done) | (simp [twoL] at hi; done) | (simp [twoL] at hi; omega)) (by decide))⟩
        · exact ⟨.slice (some ⟨w.heap.size + 3, 0, none⟩) 3 3, by simp [go_sem], (ints_mk _ rfl (by decide) (by intro i hi; rcases i with _ | _ | _ | i <;> first | (simp [go_sem, twoL]; done) | (simp [twoL] at hi; done) | (simp [twoL] at hi; omega)) (by decide))⟩
        · simp [twoL] at hi; omega
      · simp [twoL] at hi
  · refine ⟨.slice (some ⟨w.heap.size + 6, 0, none⟩) 1 1, .slice (some ⟨w.heap.size + 7, 0, none⟩) 2 2, .slice (some ⟨w.heap.size + 10, 0, none⟩) 1 1, ?_, ?_, ?_, ?_, ?_, ?_, ?_⟩
    · simp [go_sem, twoL]
    · simp [go_sem, twoL]
    · simp [go_sem, twoL]
    · simp [go_sem]
    · simp [go_sem]
    · simp [go_sem]
    · refine ⟨by simp [twoL, i64ok], by simp [twoL, i64ok], (ints_mk _ rfl (by decide) (by intro i hi; rcases i with _ | _ | _ | i <;> first | (simp [go_sem, twoL]; done) | (simp [twoL] at hi; done) | (simp [twoL] at hi; omega)) (by decide)), (ints_mk _ rfl (by decide) (by intro i hi; rcases i with _ | _ | _ | i <;> first | (simp [go_sem, twoL]; done) | (simp [twoL] at hi; done) | (simp [twoL] at hi; omega)) (by decide)), ?_⟩
      refine ints3_mk _ rfl (by decide) (fun i hi => ?_)
      rcases i with _ | i
      · refine ⟨.slice (some ⟨w.heap.size + 9, 0, none⟩) 1 1, by simp [go_sem], ints2_mk _ rfl (by decide) (fun i hi => ?_)⟩
        rcases i with _ | i
        · exact ⟨.slice (some ⟨w.heap.size + 8, 0, none⟩) 2 2, by simp [go_sem], (ints_mk _ rfl (by decide) (by intro i hi; rcases i with _ | _ | _ | i <;> first | (simp [go_sem, twoL]; done) | (simp [twoL] at hi; done) | (simp [twoL] at hi; omega)) (by decide))⟩
        · simp [twoL] at hi
      · simp [twoL] at hi
  · omega

set_option maxRecDepth 100000 in
theorem between_any (a b : Int) (w : World) : Calls Try.prog 44 #[.int .i64 a, .int .i64 b] w fun e w' => e = .returned (.agg #[.int .i64 a, .int .i64 b]) ∧ Ext w w' := by
  have n0 : (⟨w.heap.size + 2, 0, none⟩ : Addr) ≠ ⟨w.heap.size + 2, 1, none⟩ := by intro h; cases h
  go_enter Try.func44, Try.ntmps44
  go_wp2_with fail
  exact bodyPost_ret (v := .agg #[.int .i64 a, .int .i64 b]) (by simp [results, Try.results44, go_sem]) rfl ⟨rfl, by (repeat (first | exact Ext.refl _ | (with_reducible assumption) | (with_reducible refine Ext.drew ?_) | (with_reducible refine Ext.alloc ?_ _) | (with_reducible refine Ext.drewN ?_ _) | (with_reducible refine Ext.setCell ?_ (by omega) _) | (with_reducible refine Ext.trans ?_ (by with_reducible assumption))))⟩

set_option maxRecDepth 100000 in
theorem one_any (w : World) : Calls Try.prog 57 #[] w fun e w' => e = .returned oneC.u.val ∧ Ext w w' := by
  have hb : ∀ a b W, Calls Try.prog 44 #[.int .i64 a, .int .i64 b] W fun e w' => e = .returned (.agg #[.int .i64 a, .int .i64 b]) ∧ Ext W w' := between_any
  go_enter Try.func57, Try.ntmps57
  go_wp2_with fail
  (with_reducible refine (hb _ _ _).mono ?_)
  rintro e w1 ⟨rfl, hx1⟩
  go_wp2_with fail
  (with_reducible refine (hb _ _ _).mono ?_)
  rintro e w2 ⟨rfl, hx2⟩
  have X := hx1.trans hx2
  have q : ∀ i, i < 6 → w2.cell? ⟨w.heap.size, i, none⟩ = some (.int .i64 0) := fun i hi => X.keep (by rcases i with _ | _ | _ | _ | _ | _ | i <;> first | (simp [go_sem]; done) | omega)
  have z : ∀ i, w2.frozen? ⟨w.heap.size, i, none⟩ = false := fun i => (X.frozen (by simp)).trans (by simp [go_sem])
  have q0 := q 0 (by omega)
  have q1 := q 1 (by omega)
  have q2 := q 2 (by omega)
  have q3 := q 3 (by omega)
  have q4 := q 4 (by omega)
  have q5 := q 5 (by omega)
  clear q X
  go_wp2_with fail
  exact bodyPost_ret (v := oneC.u.val) (by simp [results, Try.results57, go_sem, oneC, q0, q1, q2, q3, q4, q5]) rfl ⟨rfl, by (repeat (first | exact Ext.refl _ | (with_reducible assumption) | (with_reducible refine Ext.drew ?_) | (with_reducible refine Ext.alloc ?_ _) | (with_reducible refine Ext.drewN ?_ _) | (with_reducible refine Ext.setCell ?_ (by omega) _) | (with_reducible refine Ext.trans ?_ (by with_reducible assumption))))⟩
end Go.Proofs.Ytfjecbfcnngacaa
