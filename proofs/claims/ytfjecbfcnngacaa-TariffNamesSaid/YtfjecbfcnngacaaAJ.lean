/- The reference's IsTariff. -/
import Derived.Test.YtfjecbfcnngacaaAI
namespace Go.Hs
open Go.RowKit
theorem valid_no {t : Tar} (h : (inR t.start 0 120 && inR t.least 0 100 && risesB t.weeks 120 && risesB t.counts 100 && (t.counts.getD (t.counts.length - 1) 0 == 100) && decide (0 < t.rates.length)) = false) : validB t = false := by
  rw [← Bool.not_eq_true] at h ⊢
  intro g
  apply h
  unfold validB at g
  simp only [Bool.and_eq_true] at g ⊢
  exact ⟨⟨⟨⟨⟨g.1.1.1.1.1.1.1, g.1.1.1.1.1.1.2⟩, g.1.1.1.1.1.2⟩, g.1.1.1.2⟩, g.1.1.2⟩, g.1.2⟩
theorem valid_no2 {t : Tar} {c : Nat} (hc : c < t.rates.length) (h : cropB t (t.rates.getD c []) = false) : validB t = false := by
  rw [← Bool.not_eq_true]
  intro g
  unfold validB at g
  simp only [Bool.and_eq_true, allB_iff] at g
  rw [g.2 c hc] at h; cases h
theorem valid_yes {t : Tar} (h : (inR t.start 0 120 && inR t.least 0 100 && risesB t.weeks 120 && risesB t.counts 100 && (t.counts.getD (t.counts.length - 1) 0 == 100) && decide (0 < t.rates.length)) = true) (h' : ∀ c, c < t.rates.length → cropB t (t.rates.getD c []) = true) : validB t = true := by
  simp only [Bool.and_eq_true] at h
  unfold validB
  simp only [Bool.and_eq_true, allB_iff, decide_eq_true_eq]
  refine ⟨⟨⟨⟨⟨⟨⟨h.1.1.1.1.1, h.1.1.1.1.2⟩, h.1.1.1.2⟩, ?_⟩, h.1.1.2⟩, h.1.2⟩, by simpa using h.2⟩, h'⟩
  have r := (risesB_iff (by decide)).1 h.1.1.2
  have hl := h.1.2
  simp only [beq_iff_eq] at hl
  rcases Nat.lt_or_ge 1 t.counts.length with g | g
  · exact g
  · have := r.pos
    have e : t.counts.length - 1 = 0 := by omega
    rw [e, r.first] at hl
    exact absurd hl (by decide)
theorem crop_no {t : Tar} {x : List (List Int)} (h : ¬ x.length = t.weeks.length) : cropB t x = false := by simp [cropB, h]
theorem crop_no2 {t : Tar} {x : List (List Int)} {i : Nat} (hi : i < x.length) (h : rowB t.counts.length (x.getD i []) = false) : cropB t x = false := by
  rw [← Bool.not_eq_true]
  intro g
  unfold cropB at g
  simp only [Bool.and_eq_true, allB_iff] at g
  rw [g.2 i hi] at h; cases h
theorem crop_yes {t : Tar} {x : List (List Int)} (h : x.length = t.weeks.length) (h' : ∀ i, i < t.weeks.length → rowB t.counts.length (x.getD i []) = true) : cropB t x = true := by
  unfold cropB
  simp only [Bool.and_eq_true, allB_iff, decide_eq_true_eq]
  exact ⟨h, fun i hi => h' i (by omega)⟩
theorem row_no {m : Nat} {x : List Int} (h : ¬ x.length = m) : rowB m x = false := by simp [rowB, h]
theorem row_no2 {m : Nat} {x : List Int} {i : Nat} (hi : i < x.length) (h : inR (x.getD i 0) 0 100 = false) : rowB m x = false := by
  rw [← Bool.not_eq_true]
  intro g
  unfold rowB at g
  simp only [Bool.and_eq_true, allB_iff] at g
  rw [g.2 i hi] at h; cases h
theorem row_yes {m : Nat} {x : List Int} (h : x.length = m) (h' : ∀ i, i < m → inR (x.getD i 0) 0 100 = true) : rowB m x = true := by
  unfold rowB
  simp only [Bool.and_eq_true, allB_iff, decide_eq_true_eq]
  exact ⟨h, fun i hi => h' i (by omega)⟩
end Go.Hs
namespace Go.Proofs.Ytfjecbfcnngacaa
open Go.RowKit Go.Hs
attribute [local irreducible] World.setCell World.alloc

set_option maxRecDepth 100000 in
set_option maxHeartbeats 2000000 in
theorem IsTariff_any (u : V6) (t : Tar) (w : World) (hu : TarU w u t) :
    Calls Try.prog 84 #[u.val] w fun e w' => e = .returned (.bool (validB t)) ∧ Ext w w' := by
  obtain ⟨a3, k3, a4, k4, a5, k5, rfl⟩ := hu.slices
  obtain ⟨-, -, -, hc⟩ := hu
  simp only at hc
  have HN : Hid ((inR t.start 0 120 && inR t.least 0 100 && risesB t.weeks 120 && risesB t.counts 100 && (t.counts.getD (t.counts.length - 1) 0 == 100) && decide (0 < t.rates.length)) = false → validB t = false) := valid_no
  have HN2 : Hid (∀ c, c < t.rates.length → cropB t (t.rates.getD c []) = false → validB t = false) := fun c => valid_no2
  have HY : Hid ((inR t.start 0 120 && inR t.least 0 100 && risesB t.weeks 120 && risesB t.counts 100 && (t.counts.getD (t.counts.length - 1) 0 == 100) && decide (0 < t.rates.length)) = true → (∀ c, c < t.rates.length → cropB t (t.rates.getD c []) = true) → validB t = true) := valid_yes
  have HR1 : Hid (∀ W, Ext w W → Calls Try.prog 98 #[.slice a3 t.weeks.length k3, .int .i64 120] W fun e w' => e = .returned (.bool (risesB t.weeks 120)) ∧ Ext W w') := fun W hx => Rises_any _ _ 120 W (hc.weeks.ext hx) (by decide)
  have HR2 : Hid (∀ W, Ext w W → Calls Try.prog 98 #[.slice a4 t.counts.length k4, .int .i64 100] W fun e w' => e = .returned (.bool (risesB t.counts 100)) ∧ Ext W w') := fun W hx => Rises_any _ _ 100 W (hc.counts.ext hx) (by decide)
  have HRP : Hid (risesB t.counts 100 = true → 0 < t.counts.length) := fun h => ((risesB_iff (by decide)).1 h).pos
  have HCT : Hid (∀ i, i < t.counts.length → ∃ b off, a4 = some ⟨b, off, none⟩ ∧ w.cell? ⟨b, off + i, none⟩ = some (.int .i64 (t.counts.getD i 0))) := fun i hi => IntsV.get hc.counts i hi
  have HRT := Lib.hid hc.rates
  have hlr := hc.rates.len_le.2
  have hlw := hc.weeks.len_le.2
  have hlc := hc.counts.len_le.2
  clear hc
  generalize hres : validB t = res at *
  clear hres
  generalize hb3 : risesB t.weeks 120 = b3 at *
  generalize hb4 : risesB t.counts 100 = b4 at *
  clear hb3 hb4
  have HI : Hid (∀ x lo hi W, Calls Try.prog 24 #[.int .i64 x, .int .i64 lo, .int .i64 hi] W fun e w' => e = .returned (.bool (inR x lo hi)) ∧ W = w') := In_any
  cases b4 with
  | false =>
    have HE := Lib.hid (HN.out (by simp))
    have hpre : ∃ W, W = (w.alloc (.cells #[.int .i64 t.start, .bool t.whole, .int .i64 t.least, .slice a3 t.weeks.length k3, .slice a4 t.counts.length k4, .slice a5 t.rates.length k5] 62)) := ⟨_, rfl⟩
    go_enter Try.func84, Try.ntmps84
    go_wp2_with fail
    have X : Ext w (w.alloc (.cells #[.int .i64 t.start, .bool t.whole, .int .i64 t.least, .slice a3 t.weeks.length k3, .slice a4 t.counts.length k4, .slice a5 t.rates.length k5] 62)) := by (repeat (first | exact Ext.refl _ | (with_reducible assumption) | (with_reducible refine Ext.drew ?_) | (with_reducible refine Ext.alloc ?_ _) | (with_reducible refine Ext.drewN ?_ _) | (with_reducible refine Ext.setCell ?_ (by omega) _) | (with_reducible refine Ext.trans ?_ (by with_reducible assumption))))
    have t2 : (w.alloc (.cells #[.int .i64 t.start, .bool t.whole, .int .i64 t.least, .slice a3 t.weeks.length k3, .slice a4 t.counts.length k4, .slice a5 t.rates.length k5] 62)).cell? ⟨w.heap.size, 2, none⟩ = some (.int .i64 t.least) := by simp
    have t3 : (w.alloc (.cells #[.int .i64 t.start, .bool t.whole, .int .i64 t.least, .slice a3 t.weeks.length k3, .slice a4 t.counts.length k4, .slice a5 t.rates.length k5] 62)).cell? ⟨w.heap.size, 3, none⟩ = some (.slice a3 t.weeks.length k3) := by simp
    have t4 : (w.alloc (.cells #[.int .i64 t.start, .bool t.whole, .int .i64 t.least, .slice a3 t.weeks.length k3, .slice a4 t.counts.length k4, .slice a5 t.rates.length k5] 62)).cell? ⟨w.heap.size, 4, none⟩ = some (.slice a4 t.counts.length k4) := by simp
    have t5 : (w.alloc (.cells #[.int .i64 t.start, .bool t.whole, .int .i64 t.least, .slice a3 t.weeks.length k3, .slice a4 t.counts.length k4, .slice a5 t.rates.length k5] 62)).cell? ⟨w.heap.size, 5, none⟩ = some (.slice a5 t.rates.length k5) := by simp
    generalize (w.alloc (.cells #[.int .i64 t.start, .bool t.whole, .int .i64 t.least, .slice a3 t.weeks.length k3, .slice a4 t.counts.length k4, .slice a5 t.rates.length k5] 62)) = W at *
    clear hpre
    go_wp2_with (first
      | (go_at_call 24; refine (HI.out _ _ _ _).mono ?_; rintro e w' ⟨rfl, rfl⟩)
      | (go_at_call 98; (with_reducible refine (HR1.out W X).mono ?_); rintro e w2 ⟨rfl, hx2⟩; have u4 := hx2.keep t4; have u5 := hx2.keep t5)
      | (go_at_call 98; (with_reducible refine (HR2.out _ (X.trans hx2)).mono ?_); rintro e w3 ⟨rfl, hx3⟩; have v4 := hx3.keep u4; have v5 := hx3.keep u5))
    all_goals go_ret
    all_goals exact ⟨congrArg (fun x => Ending.returned (.bool x)) HE.out.symm, by (repeat (first | exact Ext.refl _ | (with_reducible assumption) | (with_reducible refine Ext.drew ?_) | (with_reducible refine Ext.alloc ?_ _) | (with_reducible refine Ext.drewN ?_ _) | (with_reducible refine Ext.setCell ?_ (by omega) _) | (with_reducible refine Ext.trans ?_ (by with_reducible assumption))))⟩
  | true =>
    have hpos := HRP.out rfl
    obtain ⟨b, off, rfl, hlast⟩ := HCT.out (t.counts.length - 1) (by omega)
    cases g1 : inR t.start 0 120 with
    | false =>
      have HE := Lib.hid (HN.out (by rw [g1]; rfl))
      have HI1 : Hid (∀ W, Calls Try.prog 24 #[.int .i64 t.start, .int .i64 0, .int .i64 120] W fun e w' => e = .returned (.bool false) ∧ W = w') := fun W => g1 ▸ HI.out _ _ _ W
      have HI2 : Hid (∀ W, Calls Try.prog 24 #[.int .i64 (-7), .int .i64 0, .int .i64 100] W fun e w' => e = .returned (.bool (inR (-7) 0 100)) ∧ W = w') := fun W => HI.out _ _ _ W
      clear g1 HN HY
      go_enter Try.func84, Try.ntmps84
      go_wp2_with fail
      have X : Ext w (w.alloc (.cells #[.int .i64 t.start, .bool t.whole, .int .i64 t.least, .slice a3 t.weeks.length k3, .slice (some ⟨b, off, none⟩) t.counts.length k4, .slice a5 t.rates.length k5] 62)) := by (repeat (first | exact Ext.refl _ | (with_reducible assumption) | (with_reducible refine Ext.drew ?_) | (with_reducible refine Ext.alloc ?_ _) | (with_reducible refine Ext.drewN ?_ _) | (with_reducible refine Ext.setCell ?_ (by omega) _) | (with_reducible refine Ext.trans ?_ (by with_reducible assumption))))
      have t2 : (w.alloc (.cells #[.int .i64 t.start, .bool t.whole, .int .i64 t.least, .slice a3 t.weeks.length k3, .slice (some ⟨b, off, none⟩) t.counts.length k4, .slice a5 t.rates.length k5] 62)).cell? ⟨w.heap.size, 2, none⟩ = some (.int .i64 t.least) := by simp
      have t3 : (w.alloc (.cells #[.int .i64 t.start, .bool t.whole, .int .i64 t.least, .slice a3 t.weeks.length k3, .slice (some ⟨b, off, none⟩) t.counts.length k4, .slice a5 t.rates.length k5] 62)).cell? ⟨w.heap.size, 3, none⟩ = some (.slice a3 t.weeks.length k3) := by simp
      have t4 : (w.alloc (.cells #[.int .i64 t.start, .bool t.whole, .int .i64 t.least, .slice a3 t.weeks.length k3, .slice (some ⟨b, off, none⟩) t.counts.length k4, .slice a5 t.rates.length k5] 62)).cell? ⟨w.heap.size, 4, none⟩ = some (.slice (some ⟨b, off, none⟩) t.counts.length k4) := by simp
      have t5 : (w.alloc (.cells #[.int .i64 t.start, .bool t.whole, .int .i64 t.least, .slice a3 t.weeks.length k3, .slice (some ⟨b, off, none⟩) t.counts.length k4, .slice a5 t.rates.length k5] 62)).cell? ⟨w.heap.size, 5, none⟩ = some (.slice a5 t.rates.length k5) := by simp
      generalize (w.alloc (.cells #[.int .i64 t.start, .bool t.whole, .int .i64 t.least, .slice a3 t.weeks.length k3, .slice (some ⟨b, off, none⟩) t.counts.length k4, .slice a5 t.rates.length k5] 62)) = W at *
      have hlX := X.keep hlast
      go_wp2_with (first
        | (go_at_call 24; with_reducible refine (HI1.out _).mono ?_; rintro e w' ⟨rfl, rfl⟩)
        | (go_at_call 24; with_reducible refine (HI2.out _).mono ?_; rintro e w' ⟨rfl, rfl⟩)
        | (go_at_call 98; (with_reducible refine (HR1.out W X).mono ?_); rintro e w2 ⟨rfl, hx2⟩; have u3 := hx2.keep t3; have u4 := hx2.keep t4; have u5 := hx2.keep t5; have hl2 := hx2.keep hlX)
        | (go_at_call 98; (with_reducible refine (HR2.out _ (X.trans hx2)).mono ?_); rintro e w3 ⟨rfl, hx3⟩; have v3 := hx3.keep u3; have v4 := hx3.keep u4; have v5 := hx3.keep u5; have hl3 := hx3.keep hl2))
      go_ret
      exact ⟨congrArg (fun x => Ending.returned (.bool x)) HE.out.symm, by (repeat (first | exact Ext.refl _ | (with_reducible assumption) | (with_reducible refine Ext.drew ?_) | (with_reducible refine Ext.alloc ?_ _) | (with_reducible refine Ext.drewN ?_ _) | (with_reducible refine Ext.setCell ?_ (by omega) _) | (with_reducible refine Ext.trans ?_ (by with_reducible assumption))))⟩
    | true =>
    cases g2 : inR t.least 0 100 with
    | false =>
      have HE := Lib.hid (HN.out (by rw [g1, g2]; rfl))
      have HI1 : Hid (∀ W, Calls Try.prog 24 #[.int .i64 t.start, .int .i64 0, .int .i64 120] W fun e w' => e = .returned (.bool true) ∧ W = w') := fun W => g1 ▸ HI.out _ _ _ W
      have HI2 : Hid (∀ W, Calls Try.prog 24 #[.int .i64 t.least, .int .i64 0, .int .i64 100] W fun e w' => e = .returned (.bool false) ∧ W = w') := fun W => g2 ▸ HI.out _ _ _ W
      clear g1 g2 HN HY
      go_enter Try.func84, Try.ntmps84
      go_wp2_with fail
      have X : Ext w (w.alloc (.cells #[.int .i64 t.start, .bool t.whole, .int .i64 t.least, .slice a3 t.weeks.length k3, .slice (some ⟨b, off, none⟩) t.counts.length k4, .slice a5 t.rates.length k5] 62)) := by (repeat (first | exact Ext.refl _ | (with_reducible assumption) | (with_reducible refine Ext.drew ?_) | (with_reducible refine Ext.alloc ?_ _) | (with_reducible refine Ext.drewN ?_ _) | (with_reducible refine Ext.setCell ?_ (by omega) _) | (with_reducible refine Ext.trans ?_ (by with_reducible assumption))))
      have t2 : (w.alloc (.cells #[.int .i64 t.start, .bool t.whole, .int .i64 t.least, .slice a3 t.weeks.length k3, .slice (some ⟨b, off, none⟩) t.counts.length k4, .slice a5 t.rates.length k5] 62)).cell? ⟨w.heap.size, 2, none⟩ = some (.int .i64 t.least) := by simp
      have t3 : (w.alloc (.cells #[.int .i64 t.start, .bool t.whole, .int .i64 t.least, .slice a3 t.weeks.length k3, .slice (some ⟨b, off, none⟩) t.counts.length k4, .slice a5 t.rates.length k5] 62)).cell? ⟨w.heap.size, 3, none⟩ = some (.slice a3 t.weeks.length k3) := by simp
      have t4 : (w.alloc (.cells #[.int .i64 t.start, .bool t.whole, .int .i64 t.least, .slice a3 t.weeks.length k3, .slice (some ⟨b, off, none⟩) t.counts.length k4, .slice a5 t.rates.length k5] 62)).cell? ⟨w.heap.size, 4, none⟩ = some (.slice (some ⟨b, off, none⟩) t.counts.length k4) := by simp
      have t5 : (w.alloc (.cells #[.int .i64 t.start, .bool t.whole, .int .i64 t.least, .slice a3 t.weeks.length k3, .slice (some ⟨b, off, none⟩) t.counts.length k4, .slice a5 t.rates.length k5] 62)).cell? ⟨w.heap.size, 5, none⟩ = some (.slice a5 t.rates.length k5) := by simp
      generalize (w.alloc (.cells #[.int .i64 t.start, .bool t.whole, .int .i64 t.least, .slice a3 t.weeks.length k3, .slice (some ⟨b, off, none⟩) t.counts.length k4, .slice a5 t.rates.length k5] 62)) = W at *
      have hlX := X.keep hlast
      go_wp2_with (first
        | (go_at_call 24; with_reducible refine (HI1.out _).mono ?_; rintro e w' ⟨rfl, rfl⟩)
        | (go_at_call 24; with_reducible refine (HI2.out _).mono ?_; rintro e w' ⟨rfl, rfl⟩)
        | (go_at_call 98; (with_reducible refine (HR1.out W X).mono ?_); rintro e w2 ⟨rfl, hx2⟩; have u3 := hx2.keep t3; have u4 := hx2.keep t4; have u5 := hx2.keep t5; have hl2 := hx2.keep hlX)
        | (go_at_call 98; (with_reducible refine (HR2.out _ (X.trans hx2)).mono ?_); rintro e w3 ⟨rfl, hx3⟩; have v3 := hx3.keep u3; have v4 := hx3.keep u4; have v5 := hx3.keep u5; have hl3 := hx3.keep hl2))
      go_ret
      exact ⟨congrArg (fun x => Ending.returned (.bool x)) HE.out.symm, by (repeat (first | exact Ext.refl _ | (with_reducible assumption) | (with_reducible refine Ext.drew ?_) | (with_reducible refine Ext.alloc ?_ _) | (with_reducible refine Ext.drewN ?_ _) | (with_reducible refine Ext.setCell ?_ (by omega) _) | (with_reducible refine Ext.trans ?_ (by with_reducible assumption))))⟩
    | true =>
    have HI1 : Hid (∀ W, Calls Try.prog 24 #[.int .i64 t.start, .int .i64 0, .int .i64 120] W fun e w' => e = .returned (.bool true) ∧ W = w') := fun W => g1 ▸ HI.out _ _ _ W
    have HI2 : Hid (∀ W, Calls Try.prog 24 #[.int .i64 t.least, .int .i64 0, .int .i64 100] W fun e w' => e = .returned (.bool true) ∧ W = w') := fun W => g2 ▸ HI.out _ _ _ W
    cases b3 with
    | false =>
      have HE := Lib.hid (HN.out (by rw [g1, g2]; rfl))
      clear g1 g2 HN HY
      go_enter Try.func84, Try.ntmps84
      go_wp2_with fail
      have X : Ext w (w.alloc (.cells #[.int .i64 t.start, .bool t.whole, .int .i64 t.least, .slice a3 t.weeks.length k3, .slice (some ⟨b, off, none⟩) t.counts.length k4, .slice a5 t.rates.length k5] 62)) := by (repeat (first | exact Ext.refl _ | (with_reducible assumption) | (with_reducible refine Ext.drew ?_) | (with_reducible refine Ext.alloc ?_ _) | (with_reducible refine Ext.drewN ?_ _) | (with_reducible refine Ext.setCell ?_ (by omega) _) | (with_reducible refine Ext.trans ?_ (by with_reducible assumption))))
      have t2 : (w.alloc (.cells #[.int .i64 t.start, .bool t.whole, .int .i64 t.least, .slice a3 t.weeks.length k3, .slice (some ⟨b, off, none⟩) t.counts.length k4, .slice a5 t.rates.length k5] 62)).cell? ⟨w.heap.size, 2, none⟩ = some (.int .i64 t.least) := by simp
      have t3 : (w.alloc (.cells #[.int .i64 t.start, .bool t.whole, .int .i64 t.least, .slice a3 t.weeks.length k3, .slice (some ⟨b, off, none⟩) t.counts.length k4, .slice a5 t.rates.length k5] 62)).cell? ⟨w.heap.size, 3, none⟩ = some (.slice a3 t.weeks.length k3) := by simp
      have t4 : (w.alloc (.cells #[.int .i64 t.start, .bool t.whole, .int .i64 t.least, .slice a3 t.weeks.length k3, .slice (some ⟨b, off, none⟩) t.counts.length k4, .slice a5 t.rates.length k5] 62)).cell? ⟨w.heap.size, 4, none⟩ = some (.slice (some ⟨b, off, none⟩) t.counts.length k4) := by simp
      have t5 : (w.alloc (.cells #[.int .i64 t.start, .bool t.whole, .int .i64 t.least, .slice a3 t.weeks.length k3, .slice (some ⟨b, off, none⟩) t.counts.length k4, .slice a5 t.rates.length k5] 62)).cell? ⟨w.heap.size, 5, none⟩ = some (.slice a5 t.rates.length k5) := by simp
      generalize (w.alloc (.cells #[.int .i64 t.start, .bool t.whole, .int .i64 t.least, .slice a3 t.weeks.length k3, .slice (some ⟨b, off, none⟩) t.counts.length k4, .slice a5 t.rates.length k5] 62)) = W at *
      have hlX := X.keep hlast
      go_wp2_with (first
        | (go_at_call 24; with_reducible refine (HI1.out _).mono ?_; rintro e w' ⟨rfl, rfl⟩)
        | (go_at_call 24; with_reducible refine (HI2.out _).mono ?_; rintro e w' ⟨rfl, rfl⟩)
        | (go_at_call 98; (with_reducible refine (HR1.out W X).mono ?_); rintro e w2 ⟨rfl, hx2⟩; have u3 := hx2.keep t3; have u4 := hx2.keep t4; have u5 := hx2.keep t5; have hl2 := hx2.keep hlX)
        | (go_at_call 98; (with_reducible refine (HR2.out _ (X.trans hx2)).mono ?_); rintro e w3 ⟨rfl, hx3⟩; have v3 := hx3.keep u3; have v4 := hx3.keep u4; have v5 := hx3.keep u5; have hl3 := hx3.keep hl2))
      go_ret
      exact ⟨congrArg (fun x => Ending.returned (.bool x)) HE.out.symm, by (repeat (first | exact Ext.refl _ | (with_reducible assumption) | (with_reducible refine Ext.drew ?_) | (with_reducible refine Ext.alloc ?_ _) | (with_reducible refine Ext.drewN ?_ _) | (with_reducible refine Ext.setCell ?_ (by omega) _) | (with_reducible refine Ext.trans ?_ (by with_reducible assumption))))⟩
    | true =>
    by_cases g4 : t.counts.getD (t.counts.length - 1) 0 = 100
    · by_cases g5 : 0 < t.rates.length
      · have HYY : Hid ((∀ c, c < t.rates.length → cropB t (t.rates.getD c []) = true) → res = true) := HY.out (by rw [g1, g2, show (t.counts.getD (t.counts.length - 1) 0 == 100) = true by rw [g4]; rfl, decide_eq_true g5]; rfl)
        rw [g4] at hlast
        clear g1 g2 g4 HN HY
        have g5b : ((t.rates.length : Int) == 0) = false := beq_eq_false_iff_ne.2 (by omega)
        go_enter Try.func84, Try.ntmps84
        go_wp2_with fail
        have X : Ext w (w.alloc (.cells #[.int .i64 t.start, .bool t.whole, .int .i64 t.least, .slice a3 t.weeks.length k3, .slice (some ⟨b, off, none⟩) t.counts.length k4, .slice a5 t.rates.length k5] 62)) := by (repeat (first | exact Ext.refl _ | (with_reducible assumption) | (with_reducible refine Ext.drew ?_) | (with_reducible refine Ext.alloc ?_ _) | (with_reducible refine Ext.drewN ?_ _) | (with_reducible refine Ext.setCell ?_ (by omega) _) | (with_reducible refine Ext.trans ?_ (by with_reducible assumption))))
        have t2 : (w.alloc (.cells #[.int .i64 t.start, .bool t.whole, .int .i64 t.least, .slice a3 t.weeks.length k3, .slice (some ⟨b, off, none⟩) t.counts.length k4, .slice a5 t.rates.length k5] 62)).cell? ⟨w.heap.size, 2, none⟩ = some (.int .i64 t.least) := by simp
        have t3 : (w.alloc (.cells #[.int .i64 t.start, .bool t.whole, .int .i64 t.least, .slice a3 t.weeks.length k3, .slice (some ⟨b, off, none⟩) t.counts.length k4, .slice a5 t.rates.length k5] 62)).cell? ⟨w.heap.size, 3, none⟩ = some (.slice a3 t.weeks.length k3) := by simp
        have t4 : (w.alloc (.cells #[.int .i64 t.start, .bool t.whole, .int .i64 t.least, .slice a3 t.weeks.length k3, .slice (some ⟨b, off, none⟩) t.counts.length k4, .slice a5 t.rates.length k5] 62)).cell? ⟨w.heap.size, 4, none⟩ = some (.slice (some ⟨b, off, none⟩) t.counts.length k4) := by simp
        have t5 : (w.alloc (.cells #[.int .i64 t.start, .bool t.whole, .int .i64 t.least, .slice a3 t.weeks.length k3, .slice (some ⟨b, off, none⟩) t.counts.length k4, .slice a5 t.rates.length k5] 62)).cell? ⟨w.heap.size, 5, none⟩ = some (.slice a5 t.rates.length k5) := by simp
        generalize (w.alloc (.cells #[.int .i64 t.start, .bool t.whole, .int .i64 t.least, .slice a3 t.weeks.length k3, .slice (some ⟨b, off, none⟩) t.counts.length k4, .slice a5 t.rates.length k5] 62)) = W at *
        have hlX := X.keep hlast
        go_wp2_with (first
          | (go_at_call 24; with_reducible refine (HI1.out _).mono ?_; rintro e w' ⟨rfl, rfl⟩)
          | (go_at_call 24; with_reducible refine (HI2.out _).mono ?_; rintro e w' ⟨rfl, rfl⟩)
          | (go_at_call 98; (with_reducible refine (HR1.out W X).mono ?_); rintro e w2 ⟨rfl, hx2⟩; have u3 := hx2.keep t3; have u4 := hx2.keep t4; have u5 := hx2.keep t5; have hl2 := hx2.keep hlX)
          | (go_at_call 98; (with_reducible refine (HR2.out _ (X.trans hx2)).mono ?_); rintro e w3 ⟨rfl, hx3⟩; have v3 := hx3.keep u3; have v4 := hx3.keep u4; have v5 := hx3.keep u5; have hl3 := hx3.keep hl2))
        have Y : Ext w w3 := X.trans (hx2.trans hx3)
        clear hx2 hx3 u3 u4 u5 hl2 hl3 t2 t3 t4 t5 X hlX
        go_loopw [3, 4, 5] (fun s3 _ _ wr => ∃ c : Nat, c ≤ t.rates.length ∧ s3 = .int .i64 c ∧ Hid (∀ m, m < c → cropB t (t.rates.getD m []) = true) ∧ Ext w3 wr) (fun i _ _ _ => t.rates.length - (intOf i).toNat)
        case atStart => exact ⟨0, Nat.zero_le _, rfl, fun m h => absurd h (Nat.not_lt_zero _), Ext.refl _⟩
        case round =>
          obtain ⟨c, hc, rfl, HA, hxr⟩ := hrel
          have z3 := hxr.keep v3
          have z4 := hxr.keep v4
          have z5 := hxr.keep v5
          obtain ⟨wa, rfl⟩ : ∃ x, x = wr := ⟨_, rfl⟩
          by_cases hlt : c < t.rates.length
          · obtain ⟨b5, o5, a6, k6, rfl, m6, i6⟩ := HRT.out.get c hlt
            have z6 := hxr.keep (Y.keep m6)
            have HNc : Hid (cropB t (t.rates.getD c []) = false → res = false) := HN2.out c hlt
            have HAX : Hid (cropB t (t.rates.getD c []) = true → ∀ m, m < c + 1 → cropB t (t.rates.getD m []) = true) := fun h => upTo_next HA.out h
            have hlen6 := i6.len_le.2
            have HI6 := Lib.hid i6
            clear i6 m6
            generalize t.rates.getD c [] = crop at *
            by_cases hcl : crop.length = t.weeks.length
            · have HCN : Hid (∀ i, i < crop.length → rowB t.counts.length (crop.getD i []) = false → cropB t crop = false) := fun i => crop_no2
              have HCY : Hid ((∀ i, i < t.weeks.length → rowB t.counts.length (crop.getD i []) = true) → cropB t crop = true) := crop_yes hcl
              go_wp2_with fail
              go_upto_region 6 with fail
              go_quiet (fail)
              go_wp2_with fail
              go_loopw [4, 5] (fun s4 _ wr => ∃ i : Nat, i ≤ t.weeks.length ∧ s4 = .int .i64 i ∧ Hid (∀ m, m < i → rowB t.counts.length (crop.getD m []) = true) ∧ Ext wa wr) (fun i _ _ => t.weeks.length - (intOf i).toNat)
              case atStart => exact ⟨0, Nat.zero_le _, rfl, fun m h => absurd h (Nat.not_lt_zero _), by (repeat (first | exact Ext.refl _ | (with_reducible assumption) | (with_reducible refine Ext.drew ?_) | (with_reducible refine Ext.alloc ?_ _) | (with_reducible refine Ext.drewN ?_ _) | (with_reducible refine Ext.setCell ?_ (by omega) _) | (with_reducible refine Ext.trans ?_ (by with_reducible assumption))))⟩
              case round =>
                obtain ⟨i, hi, rfl, HW, hxi⟩ := hrel
                have y3 := hxi.keep z3
                have y4 := hxi.keep z4
                have y5 := hxi.keep z5
                have y6 := hxi.keep z6
                obtain ⟨wi, rfl⟩ : ∃ x, x = wr := ⟨_, rfl⟩
                by_cases hit : i < t.weeks.length
                · obtain ⟨b6, o6, a7, k7, rfl, m7, i7⟩ := HI6.out.get i (by omega)
                  have y7 := hxi.keep (hxr.keep (Y.keep m7))
                  have HNi : Hid (rowB t.counts.length (crop.getD i []) = false → cropB t crop = false) := HCN.out i (by omega)
                  have HWX : Hid (rowB t.counts.length (crop.getD i []) = true → ∀ m, m < i + 1 → rowB t.counts.length (crop.getD m []) = true) := fun h => upTo_next HW.out h
                  have hlen7 := i7.len_le.2
                  have HI7 := Lib.hid i7
                  clear i7 m7
                  generalize crop.getD i [] = row at *
                  by_cases hrl : row.length = t.counts.length
                  · have HRN : Hid (∀ j, j < row.length → inR (row.getD j 0) 0 100 = false → rowB t.counts.length row = false) := fun j => row_no2
                    have HRY : Hid ((∀ j, j < t.counts.length → inR (row.getD j 0) 0 100 = true) → rowB t.counts.length row = true) := row_yes hrl
                    go_wp2_with fail
                    go_upto_region 11 with fail
                    go_quiet (fail)
                    go_wp2_with fail
                    go_loopw [5] (fun s5 wr => ∃ j : Nat, j ≤ t.counts.length ∧ s5 = .int .i64 j ∧ Hid (∀ m, m < j → inR (row.getD m 0) 0 100 = true) ∧ Ext wi wr) (fun j _ => t.counts.length - (intOf j).toNat)
                    case atStart => exact ⟨0, Nat.zero_le _, rfl, fun m h => absurd h (Nat.not_lt_zero _), by (repeat (first | exact Ext.refl _ | (with_reducible assumption) | (with_reducible refine Ext.drew ?_) | (with_reducible refine Ext.alloc ?_ _) | (with_reducible refine Ext.drewN ?_ _) | (with_reducible refine Ext.setCell ?_ (by omega) _) | (with_reducible refine Ext.trans ?_ (by with_reducible assumption))))⟩
                    case round =>
                      obtain ⟨j, hj, rfl, HJ, hxj⟩ := hrel
                      have x3 := hxj.keep y3
                      have x4 := hxj.keep y4
                      have x5 := hxj.keep y5
                      have x6 := hxj.keep y6
                      have x7 := hxj.keep y7
                      by_cases hjt : j < t.counts.length
                      · obtain ⟨b7, o7, rfl, m8⟩ := HI7.out.get j (by omega)
                        have x8 := hxj.keep (hxi.keep (hxr.keep (Y.keep m8)))
                        have HRj : Hid (inR (row.getD j 0) 0 100 = false → rowB t.counts.length row = false) := HRN.out j (by omega)
                        have HJX : Hid (inR (row.getD j 0) 0 100 = true → ∀ m, m < j + 1 → inR (row.getD m 0) 0 100 = true) := fun h => upTo_next HJ.out h
                        clear m8
                        generalize row.getD j 0 = x at *
                        cases hin : inR x 0 100 with
                        | true =>
                          have HIN : Hid (∀ W, Calls Try.prog 24 #[.int .i64 x, .int .i64 0, .int .i64 100] W fun e w' => e = .returned (.bool true) ∧ W = w') := fun W => hin ▸ HI.out _ _ _ W
                          have HE := Lib.hid (HJX.out hin)
                          clear hin
                          go_wp2_with (go_at_call 24; with_reducible refine (HIN.out _).mono ?_; rintro e w' ⟨rfl, rfl⟩)
                          go_roundw
                          case rel =>
                            first
                              | exact ⟨j + 1, by omega, by go_num, HE.out, by (repeat (first | exact Ext.refl _ | (with_reducible assumption) | (with_reducible refine Ext.drew ?_) | (with_reducible refine Ext.alloc ?_ _) | (with_reducible refine Ext.drewN ?_ _) | (with_reducible refine Ext.setCell ?_ (by omega) _) | (with_reducible refine Ext.trans ?_ (by with_reducible assumption))))⟩
                              | ((repeat apply Exists.intro)
                                 exact ⟨⟨j + 1, by omega, by go_num, HE.out, by (repeat (first | exact Ext.refl _ | (with_reducible assumption) | (with_reducible refine Ext.drew ?_) | (with_reducible refine Ext.alloc ?_ _) | (with_reducible refine Ext.drewN ?_ _) | (with_reducible refine Ext.setCell ?_ (by omega) _) | (with_reducible refine Ext.trans ?_ (by with_reducible assumption))))⟩, rfl⟩)
                          case measure => simp [intOf]; omega
                        | false =>
                          have HIN : Hid (∀ W, Calls Try.prog 24 #[.int .i64 x, .int .i64 0, .int .i64 100] W fun e w' => e = .returned (.bool false) ∧ W = w') := fun W => hin ▸ HI.out _ _ _ W
                          have HE := Lib.hid (HNc.out (HNi.out (HRj.out hin)))
                          clear hin
                          go_wp2_with (go_at_call 24; with_reducible refine (HIN.out _).mono ?_; rintro e w' ⟨rfl, rfl⟩)
                          go_ret
                          exact ⟨congrArg (fun x => Ending.returned (.bool x)) HE.out.symm, by (repeat (first | exact Ext.refl _ | (with_reducible assumption) | (with_reducible refine Ext.drew ?_) | (with_reducible refine Ext.alloc ?_ _) | (with_reducible refine Ext.drewN ?_ _) | (with_reducible refine Ext.setCell ?_ (by omega) _) | (with_reducible refine Ext.trans ?_ (by with_reducible assumption))))⟩
                      · have e : j = t.counts.length := by omega
                        subst e
                        have HE := Lib.hid (HWX.out (HRY.out HJ.out))
                        go_wp2_with fail
                        go_roundw
                        case rel => exact ⟨i + 1, by omega, by go_num, HE.out, by (repeat (first | exact Ext.refl _ | (with_reducible assumption) | (with_reducible refine Ext.drew ?_) | (with_reducible refine Ext.alloc ?_ _) | (with_reducible refine Ext.drewN ?_ _) | (with_reducible refine Ext.setCell ?_ (by omega) _) | (with_reducible refine Ext.trans ?_ (by with_reducible assumption))))⟩
                        case measure => simp [intOf]; omega
                  · have HE := Lib.hid (HNc.out (HNi.out (row_no hrl)))
                    go_wp2_with fail
                    go_upto_region 11 with fail
                    go_quiet (fail)
                    go_wp2_with fail
                    go_ret
                    exact ⟨congrArg (fun x => Ending.returned (.bool x)) HE.out.symm, by (repeat (first | exact Ext.refl _ | (with_reducible assumption) | (with_reducible refine Ext.drew ?_) | (with_reducible refine Ext.alloc ?_ _) | (with_reducible refine Ext.drewN ?_ _) | (with_reducible refine Ext.setCell ?_ (by omega) _) | (with_reducible refine Ext.trans ?_ (by with_reducible assumption))))⟩
                · have e : i = t.weeks.length := by omega
                  subst e
                  have HE := Lib.hid (HAX.out (HCY.out HW.out))
                  go_wp2_with fail
                  go_roundw
                  case rel => exact ⟨c + 1, by omega, by go_num, HE.out, by (repeat (first | exact Ext.refl _ | (with_reducible assumption) | (with_reducible refine Ext.drew ?_) | (with_reducible refine Ext.alloc ?_ _) | (with_reducible refine Ext.drewN ?_ _) | (with_reducible refine Ext.setCell ?_ (by omega) _) | (with_reducible refine Ext.trans ?_ (by with_reducible assumption))))⟩
                  case measure => simp [intOf]; omega
            · have HE := Lib.hid (HNc.out (crop_no hcl))
              go_wp2_with fail
              go_upto_region 6 with fail
              go_quiet (fail)
              go_wp2_with fail
              go_ret
              exact ⟨congrArg (fun x => Ending.returned (.bool x)) HE.out.symm, by (repeat (first | exact Ext.refl _ | (with_reducible assumption) | (with_reducible refine Ext.drew ?_) | (with_reducible refine Ext.alloc ?_ _) | (with_reducible refine Ext.drewN ?_ _) | (with_reducible refine Ext.setCell ?_ (by omega) _) | (with_reducible refine Ext.trans ?_ (by with_reducible assumption))))⟩
          · have e : c = t.rates.length := by omega
            subst e
            have HE := Lib.hid (HYY.out HA.out)
            go_wp2_with fail
            go_ret
            exact ⟨congrArg (fun x => Ending.returned (.bool x)) HE.out.symm, by (repeat (first | exact Ext.refl _ | (with_reducible assumption) | (with_reducible refine Ext.drew ?_) | (with_reducible refine Ext.alloc ?_ _) | (with_reducible refine Ext.drewN ?_ _) | (with_reducible refine Ext.setCell ?_ (by omega) _) | (with_reducible refine Ext.trans ?_ (by with_reducible assumption))))⟩
      · have HE := Lib.hid (HN.out (by rw [g1, g2, show decide (0 < t.rates.length) = false by simpa using g5]; simp))
        rw [g4] at hlast
        clear g1 g2 g4 HN HY
        go_enter Try.func84, Try.ntmps84
        go_wp2_with fail
        have X : Ext w (w.alloc (.cells #[.int .i64 t.start, .bool t.whole, .int .i64 t.least, .slice a3 t.weeks.length k3, .slice (some ⟨b, off, none⟩) t.counts.length k4, .slice a5 t.rates.length k5] 62)) := by (repeat (first | exact Ext.refl _ | (with_reducible assumption) | (with_reducible refine Ext.drew ?_) | (with_reducible refine Ext.alloc ?_ _) | (with_reducible refine Ext.drewN ?_ _) | (with_reducible refine Ext.setCell ?_ (by omega) _) | (with_reducible refine Ext.trans ?_ (by with_reducible assumption))))
        have t2 : (w.alloc (.cells #[.int .i64 t.start, .bool t.whole, .int .i64 t.least, .slice a3 t.weeks.length k3, .slice (some ⟨b, off, none⟩) t.counts.length k4, .slice a5 t.rates.length k5] 62)).cell? ⟨w.heap.size, 2, none⟩ = some (.int .i64 t.least) := by simp
        have t3 : (w.alloc (.cells #[.int .i64 t.start, .bool t.whole, .int .i64 t.least, .slice a3 t.weeks.length k3, .slice (some ⟨b, off, none⟩) t.counts.length k4, .slice a5 t.rates.length k5] 62)).cell? ⟨w.heap.size, 3, none⟩ = some (.slice a3 t.weeks.length k3) := by simp
        have t4 : (w.alloc (.cells #[.int .i64 t.start, .bool t.whole, .int .i64 t.least, .slice a3 t.weeks.length k3, .slice (some ⟨b, off, none⟩) t.counts.length k4, .slice a5 t.rates.length k5] 62)).cell? ⟨w.heap.size, 4, none⟩ = some (.slice (some ⟨b, off, none⟩) t.counts.length k4) := by simp
        have t5 : (w.alloc (.cells #[.int .i64 t.start, .bool t.whole, .int .i64 t.least, .slice a3 t.weeks.length k3, .slice (some ⟨b, off, none⟩) t.counts.length k4, .slice a5 t.rates.length k5] 62)).cell? ⟨w.heap.size, 5, none⟩ = some (.slice a5 t.rates.length k5) := by simp
        generalize (w.alloc (.cells #[.int .i64 t.start, .bool t.whole, .int .i64 t.least, .slice a3 t.weeks.length k3, .slice (some ⟨b, off, none⟩) t.counts.length k4, .slice a5 t.rates.length k5] 62)) = W at *
        have hlX := X.keep hlast
        go_wp2_with (first
          | (go_at_call 24; with_reducible refine (HI1.out _).mono ?_; rintro e w' ⟨rfl, rfl⟩)
          | (go_at_call 24; with_reducible refine (HI2.out _).mono ?_; rintro e w' ⟨rfl, rfl⟩)
          | (go_at_call 98; (with_reducible refine (HR1.out W X).mono ?_); rintro e w2 ⟨rfl, hx2⟩; have u3 := hx2.keep t3; have u4 := hx2.keep t4; have u5 := hx2.keep t5; have hl2 := hx2.keep hlX)
          | (go_at_call 98; (with_reducible refine (HR2.out _ (X.trans hx2)).mono ?_); rintro e w3 ⟨rfl, hx3⟩; have v3 := hx3.keep u3; have v4 := hx3.keep u4; have v5 := hx3.keep u5; have hl3 := hx3.keep hl2))
        go_ret
        exact ⟨congrArg (fun x => Ending.returned (.bool x)) HE.out.symm, by (repeat (first | exact Ext.refl _ | (with_reducible assumption) | (with_reducible refine Ext.drew ?_) | (with_reducible refine Ext.alloc ?_ _) | (with_reducible refine Ext.drewN ?_ _) | (with_reducible refine Ext.setCell ?_ (by omega) _) | (with_reducible refine Ext.trans ?_ (by with_reducible assumption))))⟩
    · have HE := Lib.hid (HN.out (by rw [g1, g2, show (t.counts.getD (t.counts.length - 1) 0 == 100) = false by simpa using g4]; simp))
      clear g1 g2 HN HY
      generalize t.counts.getD (t.counts.length - 1) 0 = xl at *
      go_enter Try.func84, Try.ntmps84
      go_wp2_with fail
      have X : Ext w (w.alloc (.cells #[.int .i64 t.start, .bool t.whole, .int .i64 t.least, .slice a3 t.weeks.length k3, .slice (some ⟨b, off, none⟩) t.counts.length k4, .slice a5 t.rates.length k5] 62)) := by (repeat (first | exact Ext.refl _ | (with_reducible assumption) | (with_reducible refine Ext.drew ?_) | (with_reducible refine Ext.alloc ?_ _) | (with_reducible refine Ext.drewN ?_ _) | (with_reducible refine Ext.setCell ?_ (by omega) _) | (with_reducible refine Ext.trans ?_ (by with_reducible assumption))))
      have t2 : (w.alloc (.cells #[.int .i64 t.start, .bool t.whole, .int .i64 t.least, .slice a3 t.weeks.length k3, .slice (some ⟨b, off, none⟩) t.counts.length k4, .slice a5 t.rates.length k5] 62)).cell? ⟨w.heap.size, 2, none⟩ = some (.int .i64 t.least) := by simp
      have t3 : (w.alloc (.cells #[.int .i64 t.start, .bool t.whole, .int .i64 t.least, .slice a3 t.weeks.length k3, .slice (some ⟨b, off, none⟩) t.counts.length k4, .slice a5 t.rates.length k5] 62)).cell? ⟨w.heap.size, 3, none⟩ = some (.slice a3 t.weeks.length k3) := by simp
      have t4 : (w.alloc (.cells #[.int .i64 t.start, .bool t.whole, .int .i64 t.least, .slice a3 t.weeks.length k3, .slice (some ⟨b, off, none⟩) t.counts.length k4, .slice a5 t.rates.length k5] 62)).cell? ⟨w.heap.size, 4, none⟩ = some (.slice (some ⟨b, off, none⟩) t.counts.length k4) := by simp
      have t5 : (w.alloc (.cells #[.int .i64 t.start, .bool t.whole, .int .i64 t.least, .slice a3 t.weeks.length k3, .slice (some ⟨b, off, none⟩) t.counts.length k4, .slice a5 t.rates.length k5] 62)).cell? ⟨w.heap.size, 5, none⟩ = some (.slice a5 t.rates.length k5) := by simp
      generalize (w.alloc (.cells #[.int .i64 t.start, .bool t.whole, .int .i64 t.least, .slice a3 t.weeks.length k3, .slice (some ⟨b, off, none⟩) t.counts.length k4, .slice a5 t.rates.length k5] 62)) = W at *
      have hlX := X.keep hlast
      go_wp2_with (first
        | (go_at_call 24; with_reducible refine (HI1.out _).mono ?_; rintro e w' ⟨rfl, rfl⟩)
        | (go_at_call 24; with_reducible refine (HI2.out _).mono ?_; rintro e w' ⟨rfl, rfl⟩)
        | (go_at_call 98; (with_reducible refine (HR1.out W X).mono ?_); rintro e w2 ⟨rfl, hx2⟩; have u3 := hx2.keep t3; have u4 := hx2.keep t4; have u5 := hx2.keep t5; have hl2 := hx2.keep hlX)
        | (go_at_call 98; (with_reducible refine (HR2.out _ (X.trans hx2)).mono ?_); rintro e w3 ⟨rfl, hx3⟩; have v3 := hx3.keep u3; have v4 := hx3.keep u4; have v5 := hx3.keep u5; have hl3 := hx3.keep hl2))
      go_ret
      exact ⟨congrArg (fun x => Ending.returned (.bool x)) HE.out.symm, by (repeat (first | exact Ext.refl _ | (with_reducible assumption) | (with_reducible refine Ext.drew ?_) | (with_reducible refine Ext.alloc ?_ _) | (with_reducible refine Ext.drewN ?_ _) | (with_reducible refine Ext.setCell ?_ (by omega) _) | (with_reducible refine Ext.trans ?_ (by with_reducible assumption))))⟩
end Go.Proofs.Ytfjecbfcnngacaa
