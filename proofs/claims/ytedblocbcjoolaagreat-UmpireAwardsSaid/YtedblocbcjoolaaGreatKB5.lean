/- Bundled: what the texts AI AJ AK AF AG AL AM AN AO VI say one after another. -/
import Derived.Test.YtedblocbcjoolaaGreatKB2
import Derived.Test.YtedblocbcjoolaaGreatKB4
import Derived.Test.YtedblocbcjoolaaGreatKB1
import Derived.Maps.AppendAt
import Derived.Deep.CutRange
import Derived.RegionTactic
import Derived.Deep.RegionWith
/- The reference's small functions: ranges, rising lists, the last number. -/
namespace Go.Hs
open Go.RowKit
def goodI (xs : List Int) (most : Int) (k : Nat) : Prop := inR (xs.getD k 0) 0 most = true ∧ (0 < k → xs.getD (k - 1) 0 < xs.getD k 0)
theorem rises_bad {xs : List Int} {most : Int} (hm : most ≤ 1000) {k : Nat} (hk : k < xs.length) (h : ¬ goodI xs most k) : risesB xs most = false := by
  rw [← Bool.not_eq_true, risesB_iff hm]
  intro r
  refine h ⟨inR_iff.2 (r.bound k hk), fun h0 => r.strict _ _ (by omega) hk⟩
theorem rises_good {xs : List Int} {most : Int} (hm : most ≤ 1000) (h : ∀ k, k < xs.length → goodI xs most k) : risesB xs most = (decide (0 < xs.length) && (xs.getD 0 0 == 0)) := by
  rw [Bool.eq_iff_iff, risesB_iff hm]
  simp only [Bool.and_eq_true, decide_eq_true_eq, beq_iff_eq]
  constructor
  · exact fun r => ⟨r.pos, r.first⟩
  · rintro ⟨h1, h2⟩
    refine ⟨h1, h2, strict_of_step (f := fun i => xs.getD i 0) (n := xs.length) (fun i hi => ?_), fun i hi => inR_iff.1 (h i hi).1⟩
    have := (h (i + 1) hi).2 (by omega)
    simpa using this
/-- Where the last number lies that is at most another one. -/
structure LastP (xs : List Int) (n : Int) (i : Nat) : Prop where
  lt : i = 0 ∨ i < xs.length
  le : ∀ m, 1 ≤ m → m ≤ i → xs.getD m 0 ≤ n
  gt : i + 1 < xs.length → n < xs.getD (i + 1) 0
end Go.Hs
namespace Go.Proofs.YtedblocbcjoolaaGreat
open Go.RowKit Go.Hs
attribute [local irreducible] World.setCell World.alloc

theorem In_any (n lo hi : Int) (w : World) :
    Calls Tryz.prog 56 #[.int .i64 n, .int .i64 lo, .int .i64 hi] w fun e w' => e = .returned (.bool (inR n lo hi)) ∧ w = w' := by
  by_cases h : lo ≤ n
  · go_enter Tryz.func56, Tryz.ntmps56
    go_wp2
    go_ret
    exact ⟨ret_bool (by simp [inR, h]), rfl⟩
  · go_enter Tryz.func56, Tryz.ntmps56
    go_wp2
    go_ret
    exact ⟨ret_bool (by have : ¬ lo ≤ n := by omega
                        simp [inR, this]), rfl⟩

set_option maxHeartbeats 1000000 in
theorem Last_any (v : Value) (xs : List Int) (n : Int) (w : World) (hv : IntsV w v xs) :
    Calls Tryz.prog 121 #[v, .int .i64 n] w fun e w' => (∃ i : Nat, LastP xs n i ∧ e = .returned (.int .i64 i)) ∧ w = w' := by
  obtain ⟨a, c, rfl, h1, h2, hr⟩ := hv
  have hcell : ∀ i, i < xs.length → ∃ b off, a = some ⟨b, off, none⟩ ∧ w.cell? ⟨b, off + i, none⟩ = some (.int .i64 (xs.getD i 0)) := by
    intro i hi
    obtain ⟨b, off, he, hc⟩ := hr i hi
    exact ⟨b, off, he, by have := hc.1; simpa [hi] using this⟩
  have HC := Lib.hid hcell
  clear hcell hr
  go_enter Tryz.func121, Tryz.ntmps121
  go_wp2_with fail
  go_loop [5] (fun s5 => ∃ i : Nat, (i = 0 ∨ i < xs.length) ∧ s5 = .int .i64 i ∧ Hid (∀ m, 1 ≤ m → m ≤ i → xs.getD m 0 ≤ n)) (fun s => xs.length - (intOf s).toNat)
  case atStart => exact ⟨0, .inl rfl, rfl, fun m h1 h2 => by omega⟩
  case round =>
    obtain ⟨i, hi, rfl, HI⟩ := hrel
    by_cases hlt : i + 1 < xs.length
    · obtain ⟨b, off, rfl, hc⟩ := HC.out (i + 1) hlt
      have hn : Hid (xs.getD (i + 1) 0 ≤ n → ∀ m, 1 ≤ m → m ≤ i + 1 → xs.getD m 0 ≤ n) := fun h m h1 h2 => by
        by_cases e : m = i + 1
        · rw [e]; exact h
        · exact HI.out m h1 (by omega)
      have hg : Hid (n < xs.getD (i + 1) 0 → LastP xs n i) := fun h => ⟨hi, HI.out, fun _ => h⟩
      have hc' : w.cell? ⟨b, off + i + 1, none⟩ = some (.int .i64 (xs.getD (i + 1) 0)) := by rw [Nat.add_assoc]; exact hc
      generalize xs.getD (i + 1) 0 = x at *
      by_cases hx : x ≤ n
      · go_wp2_with fail
        go_round
        case rel => exact ⟨i + 1, by omega, by go_num, hn.out hx⟩
        case measure => simp [intOf]; omega
      · have HG := Lib.hid (hg.out (by omega))
        go_wp2_with fail
        go_ret
        exact ⟨⟨i, HG.out, rfl⟩, rfl⟩
    · have HG : Hid (LastP xs n i) := ⟨hi, HI.out, fun h => absurd h hlt⟩
      go_wp2_with fail
      go_ret
      exact ⟨⟨i, HG.out, rfl⟩, rfl⟩

theorem Crops_any (v : Value) (l : List Tar) (w : World) (hv : TarsV w v l) (hl : 0 < l.length) :
    Calls Tryz.prog 57 #[v] w fun e w' => e = .returned (.int .i64 (cropsN l)) ∧ w = w' := by
  obtain ⟨a, c, rfl, h1, h2, hr⟩ := hv
  obtain ⟨b, off, rfl, ht⟩ := hr 0 hl
  obtain ⟨a3, k3, a4, k4, a5, k5, m0, m1, m2, m3, m4, m5, mc⟩ := ht.open
  have e : l[0].rates.length = cropsN l := by simp [cropsN, hl]
  rw [e] at m5
  simp only [Nat.zero_mul, Nat.add_zero] at m5
  clear hr ht mc m0 m1 m2 m3 m4 e
  go_enter Tryz.func57, Tryz.ntmps57
  go_wp2_with fail
  go_ret
  exact ⟨rfl, rfl⟩

set_option maxRecDepth 100000 in
set_option maxHeartbeats 1000000 in
theorem Rises_any (v : Value) (xs : List Int) (most : Int) (w : World) (hv : IntsV w v xs) (hm : most ≤ 1000) :
    Calls Tryz.prog 93 #[v, .int .i64 most] w fun e w' => e = .returned (.bool (risesB xs most)) ∧ Ext w w' := by
  obtain ⟨a, c, rfl, h1, h2, hr⟩ := hv
  have HC : Hid (∀ i, i < xs.length → ∃ b off, a = some ⟨b, off, none⟩ ∧ w.cell? ⟨b, off + i, none⟩ = some (.int .i64 (xs.getD i 0))) := by
    refine Lib.hid ?_
    intro i hi
    obtain ⟨b, off, he, hc⟩ := hr i hi
    exact ⟨b, off, he, by have := hc.1; simpa [hi] using this⟩
  clear hr
  have HB : Hid (∀ k, k < xs.length → ¬ goodI xs most k → risesB xs most = false) := fun k => rises_bad hm
  have HG : Hid ((∀ k, k < xs.length → goodI xs most k) → risesB xs most = (decide (0 < xs.length) && (xs.getD 0 0 == 0))) := rises_good hm
  generalize risesB xs most = res at *
  go_enter Tryz.func93, Tryz.ntmps93
  go_wp2_with fail
  go_loopw [5] (fun s5 wr => ∃ k : Nat, k ≤ xs.length ∧ s5 = .int .i64 k ∧ Hid (∀ m, m < k → goodI xs most m) ∧ Ext w wr) (fun s _ => xs.length - (intOf s).toNat)
  case atStart => exact ⟨0, Nat.zero_le _, rfl, fun m h => absurd h (Nat.not_lt_zero _), Ext.refl _⟩
  case round =>
    obtain ⟨k, hk, rfl, HI, hx⟩ := hrel
    by_cases hlt : k < xs.length
    · obtain ⟨b, off, rfl, hc⟩ := HC.out k hlt
      have hcr := hx.keep hc
      have HBk : Hid (¬ goodI xs most k → res = false) := HB.out k hlt
      cases hin : inR (xs.getD k 0) 0 most with
      | false =>
        have HE : Hid (res = false) := HBk.out (fun g => by have := g.1; rw [hin] at this; cases this)
        generalize xs.getD k 0 = x at *
        have HIN : Hid (∀ W, Calls Tryz.prog 56 #[.int .i64 x, .int .i64 0, .int .i64 most] W fun e w' => e = .returned (.bool false) ∧ w' = W) := fun W => (In_any x 0 most W).mono fun e w' h => ⟨h.1.trans (by rw [hin]), h.2.symm⟩
        clear hin
        go_wp2_with fail
        go_upto_region 4 with fail
        go_quiet (first | (go_at_call 56; refine Calls.quiet_of_same (HIN.out _)))
        go_wp2_with fail
        go_ret
        exact ⟨congrArg (fun x => Ending.returned (.bool x)) HE.out.symm, by (repeat (first | exact Ext.refl _ | (with_reducible assumption) | (with_reducible refine Ext.drew ?_) | (with_reducible refine Ext.alloc ?_ _) | (with_reducible refine Ext.drewN ?_ _) | (with_reducible refine Ext.setCell ?_ (by omega) _) | (with_reducible refine Ext.trans ?_ (by with_reducible assumption))))⟩
      | true =>
        have HIN : Hid (∀ W, Calls Tryz.prog 56 #[.int .i64 (xs.getD k 0), .int .i64 0, .int .i64 most] W fun e w' => e = .returned (.bool true) ∧ w' = W) := fun W => (In_any _ 0 most W).mono fun e w' h => ⟨h.1.trans (by rw [hin]), h.2.symm⟩
        by_cases hk0 : k = 0
        · subst hk0
          have HE : Hid (∀ m, m < 0 + 1 → goodI xs most m) := upTo_next (fun m h => absurd h (Nat.not_lt_zero _)) ⟨hin, fun h => absurd h (Nat.lt_irrefl _)⟩
          simp only [Nat.add_zero] at hcr hc
          generalize xs.getD 0 0 = x at *
          clear hin
          go_wp2_with fail
          go_upto_region 4 with fail
          go_quiet (first | (go_at_call 56; refine Calls.quiet_of_same (HIN.out _)))
          go_wp2_with fail
          go_roundw
          case rel => exact ⟨0 + 1, by omega, by go_num, HE.out, by (repeat (first | exact Ext.refl _ | (with_reducible assumption) | (with_reducible refine Ext.drew ?_) | (with_reducible refine Ext.alloc ?_ _) | (with_reducible refine Ext.drewN ?_ _) | (with_reducible refine Ext.setCell ?_ (by omega) _) | (with_reducible refine Ext.trans ?_ (by with_reducible assumption))))⟩
          case measure => simp [intOf]; omega
        · obtain ⟨m, rfl⟩ : ∃ m, k = m + 1 := ⟨k - 1, by omega⟩
          obtain ⟨b', off', he, hc'⟩ := HC.out m (by omega)
          cases he
          have hcr' := hx.keep hc'
          clear hc hc' hk0
          have HE : Hid (xs.getD m 0 < xs.getD (m + 1) 0 → ∀ i, i < m + 1 + 1 → goodI xs most i) := fun h => upTo_next HI.out ⟨hin, fun _ => h⟩
          have HF : Hid (¬ xs.getD m 0 < xs.getD (m + 1) 0 → res = false) := fun h => HBk.out (fun g => h (by have := g.2 (by omega); simpa using this))
          generalize xs.getD (m + 1) 0 = x at *
          generalize xs.getD m 0 = y at *
          clear hin
          by_cases hyx : y < x
          · have hle : ¬ x ≤ y := by omega
            go_wp2_with fail
            go_upto_region 4 with fail
            go_quiet (first | (go_at_call 56; refine Calls.quiet_of_same (HIN.out _)))
            go_wp2_with fail
            go_roundw
            case rel => exact ⟨m + 1 + 1, by omega, by go_num, HE.out hyx, by (repeat (first | exact Ext.refl _ | (with_reducible assumption) | (with_reducible refine Ext.drew ?_) | (with_reducible refine Ext.alloc ?_ _) | (with_reducible refine Ext.drewN ?_ _) | (with_reducible refine Ext.setCell ?_ (by omega) _) | (with_reducible refine Ext.trans ?_ (by with_reducible assumption))))⟩
            case measure => simp [intOf]; omega
          · have hle : x ≤ y := by omega
            have HR := Lib.hid (HF.out hyx)
            go_wp2_with fail
            go_upto_region 4 with fail
            go_quiet (first | (go_at_call 56; refine Calls.quiet_of_same (HIN.out _)))
            go_wp2_with fail
            go_ret
            exact ⟨congrArg (fun x => Ending.returned (.bool x)) HR.out.symm, by (repeat (first | exact Ext.refl _ | (with_reducible assumption) | (with_reducible refine Ext.drew ?_) | (with_reducible refine Ext.alloc ?_ _) | (with_reducible refine Ext.drewN ?_ _) | (with_reducible refine Ext.setCell ?_ (by omega) _) | (with_reducible refine Ext.trans ?_ (by with_reducible assumption))))⟩
    · have e : k = xs.length := by omega
      subst e
      have HE := Lib.hid (HG.out HI.out)
      by_cases hpos : 0 < xs.length
      · obtain ⟨b, off, rfl, hc⟩ := HC.out 0 hpos
        have hcr := hx.keep hc
        simp only [Nat.add_zero] at hcr
        clear hc
        have HE' : Hid (res = (xs.getD 0 0 == 0)) := by
          refine Lib.hid ?_
          rw [HE.out]; simp [hpos]
        generalize xs.getD 0 0 = x at *
        go_wp2_with fail
        go_ret
        exact ⟨congrArg (fun x => Ending.returned (.bool x)) HE'.out.symm, hx⟩
      · have HE' : Hid (res = false) := by
          refine Lib.hid ?_
          rw [HE.out]; simp [hpos]
        go_wp2_with fail
        go_ret
        exact ⟨congrArg (fun x => Ending.returned (.bool x)) HE'.out.symm, hx⟩
end Go.Proofs.YtedblocbcjoolaaGreat

/- The reference's IsTariff. -/
namespace Go.Hs
open Go.RowKit
theorem valid_no {t : Tar} (h : (inR t.start 0 120 && inR t.least 0 100 && risesB t.weeks 120 && risesB t.counts 100 && (t.counts.getD (t.counts.length - 1) 0 == 100) && decide (0 < t.rates.length)) = false) : validB t = false := by
  rw [← Bool.not_eq_true] at h ⊢
  intro g
  apply h
  unfold validB at g
  simp only [Bool.and_eq_true] at g ⊢
  exact ⟨⟨⟨⟨⟨g.1.1.1.1.1.1.1, g.1.1.1.1.1.1.2⟩, g.1.1.1.1.1.2⟩, g.1.1.1.2⟩, g.1.1.2⟩, g.1.2⟩
theorem valid_no2 {t : Tar} {c : Nat} (hc : c < t.rates.length) (h : cropB t (t.rates.getD c []) = false) : validB t = false := by
  rw [← Bool.not_eq_true]
  intro g
  unfold validB at g
  simp only [Bool.and_eq_true, allB_iff] at g
  rw [g.2 c hc] at h; cases h
theorem valid_yes {t : Tar} (h : (inR t.start 0 120 && inR t.least 0 100 && risesB t.weeks 120 && risesB t.counts 100 && (t.counts.getD (t.counts.length - 1) 0 == 100) && decide (0 < t.rates.length)) = true) (h' : ∀ c, c < t.rates.length → cropB t (t.rates.getD c []) = true) : validB t = true := by
  simp only [Bool.and_eq_true] at h
  unfold validB
  simp only [Bool.and_eq_true, allB_iff, decide_eq_true_eq]
  refine ⟨⟨⟨⟨⟨⟨⟨h.1.1.1.1.1, h.1.1.1.1.2⟩, h.1.1.1.2⟩, ?_⟩, h.1.1.2⟩, h.1.2⟩, by simpa using h.2⟩, h'⟩
  have r := (risesB_iff (by decide)).1 h.1.1.2
  have hl := h.1.2
  simp only [beq_iff_eq] at hl
  rcases Nat.lt_or_ge 1 t.counts.length with g | g
  · exact g
  · have := r.pos
    have e : t.counts.length - 1 = 0 := by omega
    rw [e, r.first] at hl
    exact absurd hl (by decide)
theorem crop_no {t : Tar} {x : List (List Int)} (h : ¬ x.length = t.weeks.length) : cropB t x = false := by simp [cropB, h]
theorem crop_no2 {t : Tar} {x : List (List Int)} {i : Nat} (hi : i < x.length) (h : rowB t.counts.length (x.getD i []) = false) : cropB t x = false := by
  rw [← Bool.not_eq_true]
  intro g
  unfold cropB at g
  simp only [Bool.and_eq_true, allB_iff] at g
  rw [g.2 i hi] at h; cases h
theorem crop_yes {t : Tar} {x : List (List Int)} (h : x.length = t.weeks.length) (h' : ∀ i, i < t.weeks.length → rowB t.counts.length (x.getD i []) = true) : cropB t x = true := by
  unfold cropB
  simp only [Bool.and_eq_true, allB_iff, decide_eq_true_eq]
  exact ⟨h, fun i hi => h' i (by omega)⟩
theorem row_no {m : Nat} {x : List Int} (h : ¬ x.length = m) : rowB m x = false := by simp [rowB, h]
theorem row_no2 {m : Nat} {x : List Int} {i : Nat} (hi : i < x.length) (h : inR (x.getD i 0) 0 100 = false) : rowB m x = false := by
  rw [← Bool.not_eq_true]
  intro g
  unfold rowB at g
  simp only [Bool.and_eq_true, allB_iff] at g
  rw [g.2 i hi] at h; cases h
theorem row_yes {m : Nat} {x : List Int} (h : x.length = m) (h' : ∀ i, i < m → inR (x.getD i 0) 0 100 = true) : rowB m x = true := by
  unfold rowB
  simp only [Bool.and_eq_true, allB_iff, decide_eq_true_eq]
  exact ⟨h, fun i hi => h' i (by omega)⟩
end Go.Hs
namespace Go.Proofs.YtedblocbcjoolaaGreat
open Go.RowKit Go.Hs
attribute [local irreducible] World.setCell World.alloc

set_option maxRecDepth 100000 in
set_option maxHeartbeats 2000000 in
theorem IsTariff_any (u : V6) (t : Tar) (w : World) (hu : TarU w u t) :
    Calls Tryz.prog 78 #[u.val] w fun e w' => e = .returned (.bool (validB t)) ∧ Ext w w' := by
  obtain ⟨a3, k3, a4, k4, a5, k5, rfl⟩ := hu.slices
  obtain ⟨-, -, -, hc⟩ := hu
  simp only at hc
  have HN : Hid ((inR t.start 0 120 && inR t.least 0 100 && risesB t.weeks 120 && risesB t.counts 100 && (t.counts.getD (t.counts.length - 1) 0 == 100) && decide (0 < t.rates.length)) = false → validB t = false) := valid_no
  have HN2 : Hid (∀ c, c < t.rates.length → cropB t (t.rates.getD c []) = false → validB t = false) := fun c => valid_no2
  have HY : Hid ((inR t.start 0 120 && inR t.least 0 100 && risesB t.weeks 120 && risesB t.counts 100 && (t.counts.getD (t.counts.length - 1) 0 == 100) && decide (0 < t.rates.length)) = true → (∀ c, c < t.rates.length → cropB t (t.rates.getD c []) = true) → validB t = true) := valid_yes
  have HR1 : Hid (∀ W, Ext w W → Calls Tryz.prog 93 #[.slice a3 t.weeks.length k3, .int .i64 120] W fun e w' => e = .returned (.bool (risesB t.weeks 120)) ∧ Ext W w') := fun W hx => Rises_any _ _ 120 W (hc.weeks.ext hx) (by decide)
  have HR2 : Hid (∀ W, Ext w W → Calls Tryz.prog 93 #[.slice a4 t.counts.length k4, .int .i64 100] W fun e w' => e = .returned (.bool (risesB t.counts 100)) ∧ Ext W w') := fun W hx => Rises_any _ _ 100 W (hc.counts.ext hx) (by decide)
  have HRP : Hid (risesB t.counts 100 = true → 0 < t.counts.length) := fun h => ((risesB_iff (by decide)).1 h).pos
  have HCT : Hid (∀ i, i < t.counts.length → ∃ b off, a4 = some ⟨b, off, none⟩ ∧ w.cell? ⟨b, off + i, none⟩ = some (.int .i64 (t.counts.getD i 0))) := fun i hi => IntsV.get hc.counts i hi
  have HRT := Lib.hid hc.rates
  have hlr := hc.rates.len_le.2
  have hlw := hc.weeks.len_le.2
  have hlc := hc.counts.len_le.2
  clear hc
  generalize hres : validB t = res at *
  clear hres
  generalize hb3 : risesB t.weeks 120 = b3 at *
  generalize hb4 : risesB t.counts 100 = b4 at *
  clear hb3 hb4
  have HI : Hid (∀ x lo hi W, Calls Tryz.prog 56 #[.int .i64 x, .int .i64 lo, .int .i64 hi] W fun e w' => e = .returned (.bool (inR x lo hi)) ∧ W = w') := In_any
  cases b4 with
  | false =>
    have HE := Lib.hid (HN.out (by simp))
    have hpre : ∃ W, W = (w.alloc (.cells #[.int .i64 t.start, .bool t.whole, .int .i64 t.least, .slice a3 t.weeks.length k3, .slice a4 t.counts.length k4, .slice a5 t.rates.length k5] 87)) := ⟨_, rfl⟩
    go_enter Tryz.func78, Tryz.ntmps78
    go_wp2_with fail
    have X : Ext w (w.alloc (.cells #[.int .i64 t.start, .bool t.whole, .int .i64 t.least, .slice a3 t.weeks.length k3, .slice a4 t.counts.length k4, .slice a5 t.rates.length k5] 87)) := by (repeat (first | exact Ext.refl _ | (with_reducible assumption) | (with_reducible refine Ext.drew ?_) | (with_reducible refine Ext.alloc ?_ _) | (with_reducible refine Ext.drewN ?_ _) | (with_reducible refine Ext.setCell ?_ (by omega) _) | (with_reducible refine Ext.trans ?_ (by with_reducible assumption))))
    have t2 : (w.alloc (.cells #[.int .i64 t.start, .bool t.whole, .int .i64 t.least, .slice a3 t.weeks.length k3, .slice a4 t.counts.length k4, .slice a5 t.rates.length k5] 87)).cell? ⟨w.heap.size, 2, none⟩ = some (.int .i64 t.least) := by simp
    have t3 : (w.alloc (.cells #[.int .i64 t.start, .bool t.whole, .int .i64 t.least, .slice a3 t.weeks.length k3, .slice a4 t.counts.length k4, .slice a5 t.rates.length k5] 87)).cell? ⟨w.heap.size, 3, none⟩ = some (.slice a3 t.weeks.length k3) := by simp
    have t4 : (w.alloc (.cells #[.int .i64 t.start, .bool t.whole, .int .i64 t.least, .slice a3 t.weeks.length k3, .slice a4 t.counts.length k4, .slice a5 t.rates.length k5] 87)).cell? ⟨w.heap.size, 4, none⟩ = some (.slice a4 t.counts.length k4) := by simp
    have t5 : (w.alloc (.cells #[.int .i64 t.start, .bool t.whole, .int .i64 t.least, .slice a3 t.weeks.length k3, .slice a4 t.counts.length k4, .slice a5 t.rates.length k5] 87)).cell? ⟨w.heap.size, 5, none⟩ = some (.slice a5 t.rates.length k5) := by simp
    generalize (w.alloc (.cells #[.int .i64 t.start, .bool t.whole, .int .i64 t.least, .slice a3 t.weeks.length k3, .slice a4 t.counts.length k4, .slice a5 t.rates.length k5] 87)) = W at *
    clear hpre
    go_wp2_with (first
      | (go_at_call 56; refine (HI.out _ _ _ _).mono ?_; rintro e w' ⟨rfl, rfl⟩)
      | (go_at_call 93; (with_reducible refine (HR1.out W X).mono ?_); rintro e w2 ⟨rfl, hx2⟩; have u4 := hx2.keep t4; have u5 := hx2.keep t5)
      | (go_at_call 93; (with_reducible refine (HR2.out _ (X.trans hx2)).mono ?_); rintro e w3 ⟨rfl, hx3⟩; have v4 := hx3.keep u4; have v5 := hx3.keep u5))
    all_goals go_ret
    all_goals exact ⟨congrArg (fun x => Ending.returned (.bool x)) HE.out.symm, by (repeat (first | exact Ext.refl _ | (with_reducible assumption) | (with_reducible refine Ext.drew ?_) | (with_reducible refine Ext.alloc ?_ _) | (with_reducible refine Ext.drewN ?_ _) | (with_reducible refine Ext.setCell ?_ (by omega) _) | (with_reducible refine Ext.trans ?_ (by with_reducible assumption))))⟩
  | true =>
    have hpos := HRP.out rfl
    obtain ⟨b, off, rfl, hlast⟩ := HCT.out (t.counts.length - 1) (by omega)
    cases g1 : inR t.start 0 120 with
    | false =>
      have HE := Lib.hid (HN.out (by rw [g1]; rfl))
      have HI1 : Hid (∀ W, Calls Tryz.prog 56 #[.int .i64 t.start, .int .i64 0, .int .i64 120] W fun e w' => e = .returned (.bool false) ∧ W = w') := fun W => g1 ▸ HI.out _ _ _ W
      have HI2 : Hid (∀ W, Calls Tryz.prog 56 #[.int .i64 (-7), .int .i64 0, .int .i64 100] W fun e w' => e = .returned (.bool (inR (-7) 0 100)) ∧ W = w') := fun W => HI.out _ _ _ W
      clear g1 HN HY
      go_enter Tryz.func78, Tryz.ntmps78
      go_wp2_with fail
      have X : Ext w (w.alloc (.cells #[.int .i64 t.start, .bool t.whole, .int .i64 t.least, .slice a3 t.weeks.length k3, .slice (some ⟨b, off, none⟩) t.counts.length k4, .slice a5 t.rates.length k5] 87)) := by (repeat (first | exact Ext.refl _ | (with_reducible assumption) | (with_reducible refine Ext.drew ?_) | (with_reducible refine Ext.alloc ?_ _) | (with_reducible refine Ext.drewN ?_ _) | (with_reducible refine Ext.setCell ?_ (by omega) _) | (with_reducible refine Ext.trans ?_ (by with_reducible assumption))))
      have t2 : (w.alloc (.cells #[.int .i64 t.start, .bool t.whole, .int .i64 t.least, .slice a3 t.weeks.length k3, .slice (some ⟨b, off, none⟩) t.counts.length k4, .slice a5 t.rates.length k5] 87)).cell? ⟨w.heap.size, 2, none⟩ = some (.int .i64 t.least) := by simp
      have t3 : (w.alloc (.cells #[.int .i64 t.start, .bool t.whole, .int .i64 t.least, .slice a3 t.weeks.length k3, .slice (some ⟨b, off, none⟩) t.counts.length k4, .slice a5 t.rates.length k5] 87)).cell? ⟨w.heap.size, 3, none⟩ = some (.slice a3 t.weeks.length k3) := by simp
      have t4 : (w.alloc (.cells #[.int .i64 t.start, .bool t.whole, .int .i64 t.least, .slice a3 t.weeks.length k3, .slice (some ⟨b, off, none⟩) t.counts.length k4, .slice a5 t.rates.length k5] 87)).cell? ⟨w.heap.size, 4, none⟩ = some (.slice (some ⟨b, off, none⟩) t.counts.length k4) := by simp
      have t5 : (w.alloc (.cells #[.int .i64 t.start, .bool t.whole, .int .i64 t.least, .slice a3 t.weeks.length k3, .slice (some ⟨b, off, none⟩) t.counts.length k4, .slice a5 t.rates.length k5] 87)).cell? ⟨w.heap.size, 5, none⟩ = some (.slice a5 t.rates.length k5) := by simp
      generalize (w.alloc (.cells #[.int .i64 t.start, .bool t.whole, .int .i64 t.least, .slice a3 t.weeks.length k3, .slice (some ⟨b, off, none⟩) t.counts.length k4, .slice a5 t.rates.length k5] 87)) = W at *
      have hlX := X.keep hlast
      go_wp2_with (first
        | (go_at_call 56; with_reducible refine (HI1.out _).mono ?_; rintro e w' ⟨rfl, rfl⟩)
        | (go_at_call 56; with_reducible refine (HI2.out _).mono ?_; rintro e w' ⟨rfl, rfl⟩)
        | (go_at_call 93; (with_reducible refine (HR1.out W X).mono ?_); rintro e w2 ⟨rfl, hx2⟩; have u3 := hx2.keep t3; have u4 := hx2.keep t4; have u5 := hx2.keep t5; have hl2 := hx2.keep hlX)
        | (go_at_call 93; (with_reducible refine (HR2.out _ (X.trans hx2)).mono ?_); rintro e w3 ⟨rfl, hx3⟩; have v3 := hx3.keep u3; have v4 := hx3.keep u4; have v5 := hx3.keep u5; have hl3 := hx3.keep hl2))
      go_ret
      exact ⟨congrArg (fun x => Ending.returned (.bool x)) HE.out.symm, by (repeat (first | exact Ext.refl _ | (with_reducible assumption) | (with_reducible refine Ext.drew ?_) | (with_reducible refine Ext.alloc ?_ _) | (with_reducible refine Ext.drewN ?_ _) | (with_reducible refine Ext.setCell ?_ (by omega) _) | (with_reducible refine Ext.trans ?_ (by with_reducible assumption))))⟩
    | true =>
    cases g2 : inR t.least 0 100 with
    | false =>
      have HE := Lib.hid (HN.out (by rw [g1, g2]; rfl))
      have HI1 : Hid (∀ W, Calls Tryz.prog 56 #[.int .i64 t.start, .int .i64 0, .int .i64 120] W fun e w' => e = .returned (.bool true) ∧ W = w') := fun W => g1 ▸ HI.out _ _ _ W
      have HI2 : Hid (∀ W, Calls Tryz.prog 56 #[.int .i64 t.least, .int .i64 0, .int .i64 100] W fun e w' => e = .returned (.bool false) ∧ W = w') := fun W => g2 ▸ HI.out _ _ _ W
      clear g1 g2 HN HY
      go_enter Tryz.func78, Tryz.ntmps78
      go_wp2_with fail
      have X : Ext w (w.alloc (.cells #[.int .i64 t.start, .bool t.whole, .int .i64 t.least, .slice a3 t.weeks.length k3, .slice (some ⟨b, off, none⟩) t.counts.length k4, .slice a5 t.rates.length k5] 87)) := by (repeat (first | exact Ext.refl _ | (with_reducible assumption) | (with_reducible refine Ext.drew ?_) | (with_reducible refine Ext.alloc ?_ _) | (with_reducible refine Ext.drewN ?_ _) | (with_reducible refine Ext.setCell ?_ (by omega) _) | (with_reducible refine Ext.trans ?_ (by with_reducible assumption))))
      have t2 : (w.alloc (.cells #[.int .i64 t.start, .bool t.whole, .int .i64 t.least, .slice a3 t.weeks.length k3, .slice (some ⟨b, off, none⟩) t.counts.length k4, .slice a5 t.rates.length k5] 87)).cell? ⟨w.heap.size, 2, none⟩ = some (.int .i64 t.least) := by simp
      have t3 : (w.alloc (.cells #[.int .i64 t.start, .bool t.whole, .int .i64 t.least, .slice a3 t.weeks.length k3, .slice (some ⟨b, off, none⟩) t.counts.length k4, .slice a5 t.rates.length k5] 87)).cell? ⟨w.heap.size, 3, none⟩ = some (.slice a3 t.weeks.length k3) := by simp
      have t4 : (w.alloc (.cells #[.int .i64 t.start, .bool t.whole, .int .i64 t.least, .slice a3 t.weeks.length k3, .slice (some ⟨b, off, none⟩) t.counts.length k4, .slice a5 t.rates.length k5] 87)).cell? ⟨w.heap.size, 4, none⟩ = some (.slice (some ⟨b, off, none⟩) t.counts.length k4) := by simp
      have t5 : (w.alloc (.cells #[.int .i64 t.start, .bool t.whole, .int .i64 t.least, .slice a3 t.weeks.length k3, .slice (some ⟨b, off, none⟩) t.counts.length k4, .slice a5 t.rates.length k5] 87)).cell? ⟨w.heap.size, 5, none⟩ = some (.slice a5 t.rates.length k5) := by simp
      generalize (w.alloc (.cells #[.int .i64 t.start, .bool t.whole, .int .i64 t.least, .slice a3 t.weeks.length k3, .slice (some ⟨b, off, none⟩) t.counts.length k4, .slice a5 t.rates.length k5] 87)) = W at *
      have hlX := X.keep hlast
      go_wp2_with (first
        | (go_at_call 56; with_reducible refine (HI1.out _).mono ?_; rintro e w' ⟨rfl, rfl⟩)
        | (go_at_call 56; with_reducible refine (HI2.out _).mono ?_; rintro e w' ⟨rfl, rfl⟩)
        | (go_at_call 93; (with_reducible refine (HR1.out W X).mono ?_); rintro e w2 ⟨rfl, hx2⟩; have u3 := hx2.keep t3; have u4 := hx2.keep t4; have u5 := hx2.keep t5; have hl2 := hx2.keep hlX)
        | (go_at_call 93; (with_reducible refine (HR2.out _ (X.trans hx2)).mono ?_); rintro e w3 ⟨rfl, hx3⟩; have v3 := hx3.keep u3; have v4 := hx3.keep u4; have v5 := hx3.keep u5; have hl3 := hx3.keep hl2))
      go_ret
      exact ⟨congrArg (fun x => Ending.returned (.bool x)) HE.out.symm, by (repeat (first | exact Ext.refl _ | (with_reducible assumption) | (with_reducible refine Ext.drew ?_) | (with_reducible refine Ext.alloc ?_ _) | (with_reducible refine Ext.drewN ?_ _) | (with_reducible refine Ext.setCell ?_ (by omega) _) | (with_reducible refine Ext.trans ?_ (by with_reducible assumption))))⟩
    | true =>
    have HI1 : Hid (∀ W, Calls Tryz.prog 56 #[.int .i64 t.start, .int .i64 0, .int .i64 120] W fun e w' => e = .returned (.bool true) ∧ W = w') := fun W => g1 ▸ HI.out _ _ _ W
    have HI2 : Hid (∀ W, Calls Tryz.prog 56 #[.int .i64 t.least, .int .i64 0, .int .i64 100] W fun e w' => e = .returned (.bool true) ∧ W = w') := fun W => g2 ▸ HI.out _ _ _ W
    cases b3 with
    | false =>
      have HE := Lib.hid (HN.out (by rw [g1, g2]; rfl))
      clear g1 g2 HN HY
      go_enter Tryz.func78, Tryz.ntmps78
      go_wp2_with fail
      have X : Ext w (w.alloc (.cells #[.int .i64 t.start, .bool t.whole, .int .i64 t.least, .slice a3 t.weeks.length k3, .slice (some ⟨b, off, none⟩) t.counts.length k4, .slice a5 t.rates.length k5] 87)) := by (repeat (first | exact Ext.refl _ | (with_reducible assumption) | (with_reducible refine Ext.drew ?_) | (with_reducible refine Ext.alloc ?_ _) | (with_reducible refine Ext.drewN ?_ _) | (with_reducible refine Ext.setCell ?_ (by omega) _) | (with_reducible refine Ext.trans ?_ (by with_reducible assumption))))
      have t2 : (w.alloc (.cells #[.int .i64 t.start, .bool t.whole, .int .i64 t.least, .slice a3 t.weeks.length k3, .slice (some ⟨b, off, none⟩) t.counts.length k4, .slice a5 t.rates.length k5] 87)).cell? ⟨w.heap.size, 2, none⟩ = some (.int .i64 t.least) := by simp
      have t3 : (w.alloc (.cells #[.int .i64 t.start, .bool t.whole, .int .i64 t.least, .slice a3 t.weeks.length k3, .slice (some ⟨b, off, none⟩) t.counts.length k4, .slice a5 t.rates.length k5] 87)).cell? ⟨w.heap.size, 3, none⟩ = some (.slice a3 t.weeks.length k3) := by simp
      have t4 : (w.alloc (.cells #[.int .i64 t.start, .bool t.whole, .int .i64 t.least, .slice a3 t.weeks.length k3, .slice (some ⟨b, off, none⟩) t.counts.length k4, .slice a5 t.rates.length k5] 87)).cell? ⟨w.heap.size, 4, none⟩ = some (.slice (some ⟨b, off, none⟩) t.counts.length k4) := by simp
      have t5 : (w.alloc (.cells #[.int .i64 t.start, .bool t.whole, .int .i64 t.least, .slice a3 t.weeks.length k3, .slice (some ⟨b, off, none⟩) t.counts.length k4, .slice a5 t.rates.length k5] 87)).cell? ⟨w.heap.size, 5, none⟩ = some (.slice a5 t.rates.length k5) := by simp
      generalize (w.alloc (.cells #[.int .i64 t.start, .bool t.whole, .int .i64 t.least, .slice a3 t.weeks.length k3, .slice (some ⟨b, off, none⟩) t.counts.length k4, .slice a5 t.rates.length k5] 87)) = W at *
      have hlX := X.keep hlast
      go_wp2_with (first
        | (go_at_call 56; with_reducible refine (HI1.out _).mono ?_; rintro e w' ⟨rfl, rfl⟩)
        | (go_at_call 56; with_reducible refine (HI2.out _).mono ?_; rintro e w' ⟨rfl, rfl⟩)
        | (go_at_call 93; (with_reducible refine (HR1.out W X).mono ?_); rintro e w2 ⟨rfl, hx2⟩; have u3 := hx2.keep t3; have u4 := hx2.keep t4; have u5 := hx2.keep t5; have hl2 := hx2.keep hlX)
        | (go_at_call 93; (with_reducible refine (HR2.out _ (X.trans hx2)).mono ?_); rintro e w3 ⟨rfl, hx3⟩; have v3 := hx3.keep u3; have v4 := hx3.keep u4; have v5 := hx3.keep u5; have hl3 := hx3.keep hl2))
      go_ret
      exact ⟨congrArg (fun x => Ending.returned (.bool x)) HE.out.symm, by (repeat (first | exact Ext.refl _ | (with_reducible assumption) | (with_reducible refine Ext.drew ?_) | (with_reducible refine Ext.alloc ?_ _) | (with_reducible refine Ext.drewN ?_ _) | (with_reducible refine Ext.setCell ?_ (by omega) _) | (with_reducible refine Ext.trans ?_ (by with_reducible assumption))))⟩
    | true =>
    by_cases g4 : t.counts.getD (t.counts.length - 1) 0 = 100
    · by_cases g5 : 0 < t.rates.length
      · have HYY : Hid ((∀ c, c < t.rates.length → cropB t (t.rates.getD c []) = true) → res = true) := HY.out (by rw [g1, g2, show (t.counts.getD (t.counts.length - 1) 0 == 100) = true by rw [g4]; rfl, decide_eq_true g5]; rfl)
        rw [g4] at hlast
        clear g1 g2 g4 HN HY
        have g5b : ((t.rates.length : Int) == 0) = false := beq_eq_false_iff_ne.2 (by omega)
        go_enter Tryz.func78, Tryz.ntmps78
        go_wp2_with fail
        have X : Ext w (w.alloc (.cells #[.int .i64 t.start, .bool t.whole, .int .i64 t.least, .slice a3 t.weeks.length k3, .slice (some ⟨b, off, none⟩) t.counts.length k4, .slice a5 t.rates.length k5] 87)) := by (repeat (first | exact Ext.refl _ | (with_reducible assumption) | (with_reducible refine Ext.drew ?_) | (with_reducible refine Ext.alloc ?_ _) | (with_reducible refine Ext.drewN ?_ _) | (with_reducible refine Ext.setCell ?_ (by omega) _) | (with_reducible refine Ext.trans ?_ (by with_reducible assumption))))
        have t2 : (w.alloc (.cells #[.int .i64 t.start, .bool t.whole, .int .i64 t.least, .slice a3 t.weeks.length k3, .slice (some ⟨b, off, none⟩) t.counts.length k4, .slice a5 t.rates.length k5] 87)).cell? ⟨w.heap.size, 2, none⟩ = some (.int .i64 t.least) := by simp
        have t3 : (w.alloc (.cells #[.int .i64 t.start, .bool t.whole, .int .i64 t.least, .slice a3 t.weeks.length k3, .slice (some ⟨b, off, none⟩) t.counts.length k4, .slice a5 t.rates.length k5] 87)).cell? ⟨w.heap.size, 3, none⟩ = some (.slice a3 t.weeks.length k3) := by simp
        have t4 : (w.alloc (.cells #[.int .i64 t.start, .bool t.whole, .int .i64 t.least, .slice a3 t.weeks.length k3, .slice (some ⟨b, off, none⟩) t.counts.length k4, .slice a5 t.rates.length k5] 87)).cell? ⟨w.heap.size, 4, none⟩ = some (.slice (some ⟨b, off, none⟩) t.counts.length k4) := by simp
        have t5 : (w.alloc (.cells #[.int .i64 t.start, .bool t.whole, .int .i64 t.least, .slice a3 t.weeks.length k3, .slice (some ⟨b, off, none⟩) t.counts.length k4, .slice a5 t.rates.length k5] 87)).cell? ⟨w.heap.size, 5, none⟩ = some (.slice a5 t.rates.length k5) := by simp
        generalize (w.alloc (.cells #[.int .i64 t.start, .bool t.whole, .int .i64 t.least, .slice a3 t.weeks.length k3, .slice (some ⟨b, off, none⟩) t.counts.length k4, .slice a5 t.rates.length k5] 87)) = W at *
        have hlX := X.keep hlast
        go_wp2_with (first
          | (go_at_call 56; with_reducible refine (HI1.out _).mono ?_; rintro e w' ⟨rfl, rfl⟩)
          | (go_at_call 56; with_reducible refine (HI2.out _).mono ?_; rintro e w' ⟨rfl, rfl⟩)
          | (go_at_call 93; (with_reducible refine (HR1.out W X).mono ?_); rintro e w2 ⟨rfl, hx2⟩; have u3 := hx2.keep t3; have u4 := hx2.keep t4; have u5 := hx2.keep t5; have hl2 := hx2.keep hlX)
          | (go_at_call 93; (with_reducible refine (HR2.out _ (X.trans hx2)).mono ?_); rintro e w3 ⟨rfl, hx3⟩; have v3 := hx3.keep u3; have v4 := hx3.keep u4; have v5 := hx3.keep u5; have hl3 := hx3.keep hl2))
        have Y : Ext w w3 := X.trans (hx2.trans hx3)
        clear hx2 hx3 u3 u4 u5 hl2 hl3 t2 t3 t4 t5 X hlX
        go_loopw [3, 4, 5] (fun s3 _ _ wr => ∃ c : Nat, c ≤ t.rates.length ∧ s3 = .int .i64 c ∧ Hid (∀ m, m < c → cropB t (t.rates.getD m []) = true) ∧ Ext w3 wr) (fun i _ _ _ => t.rates.length - (intOf i).toNat)
        case atStart => exact ⟨0, Nat.zero_le _, rfl, fun m h => absurd h (Nat.not_lt_zero _), Ext.refl _⟩
        case round =>
          obtain ⟨c, hc, rfl, HA, hxr⟩ := hrel
          have z3 := hxr.keep v3
          have z4 := hxr.keep v4
          have z5 := hxr.keep v5
          obtain ⟨wa, rfl⟩ : ∃ x, x = wr := ⟨_, rfl⟩
          by_cases hlt : c < t.rates.length
          · obtain ⟨b5, o5, a6, k6, rfl, m6, i6⟩ := HRT.out.get c hlt
            have z6 := hxr.keep (Y.keep m6)
            have HNc : Hid (cropB t (t.rates.getD c []) = false → res = false) := HN2.out c hlt
            have HAX : Hid (cropB t (t.rates.getD c []) = true → ∀ m, m < c + 1 → cropB t (t.rates.getD m []) = true) := fun h => upTo_next HA.out h
            have hlen6 := i6.len_le.2
            have HI6 := Lib.hid i6
            clear i6 m6
            generalize t.rates.getD c [] = crop at *
            by_cases hcl : crop.length = t.weeks.length
            · have HCN : Hid (∀ i, i < crop.length → rowB t.counts.length (crop.getD i []) = false → cropB t crop = false) := fun i => crop_no2
              have HCY : Hid ((∀ i, i < t.weeks.length → rowB t.counts.length (crop.getD i []) = true) → cropB t crop = true) := crop_yes hcl
              go_wp2_with fail
              go_upto_region 6 with fail
              go_quiet (fail)
              go_wp2_with fail
              go_loopw [4, 5] (fun s4 _ wr => ∃ i : Nat, i ≤ t.weeks.length ∧ s4 = .int .i64 i ∧ Hid (∀ m, m < i → rowB t.counts.length (crop.getD m []) = true) ∧ Ext wa wr) (fun i _ _ => t.weeks.length - (intOf i).toNat)
              case atStart => exact ⟨0, Nat.zero_le _, rfl, fun m h => absurd h (Nat.not_lt_zero _), by (repeat (first | exact Ext.refl _ | (with_reducible assumption) | (with_reducible refine Ext.drew ?_) | (with_reducible refine Ext.alloc ?_ _) | (with_reducible refine Ext.drewN ?_ _) | (with_reducible refine Ext.setCell ?_ (by omega) _) | (with_reducible refine Ext.trans ?_ (by with_reducible assumption))))⟩
              case round =>
                obtain ⟨i, hi, rfl, HW, hxi⟩ := hrel
                have y3 := hxi.keep z3
                have y4 := hxi.keep z4
                have y5 := hxi.keep z5
                have y6 := hxi.keep z6
                obtain ⟨wi, rfl⟩ : ∃ x, x = wr := ⟨_, rfl⟩
                by_cases hit : i < t.weeks.length
                · obtain ⟨b6, o6, a7, k7, rfl, m7, i7⟩ := HI6.out.get i (by omega)
                  have y7 := hxi.keep (hxr.keep (Y.keep m7))
                  have HNi : Hid (rowB t.counts.length (crop.getD i []) = false → cropB t crop = false) := HCN.out i (by omega)
                  have HWX : Hid (rowB t.counts.length (crop.getD i []) = true → ∀ m, m < i + 1 → rowB t.counts.length (crop.getD m []) = true) := fun h => upTo_next HW.out h
                  have hlen7 := i7.len_le.2
                  have HI7 := Lib.hid i7
                  clear i7 m7
                  generalize crop.getD i [] = row at *
                  by_cases hrl : row.length = t.counts.length
                  · have HRN : Hid (∀ j, j < row.length → inR (row.getD j 0) 0 100 = false → rowB t.counts.length row = false) := fun j => row_no2
                    have HRY : Hid ((∀ j, j < t.counts.length → inR (row.getD j 0) 0 100 = true) → rowB t.counts.length row = true) := row_yes hrl
                    go_wp2_with fail
                    go_upto_region 11 with fail
                    go_quiet (fail)
                    go_wp2_with fail
                    go_loopw [5] (fun s5 wr => ∃ j : Nat, j ≤ t.counts.length ∧ s5 = .int .i64 j ∧ Hid (∀ m, m < j → inR (row.getD m 0) 0 100 = true) ∧ Ext wi wr) (fun j _ => t.counts.length - (intOf j).toNat)
                    case atStart => exact ⟨0, Nat.zero_le _, rfl, fun m h => absurd h (Nat.not_lt_zero _), by (repeat (first | exact Ext.refl _ | (with_reducible assumption) | (with_reducible refine Ext.drew ?_) | (with_reducible refine Ext.alloc ?_ _) | (with_reducible refine Ext.drewN ?_ _) | (with_reducible refine Ext.setCell ?_ (by omega) _) | (with_reducible refine Ext.trans ?_ (by with_reducible assumption))))⟩
                    case round =>
                      obtain ⟨j, hj, rfl, HJ, hxj⟩ := hrel
                      have x3 := hxj.keep y3
                      have x4 := hxj.keep y4
                      have x5 := hxj.keep y5
                      have x6 := hxj.keep y6
                      have x7 := hxj.keep y7
                      by_cases hjt : j < t.counts.length
                      · obtain ⟨b7, o7, rfl, m8⟩ := HI7.out.get j (by omega)
                        have x8 := hxj.keep (hxi.keep (hxr.keep (Y.keep m8)))
                        have HRj : Hid (inR (row.getD j 0) 0 100 = false → rowB t.counts.length row = false) := HRN.out j (by omega)
                        have HJX : Hid (inR (row.getD j 0) 0 100 = true → ∀ m, m < j + 1 → inR (row.getD m 0) 0 100 = true) := fun h => upTo_next HJ.out h
                        clear m8
                        generalize row.getD j 0 = x at *
                        cases hin : inR x 0 100 with
                        | true =>
                          have HIN : Hid (∀ W, Calls Tryz.prog 56 #[.int .i64 x, .int .i64 0, .int .i64 100] W fun e w' => e = .returned (.bool true) ∧ W = w') := fun W => hin ▸ HI.out _ _ _ W
                          have HE := Lib.hid (HJX.out hin)
                          clear hin
                          go_wp2_with (go_at_call 56; with_reducible refine (HIN.out _).mono ?_; rintro e w' ⟨rfl, rfl⟩)
                          go_roundw
                          case rel =>
                            first
                              | exact ⟨j + 1, by omega, by go_num, HE.out, by (repeat (first | exact Ext.refl _ | (with_reducible assumption) | (with_reducible refine Ext.drew ?_) | (with_reducible refine Ext.alloc ?_ _) | (with_reducible refine Ext.drewN ?_ _) | (with_reducible refine Ext.setCell ?_ (by omega) _) | (with_reducible refine Ext.trans ?_ (by with_reducible assumption))))⟩
                              | ((repeat apply Exists.intro)
                                 exact ⟨⟨j + 1, by omega, by go_num, HE.out, by (repeat (first | exact Ext.refl _ | (with_reducible assumption) | (with_reducible refine Ext.drew ?_) | (with_reducible refine Ext.alloc ?_ _) | (with_reducible refine Ext.drewN ?_ _) | (with_reducible refine Ext.setCell ?_ (by omega) _) | (with_reducible refine Ext.trans ?_ (by with_reducible assumption))))⟩, rfl⟩)
                          case measure => simp [intOf]; omega
                        | false =>
                          have HIN : Hid (∀ W, Calls Tryz.prog 56 #[.int .i64 x, .int .i64 0, .int .i64 100] W fun e w' => e = .returned (.bool false) ∧ W = w') := fun W => hin ▸ HI.out _ _ _ W
                          have HE := Lib.hid (HNc.out (HNi.out (HRj.out hin)))
                          clear hin
                          go_wp2_with (go_at_call 56; with_reducible refine (HIN.out _).mono ?_; rintro e w' ⟨rfl, rfl⟩)
                          go_ret
                          exact ⟨congrArg (fun x => Ending.returned (.bool x)) HE.out.symm, by (repeat (first | exact Ext.refl _ | (with_reducible assumption) | (with_reducible refine Ext.drew ?_) | (with_reducible refine Ext.alloc ?_ _) | (with_reducible refine Ext.drewN ?_ _) | (with_reducible refine Ext.setCell ?_ (by omega) _) | (with_reducible refine Ext.trans ?_ (by with_reducible assumption))))⟩
                      · have e : j = t.counts.length := by omega
                        subst e
                        have HE := Lib.hid (HWX.out (HRY.out HJ.out))
                        go_wp2_with fail
                        go_roundw
                        case rel => exact ⟨i + 1, by omega, by go_num, HE.out, by (repeat (first | exact Ext.refl _ | (with_reducible assumption) | (with_reducible refine Ext.drew ?_) | (with_reducible refine Ext.alloc ?_ _) | (with_reducible refine Ext.drewN ?_ _) | (with_reducible refine Ext.setCell ?_ (by omega) _) | (with_reducible refine Ext.trans ?_ (by with_reducible assumption))))⟩
                        case measure => simp [intOf]; omega
                  · have HE := Lib.hid (HNc.out (HNi.out (row_no hrl)))
                    go_wp2_with fail
                    go_upto_region 11 with fail
                    go_quiet (fail)
                    go_wp2_with fail
                    go_ret
                    exact ⟨congrArg (fun x => Ending.returned (.bool x)) HE.out.symm, by (repeat (first | exact Ext.refl _ | (with_reducible assumption) | (with_reducible refine Ext.drew ?_) | (with_reducible refine Ext.alloc ?_ _) | (with_reducible refine Ext.drewN ?_ _) | (with_reducible refine Ext.setCell ?_ (by omega) _) | (with_reducible refine Ext.trans ?_ (by with_reducible assumption))))⟩
                · have e : i = t.weeks.length := by omega
                  subst e
                  have HE := Lib.hid (HAX.out (HCY.out HW.out))
                  go_wp2_with fail
                  go_roundw
                  case rel => exact ⟨c + 1, by omega, by go_num, HE.out, by (repeat (first | exact Ext.refl _ | (with_reducible assumption) | (with_reducible refine Ext.drew ?_) | (with_reducible refine Ext.alloc ?_ _) | (with_reducible refine Ext.drewN ?_ _) | (with_reducible refine Ext.setCell ?_ (by omega) _) | (with_reducible refine Ext.trans ?_ (by with_reducible assumption))))⟩
                  case measure => simp [intOf]; omega
            · have HE := Lib.hid (HNc.out (crop_no hcl))
              go_wp2_with fail
              go_upto_region 6 with fail
              go_quiet (fail)
              go_wp2_with fail
              go_ret
              exact ⟨congrArg (fun x => Ending.returned (.bool x)) HE.out.symm, by (repeat (first | exact Ext.refl _ | (with_reducible assumption) | (with_reducible refine Ext.drew ?_) | (with_reducible refine Ext.alloc ?_ _) | (with_reducible refine Ext.drewN ?_ _) | (with_reducible refine Ext.setCell ?_ (by omega) _) | (with_reducible refine Ext.trans ?_ (by with_reducible assumption))))⟩
          · have e : c = t.rates.length := by omega
            subst e
            have HE := Lib.hid (HYY.out HA.out)
            go_wp2_with fail
            go_ret
            exact ⟨congrArg (fun x => Ending.returned (.bool x)) HE.out.symm, by (repeat (first | exact Ext.refl _ | (with_reducible assumption) | (with_reducible refine Ext.drew ?_) | (with_reducible refine Ext.alloc ?_ _) | (with_reducible refine Ext.drewN ?_ _) | (with_reducible refine Ext.setCell ?_ (by omega) _) | (with_reducible refine Ext.trans ?_ (by with_reducible assumption))))⟩
      · have HE := Lib.hid (HN.out (by rw [g1, g2, show decide (0 < t.rates.length) = false by simpa using g5]; simp))
        rw [g4] at hlast
        clear g1 g2 g4 HN HY
        go_enter Tryz.func78, Tryz.ntmps78
        go_wp2_with fail
        have X : Ext w (w.alloc (.cells #[.int .i64 t.start, .bool t.whole, .int .i64 t.least, .slice a3 t.weeks.length k3, .slice (some ⟨b, off, none⟩) t.counts.length k4, .slice a5 t.rates.length k5] 87)) := by (repeat (first | exact Ext.refl _ | (with_reducible assumption) | (with_reducible refine Ext.drew ?_) | (with_reducible refine Ext.alloc ?_ _) | (with_reducible refine Ext.drewN ?_ _) | (with_reducible refine Ext.setCell ?_ (by omega) _) | (with_reducible refine Ext.trans ?_ (by with_reducible assumption))))
        have t2 : (w.alloc (.cells #[.int .i64 t.start, .bool t.whole, .int .i64 t.least, .slice a3 t.weeks.length k3, .slice (some ⟨b, off, none⟩) t.counts.length k4, .slice a5 t.rates.length k5] 87)).cell? ⟨w.heap.size, 2, none⟩ = some (.int .i64 t.least) := by simp
        have t3 : (w.alloc (.cells #[.int .i64 t.start, .bool t.whole, .int .i64 t.least, .slice a3 t.weeks.length k3, .slice (some ⟨b, off, none⟩) t.counts.length k4, .slice a5 t.rates.length k5] 87)).cell? ⟨w.heap.size, 3, none⟩ = some (.slice a3 t.weeks.length k3) := by simp
        have t4 : (w.alloc (.cells #[.int .i64 t.start, .bool t.whole, .int .i64 t.least, .slice a3 t.weeks.length k3, .slice (some ⟨b, off, none⟩) t.counts.length k4, .slice a5 t.rates.length k5] 87)).cell? ⟨w.heap.size, 4, none⟩ = some (.slice (some ⟨b, off, none⟩) t.counts.length k4) := by simp
        have t5 : (w.alloc (.cells #[.int .i64 t.start, .bool t.whole, .int .i64 t.least, .slice a3 t.weeks.length k3, .slice (some ⟨b, off, none⟩) t.counts.length k4, .slice a5 t.rates.length k5] 87)).cell? ⟨w.heap.size, 5, none⟩ = some (.slice a5 t.rates.length k5) := by simp
        generalize (w.alloc (.cells #[.int .i64 t.start, .bool t.whole, .int .i64 t.least, .slice a3 t.weeks.length k3, .slice (some ⟨b, off, none⟩) t.counts.length k4, .slice a5 t.rates.length k5] 87)) = W at *
        have hlX := X.keep hlast
        go_wp2_with (first
          | (go_at_call 56; with_reducible refine (HI1.out _).mono ?_; rintro e w' ⟨rfl, rfl⟩)
          | (go_at_call 56; with_reducible refine (HI2.out _).mono ?_; rintro e w' ⟨rfl, rfl⟩)
          | (go_at_call 93; (with_reducible refine (HR1.out W X).mono ?_); rintro e w2 ⟨rfl, hx2⟩; have u3 := hx2.keep t3; have u4 := hx2.keep t4; have u5 := hx2.keep t5; have hl2 := hx2.keep hlX)
          | (go_at_call 93; (with_reducible refine (HR2.out _ (X.trans hx2)).mono ?_); rintro e w3 ⟨rfl, hx3⟩; have v3 := hx3.keep u3; have v4 := hx3.keep u4; have v5 := hx3.keep u5; have hl3 := hx3.keep hl2))
        go_ret
        exact ⟨congrArg (fun x => Ending.returned (.bool x)) HE.out.symm, by (repeat (first | exact Ext.refl _ | (with_reducible assumption) | (with_reducible refine Ext.drew ?_) | (with_reducible refine Ext.alloc ?_ _) | (with_reducible refine Ext.drewN ?_ _) | (with_reducible refine Ext.setCell ?_ (by omega) _) | (with_reducible refine Ext.trans ?_ (by with_reducible assumption))))⟩
    · have HE := Lib.hid (HN.out (by rw [g1, g2, show (t.counts.getD (t.counts.length - 1) 0 == 100) = false by simpa using g4]; simp))
      clear g1 g2 HN HY
      generalize t.counts.getD (t.counts.length - 1) 0 = xl at *
      go_enter Tryz.func78, Tryz.ntmps78
      go_wp2_with fail
      have X : Ext w (w.alloc (.cells #[.int .i64 t.start, .bool t.whole, .int .i64 t.least, .slice a3 t.weeks.length k3, .slice (some ⟨b, off, none⟩) t.counts.length k4, .slice a5 t.rates.length k5] 87)) := by (repeat (first | exact Ext.refl _ | (with_reducible assumption) | (with_reducible refine Ext.drew ?_) | (with_reducible refine Ext.alloc ?_ _) | (with_reducible refine Ext.drewN ?_ _) | (with_reducible refine Ext.setCell ?_ (by omega) _) | (with_reducible refine Ext.trans ?_ (by with_reducible assumption))))
      have t2 : (w.alloc (.cells #[.int .i64 t.start, .bool t.whole, .int .i64 t.least, .slice a3 t.weeks.length k3, .slice (some ⟨b, off, none⟩) t.counts.length k4, .slice a5 t.rates.length k5] 87)).cell? ⟨w.heap.size, 2, none⟩ = some (.int .i64 t.least) := by simp
      have t3 : (w.alloc (.cells #[.int .i64 t.start, .bool t.whole, .int .i64 t.least, .slice a3 t.weeks.length k3, .slice (some ⟨b, off, none⟩) t.counts.length k4, .slice a5 t.rates.length k5] 87)).cell? ⟨w.heap.size, 3, none⟩ = some (.slice a3 t.weeks.length k3) := by simp
      have t4 : (w.alloc (.cells #[.int .i64 t.start, .bool t.whole, .int .i64 t.least, .slice a3 t.weeks.length k3, .slice (some ⟨b, off, none⟩) t.counts.length k4, .slice a5 t.rates.length k5] 87)).cell? ⟨w.heap.size, 4, none⟩ = some (.slice (some ⟨b, off, none⟩) t.counts.length k4) := by simp
      have t5 : (w.alloc (.cells #[.int .i64 t.start, .bool t.whole, .int .i64 t.least, .slice a3 t.weeks.length k3, .slice (some ⟨b, off, none⟩) t.counts.length k4, .slice a5 t.rates.length k5] 87)).cell? ⟨w.heap.size, 5, none⟩ = some (.slice a5 t.rates.length k5) := by simp
      generalize (w.alloc (.cells #[.int .i64 t.start, .bool t.whole, .int .i64 t.least, .slice a3 t.weeks.length k3, .slice (some ⟨b, off, none⟩) t.counts.length k4, .slice a5 t.rates.length k5] 87)) = W at *
      have hlX := X.keep hlast
      go_wp2_with (first
        | (go_at_call 56; with_reducible refine (HI1.out _).mono ?_; rintro e w' ⟨rfl, rfl⟩)
        | (go_at_call 56; with_reducible refine (HI2.out _).mono ?_; rintro e w' ⟨rfl, rfl⟩)
        | (go_at_call 93; (with_reducible refine (HR1.out W X).mono ?_); rintro e w2 ⟨rfl, hx2⟩; have u3 := hx2.keep t3; have u4 := hx2.keep t4; have u5 := hx2.keep t5; have hl2 := hx2.keep hlX)
        | (go_at_call 93; (with_reducible refine (HR2.out _ (X.trans hx2)).mono ?_); rintro e w3 ⟨rfl, hx3⟩; have v3 := hx3.keep u3; have v4 := hx3.keep u4; have v5 := hx3.keep u5; have hl3 := hx3.keep hl2))
      go_ret
      exact ⟨congrArg (fun x => Ending.returned (.bool x)) HE.out.symm, by (repeat (first | exact Ext.refl _ | (with_reducible assumption) | (with_reducible refine Ext.drew ?_) | (with_reducible refine Ext.alloc ?_ _) | (with_reducible refine Ext.drewN ?_ _) | (with_reducible refine Ext.setCell ?_ (by omega) _) | (with_reducible refine Ext.trans ?_ (by with_reducible assumption))))⟩
end Go.Proofs.YtedblocbcjoolaaGreat

/- The reference's Fault: the error of a list of tariffs. -/
namespace Go.Hs
open Go.RowKit
def goodT (l : List Tar) (k : Nat) : Prop := validB (l.getD k default) = true ∧ (l.getD k default).rates.length = (l.getD 0 default).rates.length ∧ (k = 0 → (l.getD k default).start = 0) ∧ (0 < k → (l.getD (k - 1) default).start < (l.getD k default).start)
theorem check3 {l : List Tar} (h : 3 < l.length) : checkS l = 3 := by unfold checkS; rw [if_pos (.inl h)]
theorem check3b {l : List Tar} {k : Nat} (hk : k < l.length) (h : fewB (l.getD k default) = false) : checkS l = 3 := by
  have e : allB l.length (fun i => fewB (l.getD i default)) = false := by
    rw [← Bool.not_eq_true, allB_iff]
    intro g
    rw [g k hk] at h; cases h
  unfold checkS
  rw [if_pos (.inr e)]
theorem check1 {l : List Tar} (h3 : l.length ≤ 3) (hf : ∀ k, k < l.length → fewB (l.getD k default) = true) {k : Nat} (hk : k < l.length) (h : ¬ goodT l k) : checkS l = 1 := by
  have h1 : ¬ (3 < l.length ∨ allB l.length (fun i => fewB (l.getD i default)) = false) := by
    rw [allB_iff.2 hf]; simp; omega
  unfold checkS
  rw [if_neg h1]
  split
  · rfl
  · rename_i h2
    rw [if_pos]
    cases e : chainB l with
    | false => rfl
    | true =>
      exfalso
      have hc := allB_iff.1 (chainB_link l ▸ e)
      have hv : allB l.length (fun i => validB (l.getD i default)) = true := by
        cases hh : allB l.length (fun i => validB (l.getD i default)) with
        | true => rfl
        | false => exact absurd (.inr (.inr hh)) h2
      have hs : (l.getD 0 default).start = 0 := by
        by_cases g : (l.getD 0 default).start = 0
        · exact g
        · exact absurd (.inr (.inl g)) h2
      apply h
      refine ⟨allB_iff.1 hv k hk, ?_, ?_, ?_⟩
      · cases k with
        | zero => rfl
        | succ k =>
          have := hc k (by omega)
          simp only [linkB, Bool.and_eq_true, decide_eq_true_eq] at this
          exact this.2
      · rintro rfl; exact hs
      · intro g
        have := hc (k - 1) (by omega)
        simp only [linkB, Bool.and_eq_true, decide_eq_true_eq] at this
        rw [show k - 1 + 1 = k by omega] at this
        exact this.1
theorem check1b {l : List Tar} (h : l.length = 0) : checkS l = 1 := by
  have e : l = [] := List.eq_nil_of_length_eq_zero h
  subst e; rfl
theorem check0 {l : List Tar} (h3 : l.length ≤ 3) (h0 : 0 < l.length) (hf : ∀ k, k < l.length → fewB (l.getD k default) = true) (h : ∀ k, k < l.length → goodT l k) : checkS l = 0 := by
  refine ValidL.check ⟨h0, h3, (h 0 h0).2.2.1 rfl, hf, fun i hi => (h i hi).1, fun i hi => ?_⟩
  simp only [linkB, Bool.and_eq_true, decide_eq_true_eq]
  have := h (i + 1) (by omega)
  exact ⟨by have := this.2.2.2 (by omega); simpa using this, this.2.1⟩
end Go.Hs
namespace Go.Proofs.YtedblocbcjoolaaGreat
open Go.RowKit Go.Hs
attribute [local irreducible] World.setCell World.alloc

set_option maxRecDepth 100000 in
set_option maxHeartbeats 2000000 in
theorem Fault_any (v : Value) (l : List Tar) (w : World) (hv : TarsV w v l) :
    Calls Tryz.prog 55 #[v] w fun e w' => e = .returned (.int .i64 (checkS l)) ∧ Ext w w' := by
  obtain ⟨a, c, rfl, h1, h2, hr⟩ := hv
  by_cases h3 : l.length ≤ 3
  · have HR := Lib.hid hr
    have HG1 : Hid ((∀ k, k < l.length → fewB (l.getD k default) = true) → ∀ k, k < l.length → ¬ goodT l k → checkS l = 1) := fun hf k hk h => check1 h3 hf hk h
    have HG0 : Hid (0 < l.length → (∀ k, k < l.length → fewB (l.getD k default) = true) → (∀ k, k < l.length → goodT l k) → checkS l = 0) := fun h0 hf h => check0 h3 h0 hf h
    have HG3 : Hid (∀ k, k < l.length → fewB (l.getD k default) = false → checkS l = 3) := fun k => check3b
    have HGB : Hid (l.length = 0 → checkS l = 1) := check1b
    clear hr
    generalize checkS l = res at *
    go_enter Tryz.func55, Tryz.ntmps55
    go_wp2_with fail
    go_loop [3] (fun s3 => ∃ k : Nat, k ≤ l.length ∧ s3 = .int .i64 k ∧ Hid (∀ m, m < k → fewB (l.getD m default) = true)) (fun i => l.length - (intOf i).toNat)
    case atStart => exact ⟨0, Nat.zero_le _, rfl, fun m h => absurd h (Nat.not_lt_zero _)⟩
    case round =>
      obtain ⟨k, hk, rfl, HF⟩ := hrel
      by_cases hlt : k < l.length
      · obtain ⟨b, off, rfl, ht⟩ := HR.out k hlt
        obtain ⟨a3, k3, a4, k4, a5, k5, m0, m1, m2, m3, m4, m5, mc⟩ := ht.open
        have e1 : l[k] = l.getD k default := by simp [hlt]
        rw [e1] at m3 m4 m5
        have HFX : Hid (fewB (l.getD k default) = true → ∀ m, m < k + 1 → fewB (l.getD m default) = true) := fun h => upTo_next HF.out h
        have HFN : Hid (fewB (l.getD k default) = false → res = 3) := HG3.out k hlt
        clear ht mc m0 m1 m2 e1
        generalize l.getD k default = t at *
        by_cases hs : t.weeks.length ≤ 4 ∧ t.counts.length ≤ 5 ∧ t.rates.length ≤ 3
        · have HE := Lib.hid (HFX.out (by simp [fewB, hs]))
          obtain ⟨s1, s2, s3⟩ := hs
          go_wp2_with fail
          go_round
          case rel => exact ⟨k + 1, by omega, by go_num, HE.out⟩
          case measure => simp [intOf]; omega
        · have HE := Lib.hid (HFN.out (by
            rw [← Bool.not_eq_true]
            intro g
            simp only [fewB, Bool.and_eq_true, decide_eq_true_eq] at g
            exact hs ⟨g.1.1, g.1.2, g.2⟩))
          go_wp2_with fail
          all_goals go_ret
          all_goals exact ⟨congrArg (fun x => Ending.returned (.int .i64 x)) HE.out.symm, Ext.refl _⟩
      · have e : k = l.length := by omega
        subst e
        have HG1' := Lib.hid (HG1.out HF.out)
        have HG0' : Hid (0 < l.length → (∀ k, k < l.length → goodT l k) → res = 0) := fun h => HG0.out h HF.out
        clear HG1 HG0 HG3 HF
        go_wp2_with fail
        go_loopw [4] (fun s4 wr => ∃ k : Nat, k ≤ l.length ∧ s4 = .int .i64 k ∧ Hid (∀ m, m < k → goodT l m) ∧ Ext w wr) (fun i _ => l.length - (intOf i).toNat)
        case atStart => exact ⟨0, Nat.zero_le _, rfl, fun m h => absurd h (Nat.not_lt_zero _), Ext.refl _⟩
        case round =>
          obtain ⟨k, hk, rfl, HI, hx⟩ := hrel
          obtain ⟨wa, rfl⟩ : ∃ x, x = wr := ⟨_, rfl⟩
          by_cases hlt : k < l.length
          · obtain ⟨b, off, rfl, ht⟩ := HR.out k hlt
            obtain ⟨a3, k3, a4, k4, a5, k5, m0, m1, m2, m3, m4, m5, mc⟩ := (TarAt.ext hx _ _ _ ht).open
            have e1 : l[k] = l.getD k default := by simp [hlt]
            rw [e1] at m0 m1 m2 m3 m4 m5 mc
            have HIT : Hid (∀ W, Ext wa W → Calls Tryz.prog 78 #[.agg #[.int .i64 (l.getD k default).start, .bool (l.getD k default).whole, .int .i64 (l.getD k default).least, .slice a3 (l.getD k default).weeks.length k3, .slice a4 (l.getD k default).counts.length k4, .slice a5 (l.getD k default).rates.length k5]] W fun e w' => e = .returned (.bool (validB (l.getD k default))) ∧ Ext W w') :=
              fun W hxW => IsTariff_any ⟨_, _, _, _, _, _⟩ (l.getD k default) W ⟨rfl, rfl, rfl, mc.ext hxW⟩
            clear ht mc e1
            cases hval : validB (l.getD k default) with
            | false =>
              have HE := Lib.hid (HG1'.out k hlt (fun g => by have := g.1; rw [hval] at this; cases this))
              rw [hval] at HIT
              clear hval
              generalize l.getD k default = t at *
              have g0 : ∀ w', Ext wa w' → w'.cell? ⟨b, off + k * 6, none⟩ = some (.int .i64 t.start) := fun w' h => h.keep m0
              have g1 : ∀ w', Ext wa w' → w'.cell? ⟨b, off + k * 6 + 1, none⟩ = some (.bool t.whole) := fun w' h => h.keep m1
              have g2 : ∀ w', Ext wa w' → w'.cell? ⟨b, off + k * 6 + 2, none⟩ = some (.int .i64 t.least) := fun w' h => h.keep m2
              have g3 : ∀ w', Ext wa w' → w'.cell? ⟨b, off + k * 6 + 3, none⟩ = some (.slice a3 t.weeks.length k3) := fun w' h => h.keep m3
              have g4 : ∀ w', Ext wa w' → w'.cell? ⟨b, off + k * 6 + 4, none⟩ = some (.slice a4 t.counts.length k4) := fun w' h => h.keep m4
              have g5 : ∀ w', Ext wa w' → w'.cell? ⟨b, off + k * 6 + 5, none⟩ = some (.slice a5 t.rates.length k5) := fun w' h => h.keep m5
              go_wp2_with fail
              go_upto_region 11 with fail
              refine wp_region_quiet (C := Ext wa) (by kernel_rfl) (by kernel_rfl) (Ext.drew (by (repeat (first | exact Ext.refl _ | (with_reducible assumption) | (with_reducible refine Ext.drew ?_) | (with_reducible refine Ext.alloc ?_ _) | (with_reducible refine Ext.drewN ?_ _) | (with_reducible refine Ext.setCell ?_ (by omega) _) | (with_reducible refine Ext.trans ?_ (by with_reducible assumption)))))) ?_
              rw [show ∀ (l : List Oper), l.toArray.toList = l from fun l => rfl]
              repeat (first
                | go_big_quiet_skip
                | (go_big_quiet_want
                   first
                    | (go_big_quiet_op; go_big_quiet_on)
                    | (apply Exists.intro
                       refine ⟨fun w' hxw => ?_, ?_⟩
                       focus (have q0 := g0 w' hxw; have q1 := g1 w' hxw; have q2 := g2 w' hxw; have q3 := g3 w' hxw; have q4 := g4 w' hxw; have q5 := g5 w' hxw; go_simp; first | exact rfl | exact (HIT.out w' hxw).mono (fun e w'' h => ⟨h.1, hxw.trans h.2⟩))
                       simp only [Act.put, List.setIfInBounds_toArray, List.set_cons_zero, List.set_cons_succ]
                       go_big_quiet_on)))
              refine wpQuiet_nil ?_
              intro w2 hx2
              go_wp2_with fail
              go_ret
              exact ⟨congrArg (fun x => Ending.returned (.int .i64 x)) HE.out.symm, by (repeat (first | exact Ext.refl _ | (with_reducible assumption) | (with_reducible refine Ext.drew ?_) | (with_reducible refine Ext.alloc ?_ _) | (with_reducible refine Ext.drewN ?_ _) | (with_reducible refine Ext.setCell ?_ (by omega) _) | (with_reducible refine Ext.trans ?_ (by with_reducible assumption))))⟩
            | true =>
              obtain ⟨b0, off0, he0, ht0⟩ := HR.out 0 (by omega)
              cases he0
              obtain ⟨a30, k30, a40, k40, a50, k50, n0, n1, n2, n3, n4, n5, nc⟩ := (TarAt.ext hx _ _ _ ht0).open
              have e0 : l[0]'(by omega) = l.getD 0 default := by simp [show 0 < l.length by omega]
              rw [e0] at n5
              simp only [Nat.zero_mul, Nat.add_zero] at n5
              clear ht0 nc n0 n1 n2 n3 n4 e0
              have HGX : Hid (goodT l k → ∀ m, m < k + 1 → goodT l m) := fun h => upTo_next HI.out h
              have HBK : Hid (¬ goodT l k → res = 1) := HG1'.out k hlt
              rw [hval] at HIT
              have hlpos : (0 : Int) < (l.length : Int) := by omega
              have hlpos' : 0 < l.length := by omega
              have hlnil : ¬ l = [] := by intro e; rw [e] at hlpos'; exact absurd hlpos' (by decide)
              by_cases hrr : (l.getD k default).rates.length = (l.getD 0 default).rates.length
              · by_cases hk0 : k = 0
                · have hz1 : ((k : Int) == 0) = true := by rw [beq_iff_eq]; omega
                  have hz2 : decide (0 < k) = false := decide_eq_false (by omega)
                  have hz3 : decide ((0 : Int) < (k : Int)) = false := decide_eq_false (by omega)
                  by_cases hst : (l.getD k default).start = 0
                  · have HE := Lib.hid (HGX.out ⟨hval, hrr, fun _ => hst, fun g => absurd g (by omega)⟩)
                    have hs1 : ((l.getD k default).start != 0) = false := by rw [bne_eq_false_iff_eq]; exact hst
                    clear hst hk0
                    generalize (l.getD 0 default).rates.length = nr at *
                    clear hval
                    generalize l.getD k default = t at *
                    have g0 : ∀ w', Ext wa w' → w'.cell? ⟨b, off + k * 6, none⟩ = some (.int .i64 t.start) := fun w' h => h.keep m0
                    have g1 : ∀ w', Ext wa w' → w'.cell? ⟨b, off + k * 6 + 1, none⟩ = some (.bool t.whole) := fun w' h => h.keep m1
                    have g2 : ∀ w', Ext wa w' → w'.cell? ⟨b, off + k * 6 + 2, none⟩ = some (.int .i64 t.least) := fun w' h => h.keep m2
                    have g3 : ∀ w', Ext wa w' → w'.cell? ⟨b, off + k * 6 + 3, none⟩ = some (.slice a3 t.weeks.length k3) := fun w' h => h.keep m3
                    have g4 : ∀ w', Ext wa w' → w'.cell? ⟨b, off + k * 6 + 4, none⟩ = some (.slice a4 t.counts.length k4) := fun w' h => h.keep m4
                    have g5 : ∀ w', Ext wa w' → w'.cell? ⟨b, off + k * 6 + 5, none⟩ = some (.slice a5 t.rates.length k5) := fun w' h => h.keep m5
                    have g6 : ∀ w', Ext wa w' → w'.cell? ⟨b, off + 5, none⟩ = some (.slice a50 nr k50) := fun w' h => h.keep n5
                    have hne : ((t.rates.length : Int) != (nr : Int)) = false := by rw [bne_eq_false_iff_eq]; omega
                    clear hrr
                    go_wp2_with fail
                    go_upto_region 11 with fail
                    refine wp_region_quiet (C := Ext wa) (by kernel_rfl) (by kernel_rfl) (Ext.drew (by (repeat (first | exact Ext.refl _ | (with_reducible assumption) | (with_reducible refine Ext.drew ?_) | (with_reducible refine Ext.alloc ?_ _) | (with_reducible refine Ext.drewN ?_ _) | (with_reducible refine Ext.setCell ?_ (by omega) _) | (with_reducible refine Ext.trans ?_ (by with_reducible assumption)))))) ?_
                    rw [show ∀ (l : List Oper), l.toArray.toList = l from fun l => rfl]
                    repeat (first
                      | go_big_quiet_skip
                      | (go_big_quiet_want
                         first
                          | (go_big_quiet_op; go_big_quiet_on)
                          | (apply Exists.intro
                             refine ⟨fun w' hxw => ?_, ?_⟩
                             focus (have q0 := g0 w' hxw; have q1 := g1 w' hxw; have q2 := g2 w' hxw; have q3 := g3 w' hxw; have q4 := g4 w' hxw; have q5 := g5 w' hxw; have q6 := g6 w' hxw; go_simp; first | exact rfl | exact (HIT.out w' hxw).mono (fun e w'' h => ⟨h.1, hxw.trans h.2⟩))
                             simp only [Act.put, List.setIfInBounds_toArray, List.set_cons_zero, List.set_cons_succ]
                             go_big_quiet_on)))
                    refine wpQuiet_nil ?_
                    intro w2 hx2
                    go_wp2_with fail
                    go_roundw
                    case rel => exact ⟨k + 1, by omega, by go_num, HE.out, by (repeat (first | exact Ext.refl _ | (with_reducible assumption) | (with_reducible refine Ext.drew ?_) | (with_reducible refine Ext.alloc ?_ _) | (with_reducible refine Ext.drewN ?_ _) | (with_reducible refine Ext.setCell ?_ (by omega) _) | (with_reducible refine Ext.trans ?_ (by with_reducible assumption))))⟩
                    case measure => simp [intOf]; omega
                  · have HE := Lib.hid (HBK.out (fun g => hst (g.2.2.1 hk0)))
                    have hs1 : ((l.getD k default).start != 0) = true := by rw [bne_iff_ne]; exact hst
                    clear hst hk0
                    generalize (l.getD 0 default).rates.length = nr at *
                    clear hval
                    generalize l.getD k default = t at *
                    have g0 : ∀ w', Ext wa w' → w'.cell? ⟨b, off + k * 6, none⟩ = some (.int .i64 t.start) := fun w' h => h.keep m0
                    have g1 : ∀ w', Ext wa w' → w'.cell? ⟨b, off + k * 6 + 1, none⟩ = some (.bool t.whole) := fun w' h => h.keep m1
                    have g2 : ∀ w', Ext wa w' → w'.cell? ⟨b, off + k * 6 + 2, none⟩ = some (.int .i64 t.least) := fun w' h => h.keep m2
                    have g3 : ∀ w', Ext wa w' → w'.cell? ⟨b, off + k * 6 + 3, none⟩ = some (.slice a3 t.weeks.length k3) := fun w' h => h.keep m3
                    have g4 : ∀ w', Ext wa w' → w'.cell? ⟨b, off + k * 6 + 4, none⟩ = some (.slice a4 t.counts.length k4) := fun w' h => h.keep m4
                    have g5 : ∀ w', Ext wa w' → w'.cell? ⟨b, off + k * 6 + 5, none⟩ = some (.slice a5 t.rates.length k5) := fun w' h => h.keep m5
                    have g6 : ∀ w', Ext wa w' → w'.cell? ⟨b, off + 5, none⟩ = some (.slice a50 nr k50) := fun w' h => h.keep n5
                    have hne : ((t.rates.length : Int) != (nr : Int)) = false := by rw [bne_eq_false_iff_eq]; omega
                    clear hrr
                    go_wp2_with fail
                    go_upto_region 11 with fail
                    refine wp_region_quiet (C := Ext wa) (by kernel_rfl) (by kernel_rfl) (Ext.drew (by (repeat (first | exact Ext.refl _ | (with_reducible assumption) | (with_reducible refine Ext.drew ?_) | (with_reducible refine Ext.alloc ?_ _) | (with_reducible refine Ext.drewN ?_ _) | (with_reducible refine Ext.setCell ?_ (by omega) _) | (with_reducible refine Ext.trans ?_ (by with_reducible assumption)))))) ?_
                    rw [show ∀ (l : List Oper), l.toArray.toList = l from fun l => rfl]
                    repeat (first
                      | go_big_quiet_skip
                      | (go_big_quiet_want
                         first
                          | (go_big_quiet_op; go_big_quiet_on)
                          | (apply Exists.intro
                             refine ⟨fun w' hxw => ?_, ?_⟩
                             focus (have q0 := g0 w' hxw; have q1 := g1 w' hxw; have q2 := g2 w' hxw; have q3 := g3 w' hxw; have q4 := g4 w' hxw; have q5 := g5 w' hxw; have q6 := g6 w' hxw; go_simp; first | exact rfl | exact (HIT.out w' hxw).mono (fun e w'' h => ⟨h.1, hxw.trans h.2⟩))
                             simp only [Act.put, List.setIfInBounds_toArray, List.set_cons_zero, List.set_cons_succ]
                             go_big_quiet_on)))
                    refine wpQuiet_nil ?_
                    intro w2 hx2
                    go_wp2_with fail
                    go_ret
                    exact ⟨congrArg (fun x => Ending.returned (.int .i64 x)) HE.out.symm, by (repeat (first | exact Ext.refl _ | (with_reducible assumption) | (with_reducible refine Ext.drew ?_) | (with_reducible refine Ext.alloc ?_ _) | (with_reducible refine Ext.drewN ?_ _) | (with_reducible refine Ext.setCell ?_ (by omega) _) | (with_reducible refine Ext.trans ?_ (by with_reducible assumption))))⟩
                · obtain ⟨m, rfl⟩ : ∃ m, k = m + 1 := ⟨k - 1, by omega⟩
                  obtain ⟨b1, off1, he1, ht1⟩ := HR.out m (by omega)
                  cases he1
                  obtain ⟨a31, k31, a41, k41, a51, k51, p0, p1, p2, p3, p4, p5, pc⟩ := (TarAt.ext hx _ _ _ ht1).open
                  have e0 : l[m]'(by omega) = l.getD m default := by simp [show m < l.length by omega]
                  rw [e0] at p0
                  clear ht1 pc p1 p2 p3 p4 p5 e0 hk0
                  have hi0 : (0 : Int) ≤ (m : Int) + 1 := by omega
                  have hi1 : (m : Int) + 1 < (l.length : Int) := by omega
                  have hi2 : ((m : Int) + 1).toNat = m + 1 := by omega
                  have hi3 : (m : Int) < (l.length : Int) := by omega
                  have hw1 : IntKind.i64.wrap (m : Int) = (m : Int) := IntWalk.i64_in _ (by omega)
                  have hz1 : (((m + 1 : Nat) : Int) == 0) = false := by rw [beq_eq_false_iff_ne]; omega
                  have hz1' : ((m : Int) + 1 == 0) = false := by rw [beq_eq_false_iff_ne]; omega
                  have hz2 : decide (0 < m + 1) = true := decide_eq_true (by omega)
                  have hz3 : decide ((0 : Int) < (m : Int) + 1) = true := decide_eq_true (by omega)
                  by_cases hst : (l.getD m default).start < (l.getD (m + 1) default).start
                  · have HE := Lib.hid (HGX.out ⟨hval, hrr, fun g => absurd g (by omega), fun _ => by simpa using hst⟩)
                    have hs1 : ¬ (l.getD (m + 1) default).start ≤ (l.getD m default).start := by omega
                    have hs2 : decide ((l.getD (m + 1) default).start ≤ (l.getD m default).start) = false := decide_eq_false hs1
                    clear hst
                    generalize (l.getD 0 default).rates.length = nr at *
                    generalize (l.getD m default).start = fm at *
                    clear hval
                    generalize l.getD (m + 1) default = t at *
                    have g0 : ∀ w', Ext wa w' → w'.cell? ⟨b, off + (m + 1) * 6, none⟩ = some (.int .i64 t.start) := fun w' h => h.keep m0
                    have g1 : ∀ w', Ext wa w' → w'.cell? ⟨b, off + (m + 1) * 6 + 1, none⟩ = some (.bool t.whole) := fun w' h => h.keep m1
                    have g2 : ∀ w', Ext wa w' → w'.cell? ⟨b, off + (m + 1) * 6 + 2, none⟩ = some (.int .i64 t.least) := fun w' h => h.keep m2
                    have g3 : ∀ w', Ext wa w' → w'.cell? ⟨b, off + (m + 1) * 6 + 3, none⟩ = some (.slice a3 t.weeks.length k3) := fun w' h => h.keep m3
                    have g4 : ∀ w', Ext wa w' → w'.cell? ⟨b, off + (m + 1) * 6 + 4, none⟩ = some (.slice a4 t.counts.length k4) := fun w' h => h.keep m4
                    have g5 : ∀ w', Ext wa w' → w'.cell? ⟨b, off + (m + 1) * 6 + 5, none⟩ = some (.slice a5 t.rates.length k5) := fun w' h => h.keep m5
                    have g6 : ∀ w', Ext wa w' → w'.cell? ⟨b, off + 5, none⟩ = some (.slice a50 nr k50) := fun w' h => h.keep n5
                    have hne : ((t.rates.length : Int) != (nr : Int)) = false := by rw [bne_eq_false_iff_eq]; omega
                    clear hrr
                    have g7 : ∀ w', Ext wa w' → w'.cell? ⟨b, off + m * 6, none⟩ = some (.int .i64 fm) := fun w' h => h.keep p0
                    go_wp2_with fail
                    go_upto_region 11 with fail
                    refine wp_region_quiet (C := Ext wa) (by kernel_rfl) (by kernel_rfl) (Ext.drew (by (repeat (first | exact Ext.refl _ | (with_reducible assumption) | (with_reducible refine Ext.drew ?_) | (with_reducible refine Ext.alloc ?_ _) | (with_reducible refine Ext.drewN ?_ _) | (with_reducible refine Ext.setCell ?_ (by omega) _) | (with_reducible refine Ext.trans ?_ (by with_reducible assumption)))))) ?_
                    rw [show ∀ (l : List Oper), l.toArray.toList = l from fun l => rfl]
                    repeat (first
                      | go_big_quiet_skip
                      | (go_big_quiet_want
                         first
                          | (go_big_quiet_op; go_big_quiet_on)
                          | (apply Exists.intro
                             refine ⟨fun w' hxw => ?_, ?_⟩
                             focus (have q0 := g0 w' hxw; have q1 := g1 w' hxw; have q2 := g2 w' hxw; have q3 := g3 w' hxw; have q4 := g4 w' hxw; have q5 := g5 w' hxw; have q6 := g6 w' hxw; have q7 := g7 w' hxw; go_simp; first | exact rfl | exact (HIT.out w' hxw).mono (fun e w'' h => ⟨h.1, hxw.trans h.2⟩))
                             simp only [Act.put, List.setIfInBounds_toArray, List.set_cons_zero, List.set_cons_succ]
                             go_big_quiet_on)))
                    refine wpQuiet_nil ?_
                    intro w2 hx2
                    go_wp2_with fail
                    go_roundw
                    case rel => exact ⟨m + 1 + 1, by omega, by go_num, HE.out, by (repeat (first | exact Ext.refl _ | (with_reducible assumption) | (with_reducible refine Ext.drew ?_) | (with_reducible refine Ext.alloc ?_ _) | (with_reducible refine Ext.drewN ?_ _) | (with_reducible refine Ext.setCell ?_ (by omega) _) | (with_reducible refine Ext.trans ?_ (by with_reducible assumption))))⟩
                    case measure => simp [intOf]; omega
                  · have HE := Lib.hid (HBK.out (fun g => hst (by have := g.2.2.2 (by omega); simpa using this)))
                    have hs1 : (l.getD (m + 1) default).start ≤ (l.getD m default).start := by omega
                    have hs2 : decide ((l.getD (m + 1) default).start ≤ (l.getD m default).start) = true := decide_eq_true hs1
                    clear hst
                    generalize (l.getD 0 default).rates.length = nr at *
                    generalize (l.getD m default).start = fm at *
                    clear hval
                    generalize l.getD (m + 1) default = t at *
                    have g0 : ∀ w', Ext wa w' → w'.cell? ⟨b, off + (m + 1) * 6, none⟩ = some (.int .i64 t.start) := fun w' h => h.keep m0
                    have g1 : ∀ w', Ext wa w' → w'.cell? ⟨b, off + (m + 1) * 6 + 1, none⟩ = some (.bool t.whole) := fun w' h => h.keep m1
                    have g2 : ∀ w', Ext wa w' → w'.cell? ⟨b, off + (m + 1) * 6 + 2, none⟩ = some (.int .i64 t.least) := fun w' h => h.keep m2
                    have g3 : ∀ w', Ext wa w' → w'.cell? ⟨b, off + (m + 1) * 6 + 3, none⟩ = some (.slice a3 t.weeks.length k3) := fun w' h => h.keep m3
                    have g4 : ∀ w', Ext wa w' → w'.cell? ⟨b, off + (m + 1) * 6 + 4, none⟩ = some (.slice a4 t.counts.length k4) := fun w' h => h.keep m4
                    have g5 : ∀ w', Ext wa w' → w'.cell? ⟨b, off + (m + 1) * 6 + 5, none⟩ = some (.slice a5 t.rates.length k5) := fun w' h => h.keep m5
                    have g6 : ∀ w', Ext wa w' → w'.cell? ⟨b, off + 5, none⟩ = some (.slice a50 nr k50) := fun w' h => h.keep n5
                    have hne : ((t.rates.length : Int) != (nr : Int)) = false := by rw [bne_eq_false_iff_eq]; omega
                    clear hrr
                    have g7 : ∀ w', Ext wa w' → w'.cell? ⟨b, off + m * 6, none⟩ = some (.int .i64 fm) := fun w' h => h.keep p0
                    go_wp2_with fail
                    go_upto_region 11 with fail
                    refine wp_region_quiet (C := Ext wa) (by kernel_rfl) (by kernel_rfl) (Ext.drew (by (repeat (first | exact Ext.refl _ | (with_reducible assumption) | (with_reducible refine Ext.drew ?_) | (with_reducible refine Ext.alloc ?_ _) | (with_reducible refine Ext.drewN ?_ _) | (with_reducible refine Ext.setCell ?_ (by omega) _) | (with_reducible refine Ext.trans ?_ (by with_reducible assumption)))))) ?_
                    rw [show ∀ (l : List Oper), l.toArray.toList = l from fun l => rfl]
                    repeat (first
                      | go_big_quiet_skip
                      | (go_big_quiet_want
                         first
                          | (go_big_quiet_op; go_big_quiet_on)
                          | (apply Exists.intro
                             refine ⟨fun w' hxw => ?_, ?_⟩
                             focus (have q0 := g0 w' hxw; have q1 := g1 w' hxw; have q2 := g2 w' hxw; have q3 := g3 w' hxw; have q4 := g4 w' hxw; have q5 := g5 w' hxw; have q6 := g6 w' hxw; have q7 := g7 w' hxw; go_simp; first | exact rfl | exact (HIT.out w' hxw).mono (fun e w'' h => ⟨h.1, hxw.trans h.2⟩))
                             simp only [Act.put, List.setIfInBounds_toArray, List.set_cons_zero, List.set_cons_succ]
                             go_big_quiet_on)))
                    refine wpQuiet_nil ?_
                    intro w2 hx2
                    go_wp2_with fail
                    go_ret
                    exact ⟨congrArg (fun x => Ending.returned (.int .i64 x)) HE.out.symm, by (repeat (first | exact Ext.refl _ | (with_reducible assumption) | (with_reducible refine Ext.drew ?_) | (with_reducible refine Ext.alloc ?_ _) | (with_reducible refine Ext.drewN ?_ _) | (with_reducible refine Ext.setCell ?_ (by omega) _) | (with_reducible refine Ext.trans ?_ (by with_reducible assumption))))⟩
              · have HE := Lib.hid (HBK.out (fun g => hrr g.2.1))
                have hnr : ¬ (l.getD k default).rates.length = (l.getD 0 default).rates.length := hrr
                generalize (l.getD 0 default).rates.length = nr at *
                clear hval
                generalize l.getD k default = t at *
                have g0 : ∀ w', Ext wa w' → w'.cell? ⟨b, off + k * 6, none⟩ = some (.int .i64 t.start) := fun w' h => h.keep m0
                have g1 : ∀ w', Ext wa w' → w'.cell? ⟨b, off + k * 6 + 1, none⟩ = some (.bool t.whole) := fun w' h => h.keep m1
                have g2 : ∀ w', Ext wa w' → w'.cell? ⟨b, off + k * 6 + 2, none⟩ = some (.int .i64 t.least) := fun w' h => h.keep m2
                have g3 : ∀ w', Ext wa w' → w'.cell? ⟨b, off + k * 6 + 3, none⟩ = some (.slice a3 t.weeks.length k3) := fun w' h => h.keep m3
                have g4 : ∀ w', Ext wa w' → w'.cell? ⟨b, off + k * 6 + 4, none⟩ = some (.slice a4 t.counts.length k4) := fun w' h => h.keep m4
                have g5 : ∀ w', Ext wa w' → w'.cell? ⟨b, off + k * 6 + 5, none⟩ = some (.slice a5 t.rates.length k5) := fun w' h => h.keep m5
                have g6 : ∀ w', Ext wa w' → w'.cell? ⟨b, off + 5, none⟩ = some (.slice a50 nr k50) := fun w' h => h.keep n5
                have hne : ((t.rates.length : Int) != (nr : Int)) = true := by rw [bne_iff_ne]; omega
                clear hrr hnr
                go_wp2_with fail
                go_upto_region 11 with fail
                refine wp_region_quiet (C := Ext wa) (by kernel_rfl) (by kernel_rfl) (Ext.drew (by (repeat (first | exact Ext.refl _ | (with_reducible assumption) | (with_reducible refine Ext.drew ?_) | (with_reducible refine Ext.alloc ?_ _) | (with_reducible refine Ext.drewN ?_ _) | (with_reducible refine Ext.setCell ?_ (by omega) _) | (with_reducible refine Ext.trans ?_ (by with_reducible assumption)))))) ?_
                rw [show ∀ (l : List Oper), l.toArray.toList = l from fun l => rfl]
                repeat (first
                  | go_big_quiet_skip
                  | (go_big_quiet_want
                     first
                      | (go_big_quiet_op; go_big_quiet_on)
                      | (apply Exists.intro
                         refine ⟨fun w' hxw => ?_, ?_⟩
                         focus (have q0 := g0 w' hxw; have q1 := g1 w' hxw; have q2 := g2 w' hxw; have q3 := g3 w' hxw; have q4 := g4 w' hxw; have q5 := g5 w' hxw; have q6 := g6 w' hxw; go_simp; first | exact rfl | exact (HIT.out w' hxw).mono (fun e w'' h => ⟨h.1, hxw.trans h.2⟩))
                         simp only [Act.put, List.setIfInBounds_toArray, List.set_cons_zero, List.set_cons_succ]
                         go_big_quiet_on)))
                refine wpQuiet_nil ?_
                intro w2 hx2
                go_wp2_with fail
                go_ret
                exact ⟨congrArg (fun x => Ending.returned (.int .i64 x)) HE.out.symm, by (repeat (first | exact Ext.refl _ | (with_reducible assumption) | (with_reducible refine Ext.drew ?_) | (with_reducible refine Ext.alloc ?_ _) | (with_reducible refine Ext.drewN ?_ _) | (with_reducible refine Ext.setCell ?_ (by omega) _) | (with_reducible refine Ext.trans ?_ (by with_reducible assumption))))⟩
          · have e : k = l.length := by omega
            subst e
            by_cases hz : l.length = 0
            · have HE := Lib.hid (HGB.out hz)
              go_wp2_with fail
              go_ret
              exact ⟨congrArg (fun x => Ending.returned (.int .i64 x)) HE.out.symm, hx⟩
            · have HE := Lib.hid (HG0'.out (by omega) HI.out)
              go_wp2_with fail
              go_ret
              exact ⟨congrArg (fun x => Ending.returned (.int .i64 x)) HE.out.symm, hx⟩
  · have e : checkS l = 3 := check3 (by omega)
    rw [e]
    clear e hr
    go_enter Tryz.func55, Tryz.ntmps55
    go_wp2_with fail
    go_ret
    exact ⟨rfl, Ext.refl _⟩
end Go.Proofs.YtedblocbcjoolaaGreat

/- Words about memory: worlds in which some blocks are covered; lists that are built by appending. -/
namespace Go.Hs
open Go.RowKit

/-- The world with some blocks covered. -/
def mask (p : Nat → Bool) (w : World) : World := { w with heap := w.heap.mapIdx (fun i o => if p i then .map #[] 0 else o) }
theorem mask_cell (p : Nat → Bool) (w : World) (b o : Nat) : (mask p w).cell? ⟨b, o, none⟩ = if p b then none else w.cell? ⟨b, o, none⟩ := by
  unfold World.cell? mask
  simp only [Array.getElem?_mapIdx]
  cases h : w.heap[b]? with
  | none => simp
  | some x => cases hp : p b <;> simp
theorem mask_kc {p q : Nat → Bool} {w w' : World} (hq : ∀ k, k < w.heap.size → p k = false → q k = false) (h : ∀ k, k < w.heap.size → p k = false → w'.heap[k]? = w.heap[k]?) : KC (mask p w) (mask q w') := by
  intro k o v hc
  rw [mask_cell] at hc ⊢
  cases hp : p k with
  | true => rw [hp] at hc; simp at hc
  | false =>
    rw [hp] at hc
    simp only [Bool.false_eq_true, if_false] at hc
    have hk : k < w.heap.size := lt_of_cell (a := ⟨k, o, none⟩) hc
    rw [hq k hk hp]
    simp only [Bool.false_eq_true, if_false]
    rw [World.cell?_of_block (w := w) (h k hk hp)]; exact hc
theorem mask_kc0 (p : Nat → Bool) (w : World) : KC (mask p w) w := by
  intro k o v hc
  rw [mask_cell] at hc
  split at hc
  · cases hc
  · exact hc
theorem Ext.mask {p q : Nat → Bool} {w w' : World} (h : Ext w w') (hq : ∀ k, k < w.heap.size → p k = false → q k = false) : KC (mask p w) (mask q w') := mask_kc hq (fun _ hk _ => h.heap hk)
/-- The old blocks. -/
def oldB (w : World) : Nat → Bool := fun k => decide (k < w.heap.size)
theorem oldB_lt {w : World} {k : Nat} : oldB w k = false ↔ w.heap.size ≤ k := by simp [oldB]

theorem grown_ext {W w w' : World} {o : Option Nat} (h : Ext W w) (hg : w.grownBy w' o) (ho : ∀ g, o = some g → W.heap.size ≤ g) : Ext W w' :=
  ⟨hg.os.trans h.os, hg.tape.trans h.tape, hg.output.trans h.output, Nat.le_trans h.size hg.size, fun i hi => (hg.block i (Nat.lt_of_lt_of_le hi h.size) (fun e => by have := ho i e.symm; omega)).trans (h.block i hi)⟩

/-- What is owned, read out. -/
theorem own_open {w : World} {B e k n : Nat} {v : Value} {us : List Value} (h : w.ownsRow B e k v n us) :
    (v = .slice none 0 0 ∧ n = 0) ∨ ∃ g cap, v = .slice (some ⟨g, 0, none⟩) n cap ∧ B ≤ g ∧ g < w.heap.size ∧ n ≤ cap ∧ ∀ j u, us[j]? = some u → w.cell? ⟨g, j, none⟩ = some u := by
  have hc := fun g => h.cells (g := g)
  rcases h.2 with h0 | ⟨g, cap, cur, rfl, hb, hg, hn, -, -, -⟩
  · exact .inl h0
  · refine .inr ⟨g, cap, rfl, hb, (Array.getElem?_eq_some_iff.1 hg).1, hn, fun j u hu => ?_⟩
    have := hc g rfl j u hu
    have e : (⟨g, 0, none⟩ : Addr).add j = ⟨g, j, none⟩ := by
      unfold Addr.add
      split
      · rename_i h; subst h; rfl
      · simp
    rw [e] at this
    exact this
theorem own_lt {w : World} {B e k n : Nat} {v : Value} {us : List Value} (h : w.ownsRow B e k v n us) {g : Nat} (hg : v.ownBlock = some g) : B ≤ g ∧ g < w.heap.size := by
  rcases own_open h with ⟨rfl, -⟩ | ⟨g', cap, rfl, hb, hl, -, -⟩
  · simp [Value.ownBlock] at hg
  · simp [Value.ownBlock] at hg
    subst hg; exact ⟨hb, hl⟩
theorem own_keep {w w' : World} {B e k n : Nat} {v : Value} {us : List Value} (h : w.ownsRow B e k v n us) (hk : ∀ g, v.ownBlock = some g → w'.heap[g]? = w.heap[g]?) : w'.ownsRow B e k v n us := by
  refine ⟨h.1, ?_⟩
  rcases h.2 with h0 | ⟨g, cap, cur, rfl, hb, hg, rest⟩
  · exact .inl h0
  · exact .inr ⟨g, cap, cur, rfl, hb, by rw [hk g rfl]; exact hg, rest⟩

/-- What the elements of a list that is being built must not lie in: some blocks, and the list's own row. -/
def cov (p : Nat → Bool) (v : Value) : Nat → Bool := fun k => p k || (v.ownBlock == some k)
theorem cov_no {p : Nat → Bool} {v : Value} {k : Nat} : cov p v k = false ↔ p k = false ∧ v.ownBlock ≠ some k := by
  unfold cov
  simp

/-- A list that is being built, one cell an element. -/
def Build1 {α : Type} (S : World → Value → α → Prop) (p : Nat → Bool) (B e : Nat) (w : World) (v : Value) (xs : List α) : Prop :=
  ∃ us : List Value, us.length = xs.length ∧ w.ownsRow B e 1 v xs.length us ∧ (∀ k, v.ownBlock = some k → p k = false) ∧ ∀ i (h1 : i < us.length) (h2 : i < xs.length), S (mask (cov p v) w) us[i] xs[i]

section
variable {α : Type} {S : World → Value → α → Prop} (hS : ∀ {w w' : World} {v : Value} {x : α}, KC w w' → S w v x → S w' v x) {p : Nat → Bool} {B e : Nat}
theorem Build1.nil (w : World) : Build1 S p B e w (.slice none 0 0) [] := ⟨[], rfl, World.ownsRow_nil _ _ _ _, fun _ h => by simp [Value.ownBlock] at h, fun i h => absurd h (Nat.not_lt_zero _)⟩
include hS in
theorem Build1.keep {w w' : World} {v : Value} {xs : List α} (h : Build1 S p B e w v xs) (hk : ∀ k, k < w.heap.size → p k = false → w'.heap[k]? = w.heap[k]?) : Build1 S p B e w' v xs := by
  obtain ⟨us, hl, ho, hp, hs⟩ := h
  refine ⟨us, hl, own_keep ho (fun g hg => hk g (own_lt ho hg).2 (hp g hg)), hp, fun i h1 h2 => hS (mask_kc (fun _ _ h => h) (fun k hk' hc => hk k hk' (cov_no.1 hc).1)) (hs i h1 h2)⟩
include hS in
theorem Build1.next {w w' : World} {v v' u : Value} {xs : List α} {y : α} {us : List Value} (hl : us.length = xs.length) (hp : ∀ k, v.ownBlock = some k → p k = false)
    (hs : ∀ i (h1 : i < us.length) (h2 : i < xs.length), S (mask (cov p v) w) us[i] xs[i]) (hu : S (mask (cov p v) w) u y) (ho : w'.ownsRow B e 1 v' (xs.length + 1) (us ++ [u])) (hg : w.grownBy w' v.ownBlock)
    (hat : v'.ownBlock = v.ownBlock ∨ v'.ownBlock = some w.heap.size) (hpw : p w.heap.size = false) : Build1 S p B e w' v' (xs ++ [y]) := by
  have hkc : KC (mask (cov p v) w) (mask (cov p v') w') := by
    refine mask_kc (fun k hk hc => ?_) (fun k hk hc => hg.block k hk (fun e => (cov_no.1 hc).2 e.symm))
    obtain ⟨h1, h2⟩ := cov_no.1 hc
    refine cov_no.2 ⟨h1, ?_⟩
    rcases hat with h | h
    · rw [h]; exact h2
    · rw [h]; intro e; cases e; omega
  refine ⟨us ++ [u], by simp [hl], by simpa using ho, fun k hk => ?_, fun i h1 h2 => ?_⟩
  · rcases hat with h | h
    · exact hp k (h ▸ hk)
    · rw [h] at hk; cases hk; exact hpw
  · by_cases hi : i < us.length
    · rw [List.getElem_append_left hi, List.getElem_append_left (by omega)]
      exact hS hkc (hs i hi (by omega))
    · have e1 : i = us.length := by simp at h1; omega
      subst e1
      have e2 : (us ++ [u])[us.length] = u := by simp
      have e3 : (xs ++ [y])[us.length] = y := by simp [hl]
      rw [e2, e3]
      exact hS hkc hu
include hS in
theorem Build1.slice {w : World} {v : Value} {xs : List α} (h : Build1 S p B e w v xs) (hlen : xs.length ≤ 1000) : SliceV (fun w b o x => ∃ v, w.cell? ⟨b, o, none⟩ = some v ∧ S w v x) 1 (mask p w) v xs := by
  obtain ⟨us, hl, ho, hp, hs⟩ := h
  rcases own_open ho with ⟨rfl, h0⟩ | ⟨g, cap, rfl, -, hg, hn, hc⟩
  · have e : xs = [] := List.eq_nil_of_length_eq_zero h0
    subst e
    exact ⟨none, 0, rfl, Nat.le_refl _, by simp, fun i h => absurd h (Nat.not_lt_zero _)⟩
  · refine ⟨_, cap, rfl, hn, by omega, fun i hi => ⟨g, 0, rfl, us[i]'(by omega), ?_, ?_⟩⟩
    · rw [mask_cell, hp g rfl]
      simp only [Bool.false_eq_true, if_false]
      have := hc i (us[i]'(by omega)) (by simp)
      simpa using this
    · exact hS (mask_kc (fun k _ hc => (cov_no.1 hc).1) (fun _ _ _ => rfl)) (hs i (by omega) hi)
end
end Go.Hs
namespace Go.Proofs.YtedblocbcjoolaaGreat
open Go.RowKit Go.Hs
attribute [local irreducible] World.setCell World.alloc

theorem add_none' (b o n : Nat) : (⟨b, o, none⟩ : Addr).add n = ⟨b, o + n, none⟩ := by
  unfold Addr.add
  split
  · rename_i h; subst h; rfl
  · rfl

theorem run_append_none {P : Program} (w : World) (t ty e : TypeId) (i : TypeInfo) (ht : P.underlying t = some (.slice e)) (hi : P.info? e = some i) (base b : Option Addr) (sLen sCap c : Nat) (hle : sLen ≤ sCap) :
    (Builtin.append_ #[t, t] ty #[.slice base sLen sCap, .slice b 0 c]).run P w = .ok (.slice base sLen sCap) w := by
  cases base <;> cases b <;> simp [Builtin.append_, run_underlying ht, sizeOf, typeInfo, hi, Builtin.lenOf, hle, Builtin.firstCells, loadCells, loadCellsFrom, storeCells]

theorem wpList_append_none {P : Program} {w : World} {ops : Array Oper} {rest : List Oper} {o : Oper} {a : Act} {Q : Exit → Act → World → Prop} (hgd : o.guard = none) (s x : Operand) (t : TypeId)
    (ho : o.op = .call { callee := .builtin .append, args := #[s, x], argTypes := #[t, t] }) (e : TypeId) (i : TypeInfo) (ht : P.underlying t = some (.slice e)) (hi : P.info? e = some i)
    (base b : Option Addr) (sLen sCap c : Nat) (hle : sLen ≤ sCap) (hs : a.eval s = .slice base sLen sCap) (hx : a.eval x = .slice b 0 c)
    (h : wpList P ops Q rest (a.put o.dst (.slice base sLen sCap)) w) : wpList P ops Q (o :: rest) a w :=
  wpList_plain hgd fun _ hK => by
    have hr := run_append_none (P := P) w t o.type e i ht hi base b sLen sCap c hle
    unfold Oper.wp execOp
    simp only [ho, resolve, invoke, builtin, Sem.run_bind, Sem.run_pure, Result.andThen_ok, List.map_toArray, List.map_cons, List.map_nil, hs, hx, hr]
    exact hK _ _ h

theorem info_int : (Tryz.prog.info? 3).map (fun i => (i.zero, i.size, i.bytes)) = some (some (.int .i64 0), 1, 8) := by kernel_rfl

set_option maxRecDepth 100000 in
theorem list_any (v : Value) (xs : List Int) (w : World) (hv : IntsV w v xs) (hl : xs.length ≤ 7) :
    Calls Tryz.prog 53 #[v] w fun e w' => ∃ a c, e = .returned (.slice a xs.length c) ∧ IntsV (mask (oldB w) w') (.slice a xs.length c) xs ∧ Ext w w' := by
  obtain ⟨a, c, rfl, h1, h2, hr⟩ := hv
  obtain ⟨i0, hi, hz0, hz1, hz2⟩ := info_parts info_int
  by_cases h0 : xs = []
  · subst h0
    go_enter Tryz.func53, Tryz.ntmps53
    go_wp2_with (at_builtin; refine wpList_append_none rfl _ _ 40 rfl 3 i0 Tryz.underlying40 hi _ _ _ _ _ (Nat.le_refl _) rfl rfl ?_)
    go_ret
    exact ⟨_, _, rfl, ⟨_, _, rfl, by simp, by simp, fun i hi => absurd hi (by simp)⟩, by (repeat (first | exact Ext.refl _ | (with_reducible assumption) | (with_reducible refine Ext.drew ?_) | (with_reducible refine Ext.alloc ?_ _) | (with_reducible refine Ext.drewN ?_ _) | (with_reducible refine Ext.setCell ?_ (by omega) _) | (with_reducible refine Ext.trans ?_ (by with_reducible assumption))))⟩
  · have hpos : 0 < xs.length := List.length_pos_iff.2 h0
    obtain ⟨b, off, rfl, hc⟩ := hr 0 hpos
    have HR := Lib.hid hr
    have H0 := Lib.hid h0
    clear hr h0 hc
    go_enter Tryz.func53, Tryz.ntmps53
    go_wp2_with (at_builtin; refine wpList_append_own_at _ rfl _ _ 40 rfl w.heap.size 3 i0 (.int .i64 0) 1 8 Tryz.underlying40 hi hz0 hz1 hz2 rfl (by decide) (.slice (some ⟨w.heap.size, 0, none⟩) 0 0) 0 [] rfl ?own ⟨b, off, none⟩ xs.length c (xs.map (.int .i64)) rfl ?len ?cells ?one ?fit1 ?fit2 ?fit3 ?next)
    case own => exact ⟨rfl, .inr ⟨_, _, _, rfl, Nat.le_refl _, heap_alloc_new _ _, Nat.le_refl _, by simp, rfl, rfl⟩⟩
    case len => simp
    case cells =>
      intro j u hj
      have hj' : j < xs.length := by
        rcases Nat.lt_or_ge j xs.length with h | h
        · exact h
        · rw [List.getElem?_eq_none (by simpa using h)] at hj; cases hj
      have := (Rows.at HR.out j hj').1
      rw [add_none']
      simp [hj'] at hj
      rw [← hj]
      exact ((Ext.refl w).alloc _).keep (by simpa using this)
    case one =>
      intro u hu
      obtain ⟨x, -, rfl⟩ := List.mem_map.1 hu
      rfl
    case fit1 => simp only [maxLen]; omega
    case fit2 => omega
    case fit3 => simp
    case next =>
      intro v' w' hown hgrow hnil hat
      have hv' := own_open hown
      have hx : Ext w w' := grown_ext ((Ext.refl w).alloc _) hgrow (fun g hg => by simp [Value.ownBlock] at hg; omega)
      rcases hv' with ⟨-, h0⟩ | ⟨g, cap, rfl, hB, hlt, hcap, hcells⟩
      · omega
      · clear hnil hat hown hgrow
        go_wp2_with fail
        go_ret
        refine ⟨_, _, rfl, ⟨_, _, rfl, hcap, h2, fun i hi => ⟨g, 0, rfl, ?_, (Rows.at HR.out i hi).2⟩⟩, hx⟩
        rw [mask_cell, oldB_lt.2 hB]
        have := hcells i (.int .i64 xs[i]) (by simp [hi])
        simpa using this
end Go.Proofs.YtedblocbcjoolaaGreat

/- The tariffs copied: what 'Tariffs' returns. -/
namespace Go.Hs
open Go.RowKit
abbrev V6.cs (u : V6) : List Value := [u.c0, u.c1, u.c2, u.c3, u.c4, u.c5]
theorem flat_get (us : List V6) (i : Nat) (h : i < us.length) : (us.flatMap V6.cs)[i * 6]? = some us[i].c0 ∧ (us.flatMap V6.cs)[i * 6 + 1]? = some us[i].c1 ∧ (us.flatMap V6.cs)[i * 6 + 2]? = some us[i].c2 ∧
    (us.flatMap V6.cs)[i * 6 + 3]? = some us[i].c3 ∧ (us.flatMap V6.cs)[i * 6 + 4]? = some us[i].c4 ∧ (us.flatMap V6.cs)[i * 6 + 5]? = some us[i].c5 := by
  induction us generalizing i with
  | nil => simp at h
  | cons u r ih =>
    cases i with
    | zero => simp
    | succ i =>
      have := ih i (by simpa using h)
      have e0 : (i + 1) * 6 = i * 6 + 6 := by omega
      simp only [e0, List.flatMap_cons, List.cons_append, List.nil_append, List.getElem?_cons_succ, List.getElem_cons_succ]
      exact this
theorem cell_six_new (w : World) (u : V6) (t : TypeId) : ∀ j x, u.cs[j]? = some x → (w.alloc (.cells #[u.c0, u.c1, u.c2, u.c3, u.c4, u.c5] t)).cell? ((⟨w.heap.size, 0, none⟩ : Addr).add j) = some x := by
  intro j x hj
  rcases j with _ | _ | _ | _ | _ | _ | j
  all_goals first
    | (simp at hj; subst hj; simp [Addr.add])
    | (simp at hj)

/-- A list that is being built, six cells an element. -/
def Build6 {α : Type} (S : World → V6 → α → Prop) (p : Nat → Bool) (B e : Nat) (w : World) (v : Value) (xs : List α) : Prop :=
  ∃ us : List V6, us.length = xs.length ∧ w.ownsRow B e 6 v xs.length (us.flatMap V6.cs) ∧ (∀ k, v.ownBlock = some k → p k = false) ∧ ∀ i (h1 : i < us.length) (h2 : i < xs.length), S (mask (cov p v) w) us[i] xs[i]
section
variable {α : Type} {S : World → V6 → α → Prop} (hS : ∀ {w w' : World} {v : V6} {x : α}, KC w w' → S w v x → S w' v x) {p : Nat → Bool} {B e : Nat}
theorem Build6.nil (w : World) : Build6 S p B e w (.slice none 0 0) [] := ⟨[], rfl, World.ownsRow_nil _ _ _ _, fun _ h => by simp [Value.ownBlock] at h, fun i h => absurd h (Nat.not_lt_zero _)⟩
include hS in
theorem Build6.keep {w w' : World} {v : Value} {xs : List α} (h : Build6 S p B e w v xs) (hk : ∀ k, k < w.heap.size → p k = false → w'.heap[k]? = w.heap[k]?) : Build6 S p B e w' v xs := by
  obtain ⟨us, hl, ho, hp, hs⟩ := h
  refine ⟨us, hl, own_keep ho (fun g hg => hk g (own_lt ho hg).2 (hp g hg)), hp, fun i h1 h2 => hS (mask_kc (fun _ _ h => h) (fun k hk' hc => hk k hk' (cov_no.1 hc).1)) (hs i h1 h2)⟩
include hS in
theorem Build6.next {w w' : World} {v v' : Value} {u : V6} {xs : List α} {y : α} {us : List V6} (hl : us.length = xs.length) (hp : ∀ k, v.ownBlock = some k → p k = false)
    (hs : ∀ i (h1 : i < us.length) (h2 : i < xs.length), S (mask (cov p v) w) us[i] xs[i]) (hu : S (mask (cov p v) w) u y) (ho : w'.ownsRow B e 6 v' (xs.length + 1) (us.flatMap V6.cs ++ u.cs)) (hg : w.grownBy w' v.ownBlock)
    (hat : v'.ownBlock = v.ownBlock ∨ v'.ownBlock = some w.heap.size) (hpw : p w.heap.size = false) : Build6 S p B e w' v' (xs ++ [y]) := by
  have hkc : KC (mask (cov p v) w) (mask (cov p v') w') := by
    refine mask_kc (fun k hk hc => ?_) (fun k hk hc => hg.block k hk (fun e => (cov_no.1 hc).2 e.symm))
    obtain ⟨h1, h2⟩ := cov_no.1 hc
    refine cov_no.2 ⟨h1, ?_⟩
    rcases hat with h | h
    · rw [h]; exact h2
    · rw [h]; intro e; cases e; omega
  refine ⟨us ++ [u], by simp [hl], ?_, fun k hk => ?_, fun i h1 h2 => ?_⟩
  · have e : (us ++ [u]).flatMap V6.cs = us.flatMap V6.cs ++ u.cs := by simp
    rw [e]; simpa using ho
  · rcases hat with h | h
    · exact hp k (h ▸ hk)
    · rw [h] at hk; cases hk; exact hpw
  · by_cases hi : i < us.length
    · rw [List.getElem_append_left hi, List.getElem_append_left (by omega)]
      exact hS hkc (hs i hi (by omega))
    · have e1 : i = us.length := by simp at h1; omega
      subst e1
      have e2 : (us ++ [u])[us.length] = u := by simp
      have e3 : (xs ++ [y])[us.length] = y := by simp [hl]
      rw [e2, e3]
      exact hS hkc hu
theorem TarU.kc {w w' : World} {u : V6} {t : Tar} (h : KC w w') (k : TarU w u t) : TarU w' u t := ⟨k.1, k.2.1, k.2.2.1, k.2.2.2.kc h⟩
theorem Build6.tars {w : World} {v : Value} {xs : List Tar} (h : Build6 TarU p B e w v xs) (hlen : xs.length ≤ 1000) : TarsV (mask p w) v xs := by
  obtain ⟨us, hl, ho, hp, hs⟩ := h
  rcases own_open ho with ⟨rfl, h0⟩ | ⟨g, cap, rfl, -, hg, hn, hc⟩
  · have e : xs = [] := List.eq_nil_of_length_eq_zero h0
    subst e
    exact ⟨none, 0, rfl, Nat.le_refl _, by simp, fun i h => absurd h (Nat.not_lt_zero _)⟩
  · refine ⟨_, cap, rfl, hn, by omega, fun i hi => ⟨g, 0, rfl, ?_⟩⟩
    have hi' : i < us.length := by omega
    obtain ⟨g0, g1, g2, g3, g4, g5⟩ := flat_get us i hi'
    obtain ⟨t0, t1, t2, t3⟩ := TarU.kc (mask_kc (q := p) (w' := w) (fun k _ hc => (cov_no.1 hc).1) (fun _ _ _ => rfl)) (hs i hi' hi)
    have hm : ∀ o x, w.cell? ⟨g, o, none⟩ = some x → (mask p w).cell? ⟨g, o, none⟩ = some x := fun o x hx => by rw [mask_cell, hp g rfl]; exact hx
    rw [t0] at g0
    rw [t1] at g1
    rw [t2] at g2
    simp only [Nat.zero_add]
    exact ⟨_, _, _, hm _ _ (hc _ _ g0), hm _ _ (hc _ _ g1), hm _ _ (hc _ _ g2), hm _ _ (hc _ _ g3), hm _ _ (hc _ _ g4), hm _ _ (hc _ _ g5), t3⟩
end
end Go.Hs
namespace Go.Proofs.YtedblocbcjoolaaGreat
open Go.RowKit Go.Hs
attribute [local irreducible] World.setCell World.alloc

theorem info_ints : (Tryz.prog.info? 40).map (fun i => (i.zero, i.size, i.bytes)) = some (some (.slice none 0 0), 1, 24) := by kernel_rfl
theorem info_ints2 : (Tryz.prog.info? 88).map (fun i => (i.zero, i.size, i.bytes)) = some (some (.slice none 0 0), 1, 24) := by kernel_rfl
theorem info_tar : (Tryz.prog.info? 100).map (fun i => (i.zero, i.size, i.bytes)) = some (some (.agg #[.int .i64 0, .bool false, .int .i64 0, .slice none 0 0, .slice none 0 0, .slice none 0 0]), 6, 96) := by kernel_rfl

/-- The blocks that lay before a round, and the box of its tariff. -/
def pit (w : World) (T : Nat) : Nat → Bool := fun k => decide (k < w.heap.size) || (T == k)
theorem pit_no {w : World} {T k : Nat} : pit w T k = false ↔ w.heap.size ≤ k ∧ T ≠ k := by simp [pit]

/-- A tariff that is being copied: its box, without its rates. -/
structure Box (W : World) (T : Nat) (c3 c4 : Value) (t : Tar) (w : World) : Prop where
  t0 : w.cell? ⟨T, 0, none⟩ = some (.int .i64 t.start)
  t1 : w.cell? ⟨T, 1, none⟩ = some (.bool t.whole)
  t2 : w.cell? ⟨T, 2, none⟩ = some (.int .i64 t.least)
  t3 : w.cell? ⟨T, 3, none⟩ = some c3
  t4 : w.cell? ⟨T, 4, none⟩ = some c4
  frozen : ∀ o, w.frozen? ⟨T, o, none⟩ = false
  weeks : IntsV (mask (pit W T) w) c3 t.weeks
  counts : IntsV (mask (pit W T) w) c4 t.counts
  ge : W.heap.size ≤ T
  ext : Ext W w

theorem fresh_pit {W Wa wa w3 : World} {T : Nat} {x : Value} {xs : List Int} (h : IntsV (mask (oldB Wa) wa) x xs) (hW : W.heap.size ≤ Wa.heap.size) (hT : T < Wa.heap.size ∨ wa.heap.size ≤ T) (hx : Ext wa w3) : IntsV (mask (pit W T) w3) x xs :=
  h.kc (hx.mask (fun k hk hc => by rw [oldB_lt] at hc; rw [pit_no]; omega))

/-- The box with its empty rates. -/
def Boxed (W : World) (T : Nat) (t : Tar) (w : World) : Prop := ∃ x3 x4, Box W T x3 x4 t w ∧ w.cell? ⟨T, 5, none⟩ = some (.slice none 0 0) ∧ T < w.heap.size

theorem boxed_set {W w3 : World} {T : Nat} {t : Tar} {x3 x4 : Value} {z : V6} (hz : Cell6 w3 T 0 z) (hf : ∀ o, w3.frozen? ⟨T, o, none⟩ = false) (hx : Ext W w3) (hT : W.heap.size ≤ T)
    (i3 : IntsV (mask (pit W T) w3) x3 t.weeks) (i4 : IntsV (mask (pit W T) w3) x4 t.counts) : Boxed W T t (World.set6 w3 T ⟨.int .i64 t.start, .bool t.whole, .int .i64 t.least, x3, x4, .slice none 0 0⟩) := by
  have hlt : T < w3.heap.size := lt_of_cell hz.1
  obtain ⟨c0, c1, c2, c3, c4, c5⟩ := set6_cell (u := ⟨.int .i64 t.start, .bool t.whole, .int .i64 t.least, x3, x4, .slice none 0 0⟩) hz
  simp only [Nat.zero_add] at c0 c1 c2 c3 c4 c5
  have hk : KC (mask (pit W T) w3) (mask (pit W T) (World.set6 w3 T ⟨.int .i64 t.start, .bool t.whole, .int .i64 t.least, x3, x4, .slice none 0 0⟩)) :=
    mask_kc (fun _ _ h => h) (fun k _ hc => set6_block _ _ _ _ (fun e => (pit_no.1 hc).2 e.symm))
  exact ⟨x3, x4, ⟨c0, c1, c2, c3, c4, fun o => by rw [set6_frozen]; exact hf o, i3.kc hk, i4.kc hk, hT, hx.set6 hT _⟩, c5, lt_of_cell c0⟩

theorem boxed_new {W w3 : World} {t : Tar} {x3 x4 : Value} (T : TypeId) (hx : Ext W w3)
    (i3 : IntsV (mask (pit W w3.heap.size) w3) x3 t.weeks) (i4 : IntsV (mask (pit W w3.heap.size) w3) x4 t.counts) : Boxed W w3.heap.size t (w3.alloc (.cells #[.int .i64 t.start, .bool t.whole, .int .i64 t.least, x3, x4, .slice none 0 0] T)) := by
  have hk : KC (mask (pit W w3.heap.size) w3) (mask (pit W w3.heap.size) (w3.alloc (.cells #[.int .i64 t.start, .bool t.whole, .int .i64 t.least, x3, x4, .slice none 0 0] T))) := ((Ext.refl w3).alloc _).mask (fun _ _ h => h)
  exact ⟨x3, x4, ⟨by simp, by simp, by simp, by simp, by simp, fun o => by simp, i3.kc hk, i4.kc hk, hx.size, hx.alloc _⟩, by simp, by simp⟩

/-- The six cells of the box. -/
abbrev boxV (t : Tar) (x3 x4 v2 : Value) : V6 := ⟨.int .i64 t.start, .bool t.whole, .int .i64 t.least, x3, x4, v2⟩
structure RatesI (wr wc : World) (T e : Nat) (t : Tar) (x3 x4 v2 : Value) (c : Nat) (w : World) : Prop where
  cells : Cell6 w T 0 (boxV t x3 x4 v2)
  frozen : ∀ o, w.frozen? ⟨T, o, none⟩ = false
  build : Build1 Ints2V (pit wr T) wc.heap.size e w v2 (t.rates.take c)
  but : ExtBut T wc w

theorem RatesI.start {wr wc : World} {T e : Nat} {t : Tar} {x3 x4 : Value} (h : Box wr T x3 x4 t wc) (h5 : wc.cell? ⟨T, 5, none⟩ = some (.slice none 0 0)) : RatesI wr wc T e t x3 x4 (.slice none 0 0) 0 wc :=
  ⟨by refine ⟨?_, ?_, ?_, ?_, ?_, ?_⟩ <;> simp only [Nat.zero_add] <;> first | exact h.t0 | exact h.t1 | exact h.t2 | exact h.t3 | exact h.t4 | exact h5, h.frozen, Build1.nil _, ExtBut.refl _ _⟩

theorem RatesI.next {wr wc wq wz w3 : World} {T e c : Nat} {t : Tar} {x3 x4 v2 v7 v' : Value} {o : Obj} {us : List Value} (hq : RatesI wr wc T e t x3 x4 v2 c wq) (hc : c < t.rates.length) (hTc : T < wc.heap.size) (hrc : wr.heap.size ≤ wc.heap.size)
    (hl : us.length = (t.rates.take c).length) (hp : ∀ k, v2.ownBlock = some k → pit wr T k = false) (hB : ∀ k, v2.ownBlock = some k → wc.heap.size ≤ k ∧ k < wq.heap.size)
    (hs : ∀ i (h1 : i < us.length) (h2 : i < (t.rates.take c).length), Ints2V (mask (cov (pit wr T) v2) wq) us[i] (t.rates.take c)[i]) (hz : Ext wq wz)
    (h7 : Ints2V (mask (oldB wq) wz) v7 (t.rates.getD c [])) (hown : w3.ownsRow wc.heap.size e 1 v' ((t.rates.take c).length + 1) (us ++ [v7])) (hg : (wz.alloc o).grownBy w3 v2.ownBlock)
    (hat : v'.ownBlock = v2.ownBlock ∨ v'.ownBlock = some (wz.alloc o).heap.size) : RatesI wr wc T e t x3 x4 v' (c + 1) (w3.setCell ⟨T, 5, none⟩ v') := by
  have hx : Ext wq (wz.alloc o) := hz.alloc o
  have hq1 : wq.heap.size ≤ wz.heap.size := hz.size
  have hq2 : wc.heap.size ≤ wq.heap.size := hq.but.size
  have hal : (wz.alloc o).heap.size = wz.heap.size + 1 := by simp
  have hsub : KC (mask (oldB wq) wz) (mask (cov (pit wr T) v2) (wz.alloc o)) := ((Ext.refl wz).alloc o).mask (fun k hk hc => by
    rw [oldB_lt] at hc
    rw [cov_no, pit_no]
    refine ⟨⟨by omega, by omega⟩, fun e => ?_⟩
    have := (hB k e).2; omega)
  have b1 : Build1 Ints2V (pit wr T) wc.heap.size e w3 v' (t.rates.take c ++ [t.rates.getD c []]) :=
    Build1.next (S := Ints2V) (fun h k => Ints2V.kc h k) (w := wz.alloc o) hl hp (fun i g1 g2 => (hs i g1 g2).kc (hx.mask (fun _ _ h => h))) (h7.kc hsub) hown hg hat (by rw [pit_no]; omega)
  have e1 : t.rates.take c ++ [t.rates.getD c []] = t.rates.take (c + 1) := by
    rw [List.take_succ_eq_append_getElem hc]; simp [hc]
  rw [e1] at b1
  have hTo : some T ≠ v2.ownBlock := fun e => by
    have := hp T e.symm
    rw [pit_no] at this; exact this.2 rfl
  have hTk : ∀ o' v, wq.cell? ⟨T, o', none⟩ = some v → w3.cell? ⟨T, o', none⟩ = some v := fun o' v h => hg.cell (hx.keep h) hTo
  obtain ⟨c0, c1, c2, c3, c4, c5⟩ := hq.cells
  simp only [Nat.zero_add] at c0 c1 c2 c3 c4 c5
  have n : ∀ i j : Nat, i ≠ j → (⟨T, i, none⟩ : Addr) ≠ ⟨T, j, none⟩ := fun i j hij e => hij (by cases e; rfl)
  have hb : ∀ k, k ≠ T → (w3.setCell ⟨T, 5, none⟩ v').heap[k]? = w3.heap[k]? := fun k hk => Below.heap_setCell _ _ _ _ hk
  have hTq : T < wq.heap.size := by omega
  refine ⟨?_, fun o' => ?_, ?_, ?_⟩
  · refine ⟨?_, ?_, ?_, ?_, ?_, ?_⟩
    all_goals simp only [Nat.zero_add]
    · rw [World.cell?_setCell_other (h := n _ _ (by decide))]; exact hTk _ _ c0
    · rw [World.cell?_setCell_other (h := n _ _ (by decide))]; exact hTk _ _ c1
    · rw [World.cell?_setCell_other (h := n _ _ (by decide))]; exact hTk _ _ c2
    · rw [World.cell?_setCell_other (h := n _ _ (by decide))]; exact hTk _ _ c3
    · rw [World.cell?_setCell_other (h := n _ _ (by decide))]; exact hTk _ _ c4
    · rw [World.cell?_setCell_same (h := hTk _ _ c5)]
  · rw [World.frozen?_setCell, World.frozen?_of_block (w := wz.alloc o) (hg.block T (by simp; omega) hTo), hx.frozen hTq]
    exact hq.frozen o'
  · exact Build1.keep (S := Ints2V) (fun h k => Ints2V.kc h k) b1 (fun k _ hp => hb k (fun e => (pit_no.1 hp).2 e.symm))
  · have E : Below 0 w3 (w3.setCell ⟨T, 5, none⟩ v') := Below.setCell (Below.refl 0 w3) (Nat.zero_le _) v'
    refine ⟨E.os.trans (hg.os.trans (hx.os.trans hq.but.os)), E.tape.trans (hg.tape.trans (hx.tape.trans hq.but.tape)), E.output.trans (hg.output.trans (hx.output.trans hq.but.output)), Nat.le_trans hq2 (Nat.le_trans hx.size (Nat.le_trans hg.size E.size)), ?_⟩
    intro k hk hkT
    rw [hb k hkT]
    have ho : some k ≠ v2.ownBlock := fun e => by
      have := (hB k e.symm).1; omega
    exact (hg.block k (by omega) ho).trans ((hx.heap (by omega)).trans (hq.but.block k hk hkT))

set_option maxRecDepth 100000 in
set_option maxHeartbeats 2000000 in
theorem Tariffs_new (v : Value) (l : List Tar) (w : World) (hv : TarsV w v l) (ht : thinB l = true) :
    Calls Tryz.prog 27 #[v] w fun e w' => ∃ v', e = .returned v' ∧ TarsV (mask (oldB w) w') v' l ∧ Ext w w' := by
  obtain ⟨a, c, rfl, h1, h2, hr⟩ := hv
  obtain ⟨i1, hi1, hz10, hz11, hz12⟩ := info_parts info_ints
  obtain ⟨i2, hi2, hz20, hz21, hz22⟩ := info_parts info_ints2
  obtain ⟨i3, hi3, hz30, hz31, hz32⟩ := info_parts info_tar
  have HR := Lib.hid hr
  clear hr
  have HT : Hid (l.length ≤ 5 ∧ ∀ i, i < l.length → thinT (l.getD i default) = true) := by
    refine Lib.hid ?_
    simpa only [thinB, Bool.and_eq_true, decide_eq_true_eq, allB_iff] using ht
  clear ht
  go_enter Tryz.func27, Tryz.ntmps27
  go_wp2_with fail
  go_loopw [3, 4, 5, 6, 7, 8] (fun s3 s4 _ _ _ _ wr => ∃ k : Nat, k ≤ l.length ∧ s4 = .int .i64 k ∧ Hid (Build6 TarU (oldB w) w.heap.size 100 wr s3 (l.take k)) ∧ Ext w wr) (fun _ i _ _ _ _ _ => l.length - (intOf i).toNat)
  case atStart => exact ⟨0, Nat.zero_le _, rfl, Build6.nil _, Ext.refl _⟩
  case round =>
    obtain ⟨k, hk, rfl, HB, hx⟩ := hrel
    obtain ⟨wo, rfl⟩ : ∃ x, x = wr := ⟨_, rfl⟩
    by_cases hlt : k < l.length
    · obtain ⟨b, off, rfl, hta⟩ := HR.out k hlt
      have htt := HT.out.2 k hlt
      have e1 : l.getD k default = l[k] := by simp [hlt]
      rw [e1] at htt
      clear e1
      generalize het : l[k] = t at *
      have HE := Lib.hid het
      clear het
      have htar := TarAt.open (hta.ext hx)
      obtain ⟨a3, k3, a4, k4, a5, k5, m0, m1, m2, m3, m4, m5, mc⟩ := htar
      clear hta
      have hth : t.weeks.length ≤ 7 ∧ t.counts.length ≤ 7 ∧ t.rates.length ≤ 5 ∧ ∀ c, c < t.rates.length → thinC (t.rates.getD c []) = true := by
        simp only [thinT, Bool.and_eq_true, decide_eq_true_eq, allB_iff] at htt
        exact ⟨htt.1.1.1, htt.1.1.2, htt.1.2, htt.2⟩
      clear htt
      have HW : Hid (∀ W', Ext wo W' → Calls Tryz.prog 53 #[.slice a3 t.weeks.length k3] W' fun e w' => ∃ a c, e = .returned (.slice a t.weeks.length c) ∧ IntsV (mask (oldB W') w') (.slice a t.weeks.length c) t.weeks ∧ Ext W' w') :=
        fun W' hx => list_any _ _ W' (mc.weeks.ext hx) hth.1
      have HC : Hid (∀ W', Ext wo W' → Calls Tryz.prog 53 #[.slice a4 t.counts.length k4] W' fun e w' => ∃ a c, e = .returned (.slice a t.counts.length c) ∧ IntsV (mask (oldB W') w') (.slice a t.counts.length c) t.counts ∧ Ext W' w') :=
        fun W' hx => list_any _ _ W' (mc.counts.ext hx) hth.2.1
      have HTH := Lib.hid hth.2.2
      have HRT := Lib.hid mc.rates
      have HFL := Lib.hid (And.intro mc.f mc.l)
      clear hth mc
      generalize t.weeks.length = nw at *
      generalize t.counts.length = nc at *
      go_wp2_with fail
      go_upto_region 5 with fail
      go_cut [5] from 9 to 90 (fun s5 wx => ∃ T, s5 = .pointer (some ⟨T, 0, none⟩) ∧ Boxed wo T t wx)
      case first =>
        have HS : Hid (∀ w', Ext wo w' → (w'.cell? ⟨b, off + k * 6, none⟩ = some (.int .i64 t.start) ∧ w'.cell? ⟨b, off + k * 6 + 1, none⟩ = some (.bool t.whole) ∧ w'.cell? ⟨b, off + k * 6 + 2, none⟩ = some (.int .i64 t.least) ∧ w'.cell? ⟨b, off + k * 6 + 3, none⟩ = some (.slice a3 nw k3) ∧ w'.cell? ⟨b, off + k * 6 + 4, none⟩ = some (.slice a4 nc k4)) ∧ Ext wo w') :=
          fun w' hx => ⟨⟨hx.keep m0, hx.keep m1, hx.keep m2, hx.keep m3, hx.keep m4⟩, hx⟩
        go_region_held3 (fun w' => (w'.cell? ⟨b, off + k * 6, none⟩ = some (.int .i64 t.start) ∧ w'.cell? ⟨b, off + k * 6 + 1, none⟩ = some (.bool t.whole) ∧ w'.cell? ⟨b, off + k * 6 + 2, none⟩ = some (.int .i64 t.least) ∧ w'.cell? ⟨b, off + k * 6 + 3, none⟩ = some (.slice a3 nw k3) ∧ w'.cell? ⟨b, off + k * 6 + 4, none⟩ = some (.slice a4 nc k4)) ∧ Ext wo w')
          ((refine HS.out _ ?_; (repeat (first | exact Ext.refl _ | (with_reducible assumption) | (with_reducible refine Ext.drew ?_) | (with_reducible refine Ext.alloc ?_ _) | (with_reducible refine Ext.drewN ?_ _) | (with_reducible refine Ext.setCell ?_ (by omega) _) | (with_reducible refine Ext.trans ?_ (by with_reducible assumption))))))
          (first
            | (go_at_call 53; (with_reducible refine (HW.out wo.drew ((Ext.refl wo).drew)).mono ?_); rintro e w2 ⟨x3, q3, rfl, hw2, hx2⟩; have S2 : wo.heap.size ≤ w2.heap.size := hx2.size)
            | (go_at_call 53; (refine (HW.out _ (by (repeat (first | exact Ext.refl _ | (with_reducible assumption) | (with_reducible refine Ext.drew ?_) | (with_reducible refine Ext.alloc ?_ _) | (with_reducible refine Ext.drewN ?_ _) | (with_reducible refine Ext.setCell ?_ (by omega) _) | (with_reducible refine Ext.trans ?_ (by with_reducible assumption)))))).mono ?_); rintro e w2 ⟨x3, q3, rfl, hw2, hx2⟩; have Z : Cell6 w2 (wo.heap.size) 0 ⟨.int .i64 0, .bool false, .int .i64 0, .slice none 0 0, .slice none 0 0, .slice none 0 0⟩ := Cell6.ext hx2 _ _ _ (by simp [Cell6]); have FR : ∀ o, w2.frozen? ⟨wo.heap.size, o, none⟩ = false := fun o => (hx2.frozen (by simp)).trans (by simp); have ZZ := Lib.hid Z; obtain ⟨z0, z1, z2, z3, z4, z5⟩ := Z; simp only [Nat.zero_add] at z0 z1 z2 z3 z4 z5)
            | (go_at_call 53; (refine (HC.out _ (by (repeat (first | exact Ext.refl _ | (with_reducible assumption) | (with_reducible refine Ext.drew ?_) | (with_reducible refine Ext.alloc ?_ _) | (with_reducible refine Ext.drewN ?_ _) | (with_reducible refine Ext.setCell ?_ (by omega) _) | (with_reducible refine Ext.trans ?_ (by with_reducible assumption)))))).mono ?_); rintro e w3 ⟨x4, q4, rfl, hw3, hx3⟩; have Z' := Cell6.ext hx3 _ _ _ ZZ.out; have LT := lt_of_cell ZZ.out.1; have FR' := fun o => (hx3.frozen (o := o) LT).trans (FR o); clear z0 z1 z2 z3 z4 z5; have ZZ' := Lib.hid Z'; obtain ⟨z0, z1, z2, z3, z4, z5⟩ := Z'; simp only [Nat.zero_add] at z0 z1 z2 z3 z4 z5)
            | (go_at_call 53; (refine (HC.out _ (by (repeat (first | exact Ext.refl _ | (with_reducible assumption) | (with_reducible refine Ext.drew ?_) | (with_reducible refine Ext.alloc ?_ _) | (with_reducible refine Ext.drewN ?_ _) | (with_reducible refine Ext.setCell ?_ (by omega) _) | (with_reducible refine Ext.trans ?_ (by with_reducible assumption)))))).mono ?_); rintro e w3 ⟨x4, q4, rfl, hw3, hx3⟩; have Z : Cell6 w3 (w2.heap.size) 0 ⟨.int .i64 0, .bool false, .int .i64 0, .slice none 0 0, .slice none 0 0, .slice none 0 0⟩ := Cell6.ext hx3 _ _ _ (by simp [Cell6]; done); have FR : ∀ o, w3.frozen? ⟨w2.heap.size, o, none⟩ = false := fun o => (hx3.frozen (by simp)).trans (by simp); have ZZ := Lib.hid Z; obtain ⟨z0, z1, z2, z3, z4, z5⟩ := Z; simp only [Nat.zero_add] at z0 z1 z2 z3 z4 z5)
            | (go_at_call 53; (refine (HC.out _ (by (repeat (first | exact Ext.refl _ | (with_reducible assumption) | (with_reducible refine Ext.drew ?_) | (with_reducible refine Ext.alloc ?_ _) | (with_reducible refine Ext.drewN ?_ _) | (with_reducible refine Ext.setCell ?_ (by omega) _) | (with_reducible refine Ext.trans ?_ (by with_reducible assumption)))))).mono ?_); rintro e w3 ⟨x4, q4, rfl, hw3, hx3⟩))
        · have Y : Ext wo w3 := by (repeat (first | exact Ext.refl _ | (with_reducible assumption) | (with_reducible refine Ext.drew ?_) | (with_reducible refine Ext.alloc ?_ _) | (with_reducible refine Ext.drewN ?_ _) | (with_reducible refine Ext.setCell ?_ (by omega) _) | (with_reducible refine Ext.trans ?_ (by with_reducible assumption))))
          have hsz : w2.heap.size ≤ w3.heap.size := hx3.size
          have g : Boxed wo w3.heap.size t (w3.alloc (.cells #[.int .i64 t.start, .bool t.whole, .int .i64 t.least, .slice x3 nw q3, .slice x4 nc q4, .slice none 0 0] 100)) :=
            boxed_new _ Y (fresh_pit hw2 (Nat.le_refl _) (.inr hsz) hx3) (fresh_pit hw3 S2 (.inr (Nat.le_refl _)) (Ext.refl _))
          go_wp2_with fail
          go_meet
          exact ⟨_, rfl, g⟩
        · have Y : Ext wo w3 := by (repeat (first | exact Ext.refl _ | (with_reducible assumption) | (with_reducible refine Ext.drew ?_) | (with_reducible refine Ext.alloc ?_ _) | (with_reducible refine Ext.drewN ?_ _) | (with_reducible refine Ext.setCell ?_ (by omega) _) | (with_reducible refine Ext.trans ?_ (by with_reducible assumption))))
          have g : Boxed wo w2.heap.size t (World.set6 w3 w2.heap.size ⟨.int .i64 t.start, .bool t.whole, .int .i64 t.least, .slice x3 nw q3, .slice x4 nc q4, .slice none 0 0⟩) :=
            boxed_set ZZ.out FR Y S2 (fresh_pit hw2 (Nat.le_refl _) (.inr (Nat.le_refl _)) (((Ext.refl w2).alloc _).trans hx3)) (fresh_pit hw3 (by simp; omega) (.inl (by simp)) (Ext.refl _))
          go_wp2_with fail
          go_meet
          exact ⟨_, rfl, g⟩
        · have Y : Ext wo w3 := by (repeat (first | exact Ext.refl _ | (with_reducible assumption) | (with_reducible refine Ext.drew ?_) | (with_reducible refine Ext.alloc ?_ _) | (with_reducible refine Ext.drewN ?_ _) | (with_reducible refine Ext.setCell ?_ (by omega) _) | (with_reducible refine Ext.trans ?_ (by with_reducible assumption))))
          have g : Boxed wo wo.heap.size t (World.set6 w3 wo.heap.size ⟨.int .i64 t.start, .bool t.whole, .int .i64 t.least, .slice x3 nw q3, .slice x4 nc q4, .slice none 0 0⟩) :=
            boxed_set ZZ'.out FR' Y (Nat.le_refl _) (fresh_pit hw2 (by simp) (.inl (by simp)) hx3) (fresh_pit hw3 (Nat.le_of_lt LT) (.inl LT) (Ext.refl _))
          go_wp2_with fail
          go_meet
          exact ⟨_, rfl, g⟩
      case rest =>
        obtain ⟨T, rfl, x3, x4, hbox, h5, hTl⟩ := hcut
        have HRS : Hid (RatesI wo wc T 88 t x3 x4 (.slice none 0 0) 0 wc) := RatesI.start hbox h5
        have HBX := Lib.hid hbox
        have hge := hbox.ge
        have hxc := hbox.ext
        have hrc : wo.heap.size ≤ wc.heap.size := hxc.size
        clear hbox h5
        go_wp2_with fail
        go_loopw [6, 7, 8] (fun s6 _ _ wq => ∃ (d : Nat) (a2 : Option Addr) (q2 : Nat), d ≤ t.rates.length ∧ s6 = .int .i64 d ∧ Hid (RatesI wo wc T 88 t x3 x4 (.slice a2 d q2) d wq)) (fun i _ _ _ => t.rates.length - (intOf i).toNat)
        case atStart => exact ⟨0, none, 0, Nat.zero_le _, rfl, HRS.out⟩
        case round =>
          obtain ⟨d, a2, q2, hd, rfl, HQ⟩ := hrel
          have hb5 := HTH.out.1
          obtain ⟨wq, rfl⟩ : ∃ x, x = wr := ⟨_, rfl⟩
          have hxq : Ext wo wq := ExtBut.ext hxc hge HQ.out.but
          have m5q := hxq.keep m5
          by_cases hdl : d < t.rates.length
          · obtain ⟨b5, o5, a6, k6, rfl, g5, i6⟩ := Ints3V.get HRT.out d hdl
            have g5q := hxq.keep g5
            have hthc := HTH.out.2 d hdl
            have HCR : Hid (∀ x, Ints2V (mask (oldB wq) x) (.slice none 0 0) (t.rates.getD d []) → True) := fun _ _ => trivial
            generalize hcrop : t.rates.getD d [] = crop at *
            have HCP := Lib.hid hcrop
            clear hcrop HCR g5
            have hth6 : crop.length ≤ 7 ∧ ∀ i, i < crop.length → (crop.getD i []).length ≤ 7 := by
              simpa only [thinC, Bool.and_eq_true, decide_eq_true_eq, allB_iff] using hthc
            clear hthc
            have HTC := Lib.hid hth6
            have hb7 := hth6.1
            clear hth6
            have HI6 := Lib.hid i6
            clear i6
            go_wp2_with fail
            go_loopw [7, 8] (fun s7 s8 wz => ∃ (j : Nat) (a7 : Option Addr) (q7 : Nat), j ≤ crop.length ∧ s8 = .int .i64 j ∧ s7 = .slice a7 j q7 ∧ Hid (Build1 IntsV (oldB wq) wq.heap.size 40 wz (.slice a7 j q7) (crop.take j)) ∧ Ext wq wz) (fun _ i _ => crop.length - (intOf i).toNat)
            case atStart => exact ⟨0, none, 0, Nat.zero_le _, rfl, rfl, Build1.nil _, Ext.refl _⟩
            case round =>
              obtain ⟨j, a7, q7, hj, rfl, rfl, HBZ, hxz⟩ := hrel
              obtain ⟨wz, rfl⟩ : ∃ x, x = wr := ⟨_, rfl⟩
              have m5z := hxz.keep m5q
              have g5z := hxz.keep g5q
              have ej : (crop.take j).length = j := by simp; omega
              by_cases hjl : j < crop.length
              · obtain ⟨b6, o6, a8, k8, rfl, g6, i8⟩ := Ints2V.get HI6.out j hjl
                have g6z := hxz.keep (hxq.keep g6)
                have hls := list_any _ _ wz ((i8.ext hxq).ext hxz) (HTC.out.2 j hjl)
                clear g6 i8
                have HRW := Lib.hid (show crop.getD j [] = crop.getD j [] from rfl)
                generalize hrow : crop.getD j [] = row at *
                have HRO := Lib.hid hrow
                clear hrow HRW
                go_wp2_with fail
                (with_reducible refine hls.mono ?_)
                rintro e w1 ⟨x8, q8, rfl, hw1, hx1⟩
                clear hls
                have e2 : crop.take j ++ [row] = crop.take (j + 1) := by
                  rw [List.take_succ_eq_append_getElem hjl, ← HRO.out]; simp [hjl]
                have E2 := Lib.hid e2
                clear e2
                obtain ⟨us, hul, hown0, hp0, hs0⟩ := HBZ.out
                rw [ej] at hown0
                have HU := Lib.hid (And.intro hul (And.intro hp0 hs0))
                have OWN := Lib.hid hown0
                have hlb := fun g hg => own_lt hown0 (g := g) hg
                have HLB := Lib.hid hlb
                clear hul hp0 hs0 hown0 hlb
                have EJ := Lib.hid ej
                clear ej
                go_wp2_with (at_builtin; refine wpList_append_own_at _ rfl _ _ 88 rfl wq.heap.size 40 i1 (.slice none 0 0) 1 24 Tryz.underlying88 hi1 hz10 hz11 hz12 rfl (by decide) (.slice a7 j q7) j us rfl ?own ⟨w1.heap.size, 0, none⟩ 1 1 [.slice x8 row.length q8] rfl rfl (cell_one_new _ _ _) ?one ?f1 ?f2 ?f3 ?next)
                case own => exact own_keep OWN.out (fun g hg => (hx1.alloc _).heap (HLB.out g hg).2)
                case one => first | rfl | (intro u hu; simp at hu; subst hu; rfl)
                case f1 => have := HTC.out.1; simp only [maxLen]; omega
                case f2 => have := HTC.out.1; omega
                case f3 => have h1 := hxz.size; have h2 := hx1.size; simp; omega
                case next =>
                  intro v' w3 hown hgrow hnil hat
                  obtain ⟨hul, hp0, hs0⟩ := HU.out
                  have hxa : ∀ o, Ext wz (w1.alloc o) := fun o => hx1.alloc o
                  have hlt0 : wq.heap.size ≤ wz.heap.size := hxz.size
                  have hlt1 : wz.heap.size ≤ w1.heap.size := hx1.size
                  have hb : Build1 IntsV (oldB wq) wq.heap.size 40 w3 v' (crop.take j ++ [row]) := by
                    refine Build1.next (S := IntsV) (fun h k => IntsV.kc h k) (us := us) (w := w1.alloc _) hul hp0 (fun i g1 g2 => (hs0 i g1 g2).kc ((hxa _).mask (fun _ _ h => h))) ?_ (by rw [EJ.out]; exact hown) hgrow (hat.imp_right (fun h => h.trans (by simp))) (by rw [oldB_lt]; simp; omega)
                    refine hw1.kc (((Ext.refl w1).alloc _).mask (fun g _ hc => ?_))
                    rw [oldB_lt] at hc
                    rw [cov_no, oldB_lt]
                    exact ⟨by omega, fun e => by have := (HLB.out g e).2; omega⟩
                  rw [E2.out] at hb
                  have hx3 : Ext wq w3 := grown_ext ((hxz.trans hx1).alloc _) hgrow (fun g hg => (HLB.out g hg).1)
                  rcases own_open hown with ⟨-, h0⟩ | ⟨g, cap, rfl, -, -, -, -⟩
                  · omega
                  · have HB3 := Lib.hid hb
                    clear hb hown hgrow hnil hat hul hp0 hs0 hxa
                    go_wp2_with fail
                    go_roundw
                    case rel => exact ⟨j + 1, _, _, by omega, by go_num, rfl, HB3.out, hx3⟩
                    case measure => simp [intOf]; omega
              · have ej' : j = crop.length := by omega
                subst ej'
                rw [List.take_length] at HBZ
                have h7 := Build1.slice (S := IntsV) (fun h k => IntsV.kc h k) HBZ.out (by have := HTC.out.1; omega)
                have H7 : Hid (Ints2V (mask (oldB wq) wz) (.slice a7 crop.length q7) crop) := Lib.hid h7
                clear h7
                obtain ⟨c0, c1, c2, c3, c4, c5⟩ := HQ.out.cells
                simp only [Nat.zero_add] at c5
                have c5z := hxz.keep c5
                have hTq := lt_of_cell c5
                have fTz := (hxz.frozen (o := 5) hTq).trans (HQ.out.frozen 5)
                clear c0 c1 c2 c3 c4 c5
                obtain ⟨us, hul, hown0, hp0, hs0⟩ := HQ.out.build
                have ed : (t.rates.take d).length = d := by simp; omega
                rw [ed] at hown0
                have HU := Lib.hid (And.intro hul (And.intro hp0 hs0))
                have OWN := Lib.hid hown0
                have hlb := fun g hg => own_lt hown0 (g := g) hg
                have HLB := Lib.hid hlb
                clear hul hp0 hs0 hown0 hlb
                have ED := Lib.hid ed
                clear ed
                have hTo : some T ≠ (Value.slice a2 d q2).ownBlock := fun e => (pit_no.1 (HU.out.2.1 T e.symm)).2 rfl
                have HTO := Lib.hid hTo
                clear hTo
                go_wp2_with (at_builtin; refine wpList_append_own_at _ rfl _ _ 85 rfl wc.heap.size 88 i2 (.slice none 0 0) 1 24 Tryz.underlying85 hi2 hz20 hz21 hz22 rfl (by decide) (.slice a2 d q2) d us rfl ?own ⟨wz.heap.size, 0, none⟩ 1 1 [.slice a7 crop.length q7] rfl rfl (cell_one_new _ _ _) ?one ?f1 ?f2 ?f3 ?next)
                case own => exact own_keep OWN.out (fun g hg => (hxz.alloc _).heap (HLB.out g hg).2)
                case one => first | rfl | (intro u hu; simp at hu; subst hu; rfl)
                case f1 => have := HTH.out.1; simp only [maxLen]; omega
                case f2 => have := HTH.out.1; omega
                case f3 => have h1 := hxz.size; have h2 := HQ.out.but.size; simp; omega
                case next =>
                  intro v' w3 hown hgrow hnil hat
                  obtain ⟨hul, hp0, hs0⟩ := HU.out
                  have hN := RatesI.next HQ.out hdl hTl hrc hul hp0 (fun g hg => HLB.out g hg) hs0 hxz (by rw [HCP.out]; exact H7.out) (by rw [ED.out]; exact hown) hgrow (hat.imp_right (fun h => h.trans (by simp)))
                  have c5w : w3.cell? ⟨T, 5, none⟩ = some (.slice a2 d q2) := hgrow.cell (((Ext.refl wz).alloc _).keep c5z) HTO.out
                  have f5w : w3.frozen? ⟨T, 5, none⟩ = false := by
                    rw [World.frozen?_of_block (w := wz.alloc _) (hgrow.block T (by have := lt_of_cell c5z; simp at this ⊢; omega) HTO.out), ((Ext.refl wz).alloc _).frozen (lt_of_cell c5z)]
                    exact fTz
                  rcases own_open hown with ⟨-, h0⟩ | ⟨g, cap, rfl, -, -, -, -⟩
                  · omega
                  · have HN := Lib.hid hN
                    clear hN hown hgrow hnil hat hul hp0 hs0
                    go_wp2_with fail
                    go_roundw
                    case rel => exact ⟨d + 1, _, _, by omega, by go_num, HN.out⟩
                    case measure => simp [intOf]; omega
          · have ed' : d = t.rates.length := by omega
            subst ed'
            obtain ⟨c0, c1, c2, c3, c4, c5⟩ := HQ.out.cells
            simp only [Nat.zero_add] at c0 c1 c2 c3 c4 c5
            have hTq := lt_of_cell c5
            have hbr := HQ.out.build
            rw [List.take_length] at hbr
            have hr3 : Ints3V (mask (pit wo T) wq) (.slice a2 t.rates.length q2) t.rates := Build1.slice (S := Ints2V) (fun h k => Ints2V.kc h k) hbr (by omega)
            have HR3 := Lib.hid hr3
            clear hbr hr3
            obtain ⟨us, hul, hown0, hp0, hs0⟩ := HB.out
            have ed : (l.take k).length = k := by simp; omega
            rw [ed] at hown0
            have HU := Lib.hid (And.intro hul hs0)
            have OWN := Lib.hid hown0
            have hlb := fun g hg => own_lt hown0 (g := g) hg
            have HLB := Lib.hid hlb
            clear hul hp0 hs0 hown0 hlb
            have ED := Lib.hid ed
            clear ed
            have e2 : l.take k ++ [t] = l.take (k + 1) := by
              rw [List.take_succ_eq_append_getElem hlt, HE.out]
            have E2 := Lib.hid e2
            clear e2
            go_wp2_with (at_builtin; refine wpList_append_own_at _ rfl _ _ 33 rfl w.heap.size 100 i3 (.agg #[.int .i64 0, .bool false, .int .i64 0, .slice none 0 0, .slice none 0 0, .slice none 0 0]) 6 96 Tryz.underlying33 hi3 hz30 hz31 hz32 rfl (by decide) u3 k (us.flatMap V6.cs) rfl ?own ⟨wq.heap.size, 0, none⟩ 1 1 (boxV t x3 x4 (.slice a2 t.rates.length q2)).cs rfl rfl (cell_six_new _ (boxV t x3 x4 (.slice a2 t.rates.length q2)) _) ?one ?f1 ?f2 ?f3 ?next)
            case own => exact own_keep OWN.out (fun g hg => (hxq.alloc _).heap (HLB.out g hg).2)
            case one =>
              have o3 : x3.oneCell' = true := by obtain ⟨a, c, e⟩ := HBX.out.weeks.slice; rw [e]; rfl
              have o4 : x4.oneCell' = true := by obtain ⟨a, c, e⟩ := HBX.out.counts.slice; rw [e]; rfl
              exact ⟨rfl, rfl, rfl, o3, o4, rfl⟩
            case f1 => have := HT.out.1; simp only [maxLen]; omega
            case f2 => have := HT.out.1; omega
            case f3 => have h1 := hxq.size; have h2 := hx.size; simp; omega
            case next =>
              intro v' w3 hown hgrow hnil hat
              obtain ⟨hul, hs0⟩ := HU.out
              have hcov : ∀ g, wo.heap.size ≤ g → cov (oldB w) u3 g = false := fun g hg => cov_no.2 ⟨oldB_lt.2 (Nat.le_trans hx.size hg), fun e => by have := (HLB.out g e).2; omega⟩
              have k1 : ∀ o, KC (mask (pit wo T) wc) (mask (cov (oldB w) u3) (wq.alloc o)) := fun o =>
                mask_kc (fun g _ hp => hcov g (pit_no.1 hp).1) (fun g hg hp => (((Ext.refl wq).alloc o).heap (Nat.lt_of_lt_of_le hg HQ.out.but.size)).trans (HQ.out.but.block g hg (fun e => (pit_no.1 hp).2 e.symm)))
              have k2 : ∀ o, KC (mask (pit wo T) wq) (mask (cov (oldB w) u3) (wq.alloc o)) := fun o => ((Ext.refl wq).alloc o).mask (fun g _ hp => hcov g (pit_no.1 hp).1)
              have hu : ∀ o, TarU (mask (cov (oldB w) u3) (wq.alloc o)) (boxV t x3 x4 (.slice a2 t.rates.length q2)) t := fun o =>
                ⟨rfl, rfl, rfl, ⟨HFL.out.1, HFL.out.2, HBX.out.weeks.kc (k1 o), HBX.out.counts.kc (k1 o), HR3.out.kc (k2 o)⟩⟩
              have hb : Build6 TarU (oldB w) w.heap.size 100 w3 v' (l.take k ++ [t]) :=
                Build6.next (S := TarU) (fun h k => TarU.kc h k) (us := us) (w := wq.alloc _) hul (fun k hk => oldB_lt.2 (HLB.out k hk).1) (fun i g1 g2 => (hs0 i g1 g2).kc ((hxq.alloc _).mask (fun _ _ h => h))) (hu _) (by rw [ED.out]; exact hown) hgrow (hat.imp_right (fun h => h.trans (by simp))) (oldB_lt.2 (by have h1 := hx.size; have h2 := hxq.size; simp; omega))
              rw [E2.out] at hb
              have hx3 : Ext w w3 := grown_ext (hx.trans (hxq.alloc _)) hgrow (fun g hg => (HLB.out g hg).1)
              have HB3 := Lib.hid hb
              have hten := HT.out.1
              clear hb hu k1 k2 hcov hown hgrow hnil hat hul hs0
              go_wp2_with fail
              go_roundw
              case rel => exact ⟨k + 1, by omega, by go_num, HB3.out, hx3⟩
              case measure => simp [intOf]; omega
    · have hk' : k = l.length := by omega
      subst hk'
      rw [List.take_length] at HB
      have ho := HB.out
      have hten := HT.out.1
      obtain ⟨us, hul, hown0, -, -⟩ := HB.out
      have hts := Build6.tars ho (by omega)
      have HTS := Lib.hid hts
      clear ho hts
      go_wp2_with fail
      go_ret
      exact ⟨_, rfl, HTS.out, hx⟩
end Go.Proofs.YtedblocbcjoolaaGreat

/- The reference: the tariff of a day, the loss, the part. -/
namespace Go.Hs
open Go.RowKit
theorem weekTo_eq {xs : List Int} {d : Int} {i : Nat} (hi : xs.getD i 0 ≤ d) : ∀ k, i < k → (∀ m, i < m → m < k → d < xs.getD m 0) → weekTo xs d k = i := by
  intro k
  induction k with
  | zero => intro h; omega
  | succ k ih =>
    intro hk hm
    rw [weekTo_succ]
    by_cases e : i = k
    · subst e; rw [if_pos hi]
    · have := hm k (by omega) (by omega)
      rw [if_neg (by omega)]
      exact ih (by omega) (fun m h1 h2 => hm m h1 (by omega))
theorem atS_eq {l : List Tar} {d : Int} {i : Nat} (hi : (l.getD i default).start ≤ d) (hil : i < l.length) (hm : ∀ m, i < m → m < l.length → d < (l.getD m default).start) : atS l d = l.getD i default := by
  have : ∀ k, i < k → k ≤ l.length → atS (l.take k) d = l.getD i default := by
    intro k
    induction k with
    | zero => intro h; omega
    | succ k ih =>
      intro hk hl
      rw [atS_take (by omega)]
      have e1 : l[k]'(by omega) = l.getD k default := by simp [show k < l.length by omega]
      rw [e1]
      by_cases e : i = k
      · subst e; rw [if_pos hi]
      · have := hm k (by omega) (by omega)
        rw [if_neg (by omega)]
        exact ih (by omega) (by omega)
  have h := this l.length hil (Nat.le_refl _)
  rwa [List.take_length] at h
/-- A list that rises, and begins with at most a number. -/
structure UpFrom (xs : List Int) (n : Int) : Prop where
  pos : 0 < xs.length
  first : xs.getD 0 0 ≤ n
  strict : ∀ a b, a < b → b < xs.length → xs.getD a 0 < xs.getD b 0
theorem UpFrom.last {xs : List Int} {n : Int} (h : UpFrom xs n) {i : Nat} (hi : LastP xs n i) : i < xs.length ∧ xs.getD i 0 ≤ n ∧ (∀ m, i < m → m < xs.length → n < xs.getD m 0) := by
  have hl : i < xs.length := by rcases hi.lt with e | e; · rw [e]; exact h.pos
                                · exact e
  refine ⟨hl, ?_, fun m h1 h2 => ?_⟩
  · by_cases e : i = 0
    · rw [e]; exact h.first
    · exact hi.le i (by omega) (Nat.le_refl _)
  · have g := hi.gt (by omega)
    by_cases e : m = i + 1
    · rw [e]; exact g
    · have := h.strict (i + 1) m (by omega) h2; omega
theorem UpFrom.eq {xs : List Int} {n : Int} (h : UpFrom xs n) {i : Nat} (hi : LastP xs n i) : i = weekTo xs n xs.length :=
  let ⟨a, b, c⟩ := h.last hi
  (weekTo_eq b _ a c).symm
theorem starts_get (l : List Tar) (i : Nat) (hi : i < l.length) : (l.map Tar.start).getD i 0 = (l.getD i default).start := by simp [hi]
theorem ValidL.up {l : List Tar} (h : ValidL l) {d : Int} (hd : 0 ≤ d) : UpFrom (l.map Tar.start) d := by
  refine ⟨by simpa using h.pos, ?_, ?_⟩
  · rw [starts_get l 0 h.pos, h.first]; exact hd
  · intro a b hab hb
    simp at hb
    refine strict_of_step (f := fun i => (l.map Tar.start).getD i 0) (n := l.length) (fun i hi => ?_) a b hab hb
    have := h.link i (by omega)
    simp only [linkB, Bool.and_eq_true, decide_eq_true_eq] at this
    show (l.map Tar.start).getD i 0 < (l.map Tar.start).getD (i + 1) 0
    rw [starts_get l i (by omega), starts_get l (i + 1) hi]; exact this.1
theorem ValidL.of {l : List Tar} (h : ValidL l) {d : Int} (hd : 0 ≤ d) : weekTo (l.map Tar.start) d (l.map Tar.start).length < l.length ∧ l.getD (weekTo (l.map Tar.start) d (l.map Tar.start).length) default = atS l d := by
  have up := h.up hd
  have hex : ∃ i, i < l.length ∧ atS l d = l.getD i default ∧ True := by obtain ⟨i, h1, h2⟩ := atS_mem h.pos (by rw [h.first]; exact hd); exact ⟨i, h1, h2, trivial⟩
  -- the last one that has begun
  have key : ∀ k, 0 < k → k ≤ l.length → ∃ i, i < k ∧ (l.map Tar.start).getD i 0 ≤ d ∧ ∀ m, i < m → m < k → d < (l.map Tar.start).getD m 0 := by
    intro k
    induction k with
    | zero => intro h; omega
    | succ k ih =>
      intro _ hk
      by_cases e : (l.map Tar.start).getD k 0 ≤ d
      · exact ⟨k, by omega, e, fun m h1 h2 => by omega⟩
      · by_cases k0 : k = 0
        · subst k0; exact absurd up.first e
        · obtain ⟨i, h1, h2, h3⟩ := ih (by omega) (by omega)
          refine ⟨i, by omega, h2, fun m g1 g2 => ?_⟩
          by_cases em : m = k
          · subst em; omega
          · exact h3 m g1 (by omega)
  obtain ⟨i, h1, h2, h3⟩ := key l.length h.pos (Nat.le_refl _)
  have e : weekTo (l.map Tar.start) d (l.map Tar.start).length = i := by
    rw [List.length_map]; exact weekTo_eq h2 _ h1 h3
  rw [e]
  refine ⟨h1, (atS_eq (by rw [← starts_get l i h1]; exact h2) h1 (fun m g1 g2 => by rw [← starts_get l m g2]; exact h3 m g1 g2)).symm⟩
theorem Rises.up {xs : List Int} {m n : Int} (h : Rises xs m) (hn : 0 ≤ n) : UpFrom xs n := ⟨h.pos, by rw [h.first]; exact hn, h.strict⟩
/-- The loss by the last count that is at most the one that is asked. -/
theorem interp_last {xs row : List Int} {n : Int} (h : CountsOK xs) (h0 : 0 ≤ n) (h1 : n ≤ 100) {i : Nat} (hi : i = weekTo xs n xs.length) (hl : LastP xs n i) :
    i < xs.length ∧ (xs.getD i 0 = n → interp xs row n = row.getD i 0) ∧ (xs.getD i 0 ≠ n → i + 1 < xs.length ∧ xs.getD i 0 < n ∧ n < xs.getD (i + 1) 0 ∧
      interp xs row n = (row.getD i 0 * (xs.getD (i + 1) 0 - n) + row.getD (i + 1) 0 * (n - xs.getD i 0)) / (xs.getD (i + 1) 0 - xs.getD i 0)) := by
  have up : UpFrom xs n := ⟨by have := h.two; omega, by rw [h.first]; exact h0, h.strict⟩
  obtain ⟨a, b, c⟩ := up.last hl
  refine ⟨a, fun e => ?_, fun e => ?_⟩
  · have hf : Found xs n i := ⟨by omega, fun m hm => by have := h.strict m i hm a; omega, fun m h2 h3 => by have := h.sorted i m h2 h3; omega⟩
    rw [interp_at hf, if_pos e]
  · have hi1 : i + 1 < xs.length := by
      rcases Nat.lt_or_ge (i + 1) xs.length with g | g
      · exact g
      · have e2 : i = xs.length - 1 := by omega
        rw [e2, h.last] at b e; omega
    have g := c (i + 1) (by omega) hi1
    have hf : Found xs n (i + 1) := ⟨by omega, fun m hm => by have := h.sorted m i (by omega) a; omega, fun m h2 h3 => by have := h.sorted (i + 1) m h2 h3; omega⟩
    refine ⟨hi1, by omega, g, ?_⟩
    rw [interp_at hf, if_neg (by omega)]
    simp
/-- There is such an index. -/
theorem UpFrom.lastP {xs : List Int} {n : Int} (h : UpFrom xs n) : LastP xs n (weekTo xs n xs.length) := by
  have key : ∀ k, 0 < k → k ≤ xs.length → ∃ i, i < k ∧ xs.getD i 0 ≤ n ∧ ∀ m, i < m → m < k → n < xs.getD m 0 := by
    intro k
    induction k with
    | zero => intro h; omega
    | succ k ih =>
      intro _ hk
      by_cases e : xs.getD k 0 ≤ n
      · exact ⟨k, by omega, e, fun m h1 h2 => by omega⟩
      · by_cases k0 : k = 0
        · subst k0; exact absurd h.first e
        · obtain ⟨i, h1, h2, h3⟩ := ih (by omega) (by omega)
          refine ⟨i, by omega, h2, fun m g1 g2 => ?_⟩
          by_cases em : m = k
          · subst em; omega
          · exact h3 m g1 (by omega)
  obtain ⟨i, h1, h2, h3⟩ := key xs.length h.pos (Nat.le_refl _)
  rw [weekTo_eq h2 _ h1 h3]
  exact ⟨.inr h1, fun m _ hm => by
    by_cases e : m = i
    · rw [e]; exact h2
    · have := h.strict m i (by omega) h1; omega, fun g => h3 _ (by omega) g⟩
end Go.Hs
namespace Go.Proofs.YtedblocbcjoolaaGreat
open Go.RowKit Go.Hs
attribute [local irreducible] World.setCell World.alloc

theorem LastUp_any (v : Value) (xs : List Int) (n : Int) (w : World) (hv : IntsV w v xs) (h : UpFrom xs n) :
    Calls Tryz.prog 121 #[v, .int .i64 n] w fun e w' => e = .returned (.int .i64 (weekTo xs n xs.length : Nat)) ∧ w = w' :=
  (Last_any v xs n w hv).mono fun e w' ⟨⟨i, hi, he⟩, hw⟩ => ⟨by rw [he, ← h.eq hi], hw⟩

end Go.Proofs.YtedblocbcjoolaaGreat

/- The reference: the tariff of a day. -/
namespace Go.Hs
open Go.RowKit
def IntIs (_ : World) (v : Value) (x : Int) : Prop := v = .int .i64 x ∧ i64ok x
theorem IntIs.kc {w w' : World} {v : Value} {x : Int} (_ : KC w w') (k : IntIs w v x) : IntIs w' v x := k
theorem Build1.ints {p : Nat → Bool} {B e : Nat} {w : World} {v : Value} {xs : List Int} (h : Build1 IntIs p B e w v xs) (hl : xs.length ≤ 1000) : IntsV w v xs := by
  obtain ⟨a, c, he, h1, h2, hr⟩ := Build1.slice (S := IntIs) (fun h k => IntIs.kc h k) h hl
  refine ⟨a, c, he, h1, h2, fun i hi => ?_⟩
  obtain ⟨b, o, hb, x, hc, hx, ho⟩ := hr i hi
  subst hx
  exact ⟨b, o, hb, mask_kc0 p w _ _ _ hc, ho⟩
def isB (B : Nat) : Nat → Bool := fun k => B == k
theorem isB_no {B k : Nat} : isB B k = false ↔ B ≠ k := by simp [isB]
end Go.Hs
namespace Go.Proofs.YtedblocbcjoolaaGreat
open Go.RowKit Go.Hs
attribute [local irreducible] World.setCell World.alloc

set_option maxRecDepth 100000 in
set_option maxHeartbeats 2000000 in
theorem Of_any (v : Value) (l : List Tar) (d : Int) (w : World) (hv : TarsV w v l) (hl : ValidL l) (hd : 0 ≤ d) :
    Calls Tryz.prog 107 #[v, .int .i64 d] w fun e w' => ∃ u : V6, e = .returned u.val ∧ TarU w u (atS l d) ∧ Ext w w' := by
  have HV := Lib.hid hv
  obtain ⟨a, c, rfl, h1, h2, hr⟩ := hv
  obtain ⟨i1, hi1, hz10, hz11, hz12⟩ := info_parts info_int
  have h3 := hl.three
  have hp := hl.pos
  have HR := Lib.hid hr
  have HO := Lib.hid (hl.of hd)
  have HU := Lib.hid (hl.up hd)
  clear hr hl
  go_enter Tryz.func107, Tryz.ntmps107
  go_wp2_with fail
  go_loopw [5, 6] (fun s5 s6 wr => ∃ (k : Nat) (a5 : Option Addr) (q5 : Nat), k ≤ l.length ∧ s6 = .int .i64 k ∧ s5 = .slice a5 k q5 ∧ Hid (Build1 IntIs (isB w.heap.size) w.heap.size 3 wr (.slice a5 k q5) ((l.map Tar.start).take k)) ∧ Ext w wr ∧ Hid (Cell6 wr w.heap.size 0 ⟨.int .i64 0, .bool false, .int .i64 0, .slice none 0 0, .slice none 0 0, .slice none 0 0⟩ ∧ ∀ o, wr.frozen? ⟨w.heap.size, o, none⟩ = false)) (fun _ i _ => l.length - (intOf i).toNat)
  case atStart => exact ⟨0, none, 0, Nat.zero_le _, rfl, rfl, Build1.nil _, by (repeat (first | exact Ext.refl _ | (with_reducible assumption) | (with_reducible refine Ext.drew ?_) | (with_reducible refine Ext.alloc ?_ _) | (with_reducible refine Ext.drewN ?_ _) | (with_reducible refine Ext.setCell ?_ (by omega) _) | (with_reducible refine Ext.trans ?_ (by with_reducible assumption)))), by simp [Cell6], fun o => by simp⟩
  case round =>
    obtain ⟨k, a5, q5, hk, rfl, rfl, HB, hx, HC⟩ := hrel
    obtain ⟨wo, rfl⟩ : ∃ x, x = wr := ⟨_, rfl⟩
    by_cases hlt : k < l.length
    · obtain ⟨b, off, rfl, hta⟩ := HR.out k hlt
      obtain ⟨a3, k3, a4, k4, a5', k5, m0, -, -, -, -, -, mc⟩ := TarAt.open (hta.ext hx)
      have hok := mc.f
      clear hta mc
      have ek : ((l.map Tar.start).take k).length = k := by simp; omega
      have e2 : (l.map Tar.start).take k ++ [l[k].start] = (l.map Tar.start).take (k + 1) := by
        rw [List.take_succ_eq_append_getElem (by simpa using hlt)]; simp
      have E2 := Lib.hid e2
      clear e2
      obtain ⟨us, hul, hown0, hp0, hs0⟩ := HB.out
      rw [ek] at hown0
      have HUL := Lib.hid (And.intro hul (And.intro hp0 hs0))
      have OWN := Lib.hid hown0
      have hlb := fun g hg => own_lt hown0 (g := g) hg
      have HLB := Lib.hid hlb
      clear hul hp0 hs0 hown0 hlb
      have EK := Lib.hid ek
      clear ek
      have HOK := Lib.hid hok
      clear hok
      generalize l[k].start = x at *
      go_wp2_with (at_builtin; refine wpList_append_own_at _ rfl _ _ 40 rfl w.heap.size 3 i1 (.int .i64 0) 1 8 Tryz.underlying40 hi1 hz10 hz11 hz12 rfl (by decide) (.slice a5 k q5) k us rfl ?own ⟨wo.heap.size, 0, none⟩ 1 1 [.int .i64 x] rfl rfl (cell_one_new _ _ _) ?one ?f1 ?f2 ?f3 ?next)
      case own => exact own_keep OWN.out (fun g hg => ((Ext.refl wo).alloc _).heap (HLB.out g hg).2)
      case one => first | rfl | (intro u hu; simp at hu; subst hu; rfl)
      case f1 => simp only [maxLen]; omega
      case f2 => omega
      case f3 => have h1 := hx.size; simp; omega
      case next =>
        intro v' w3 hown hgrow hnil hat
        obtain ⟨hul, hp0, hs0⟩ := HUL.out
        have hb : Build1 IntIs (isB w.heap.size) w.heap.size 3 w3 v' ((l.map Tar.start).take k ++ [x]) :=
          Build1.next (S := IntIs) (fun h k => IntIs.kc h k) (us := us) (w := wo.alloc _) hul hp0 hs0 ⟨rfl, HOK.out⟩ (by rw [EK.out]; exact hown) hgrow (hat.imp_right (fun h => h.trans (by simp))) (by rw [isB_no]; have := lt_of_cell HC.out.1.1; simp at this ⊢; omega)
        rw [E2.out] at hb
        have hx3 : Ext w w3 := grown_ext (hx.alloc _) hgrow (fun g hg => (HLB.out g hg).1)
        have hTo : some w.heap.size ≠ (Value.slice a5 k q5).ownBlock := fun e => (isB_no.1 (hp0 _ e.symm)) rfl
        have hT := lt_of_cell HC.out.1.1
        simp only at hT
        have hc3 : Cell6 w3 w.heap.size 0 ⟨.int .i64 0, .bool false, .int .i64 0, .slice none 0 0, .slice none 0 0, .slice none 0 0⟩ := by
          obtain ⟨c0, c1, c2, c3, c4, c5⟩ := HC.out.1
          exact ⟨hgrow.cell (((Ext.refl wo).alloc _).keep c0) hTo, hgrow.cell (((Ext.refl wo).alloc _).keep c1) hTo, hgrow.cell (((Ext.refl wo).alloc _).keep c2) hTo, hgrow.cell (((Ext.refl wo).alloc _).keep c3) hTo, hgrow.cell (((Ext.refl wo).alloc _).keep c4) hTo, hgrow.cell (((Ext.refl wo).alloc _).keep c5) hTo⟩
        have hf3 : ∀ o, w3.frozen? ⟨w.heap.size, o, none⟩ = false := fun o => by
          rw [World.frozen?_of_block (w := wo.alloc _) (hgrow.block _ (by simp; omega) hTo), ((Ext.refl wo).alloc _).frozen hT]
          exact HC.out.2 o
        rcases own_open hown with ⟨-, h0⟩ | ⟨g, cap, rfl, -, -, -, -⟩
        · omega
        · have HB3 := Lib.hid hb
          have HC3 := Lib.hid (And.intro hc3 hf3)
          clear hb hc3 hf3 hT hTo hown hgrow hnil hat hul hp0 hs0
          go_wp2_with fail
          go_roundw
          case rel => exact ⟨k + 1, _, _, by omega, by go_num, rfl, HB3.out, hx3, HC3.out⟩
          case measure => simp [intOf]; omega
    · have ek : k = l.length := by omega
      subst ek
      have hb := HB.out
      rw [List.take_of_length_le (by simp)] at hb
      have hi := Build1.ints hb (by simp; omega)
      have hlast := LastUp_any _ _ d wo hi HU.out
      obtain ⟨hlt, heq⟩ := HO.out
      generalize weekTo (l.map Tar.start) d (l.map Tar.start).length = i at *
      obtain ⟨b, off, rfl, hta⟩ := HR.out i hlt
      obtain ⟨a3, k3, a4, k4, a6, k6, m0, m1, m2, m3, m4, m5, mc⟩ := TarAt.open hta
      have e1 : l[i] = atS l d := by rw [← heq]; simp [hlt]
      rw [e1] at m0 m1 m2 m3 m4 m5 mc
      have HMC := Lib.hid mc
      obtain ⟨c0, c1, c2, c3, c4, c5⟩ := HC.out.1
      simp only [Nat.zero_add] at c0 c1 c2 c3 c4 c5
      have fr := HC.out.2
      have f0 := fr 0
      have f1 := fr 1
      have f2 := fr 2
      have f3 := fr 3
      have f4 := fr 4
      have f5 := fr 5
      have HCC := Lib.hid HC.out.1
      replace m0 := hx.keep m0
      replace m1 := hx.keep m1
      replace m2 := hx.keep m2
      replace m3 := hx.keep m3
      replace m4 := hx.keep m4
      replace m5 := hx.keep m5
      clear hta mc e1 heq hb hi fr HC
      generalize hat : atS l d = t at *
      have HAT := Lib.hid hat
      clear hat
      go_wp2_with fail
      (with_reducible refine hlast.mono ?_)
      rintro e w2 ⟨rfl, rfl⟩
      clear hlast
      go_wp2_with fail
      have hfin := set6_cell (u := ⟨.int .i64 t.start, .bool t.whole, .int .i64 t.least, .slice a3 t.weeks.length k3, .slice a4 t.counts.length k4, .slice a6 t.rates.length k6⟩) HCC.out
      have hxx : Ext w (World.set6 wo w.heap.size ⟨.int .i64 t.start, .bool t.whole, .int .i64 t.least, .slice a3 t.weeks.length k3, .slice a4 t.counts.length k4, .slice a6 t.rates.length k6⟩) := hx.set6 (Nat.le_refl _) _
      obtain ⟨q0, q1, q2, q3, q4, q5⟩ := hfin
      simp only [Nat.zero_add, World.set6] at q0 q1 q2 q3 q4 q5
      exact bodyPost_ret (v := .agg #[.int .i64 t.start, .bool t.whole, .int .i64 t.least, .slice a3 t.weeks.length k3, .slice a4 t.counts.length k4, .slice a6 t.rates.length k6]) (by simp [results, Tryz.results107, go_sem, q0, q1, q2, q3, q4, q5]) rfl ⟨⟨_, _, _, _, _, _⟩, rfl, by rw [HAT.out]; exact ⟨rfl, rfl, rfl, HMC.out⟩, hxx⟩
end Go.Proofs.YtedblocbcjoolaaGreat

/- The reference: the loss, the part. -/
namespace Go.Proofs.YtedblocbcjoolaaGreat
open Go.RowKit Go.Hs
attribute [local irreducible] World.setCell World.alloc

set_option maxRecDepth 100000 in
set_option maxHeartbeats 2000000 in
theorem RefLoss_any (u : V6) (t : Tar) (cr d n : Int) (w : World) (h : TarU w u t) (hv : ValidT t) (h0 : 0 ≤ cr) (h1 : cr < t.rates.length) (hd : 0 ≤ d) (hn0 : 0 ≤ n) (hn1 : n ≤ 100) :
    Calls Tryz.prog 108 #[u.val, .int .i64 cr, .int .i64 d, .int .i64 n] w fun e w' => e = .returned (.int .i64 (interp t.counts ((t.rates.getD cr.toNat []).getD (weekTo t.weeks d t.weeks.length) []) n)) ∧ Ext w w' := by
  have HT := h
  have hco := hv.countsOK
  have hwup := hv.weeks.up hd
  have hcup := hv.counts.up hn0
  obtain ⟨a3, k3, a4, k4, a5, k5, rfl⟩ := h.slices
  obtain ⟨-, -, -, hC⟩ := h
  obtain ⟨cn, rfl⟩ := Int.eq_ofNat_of_zero_le h0
  have hcn : cn < t.rates.length := by omega
  have hrows := hv.rows cn hcn
  have hwlt := hv.week_lt d
  have hro := hrows.2 _ hwlt
  have hw : weekTo t.weeks d t.weeks.length < (t.rates.getD cn []).length := by rw [hrows.1]; exact hwlt
  simp only [Int.toNat_natCast] at ⊢
  have hl4 := hC.counts.len_le.2
  obtain ⟨b5, o5, a6, c6, rfl, hc5, hv6⟩ := hC.rates.get cn hcn
  obtain ⟨b6, o6, a7, c7, rfl, hc6, hv7⟩ := hv6.get _ hw
  have X := ((Ext.refl w).alloc (.cells #[.int .i64 t.start, .bool t.whole, .int .i64 t.least, .slice a3 t.weeks.length k3, .slice a4 t.counts.length k4, .slice (some ⟨b5, o5, none⟩) t.rates.length k5] 87))
  have HL1 : Hid (∀ W', Ext w W' → Calls Tryz.prog 121 #[.slice a3 t.weeks.length k3, .int .i64 d] W' (fun e w' => e = .returned (.int .i64 (weekTo t.weeks d t.weeks.length : Nat)) ∧ Ext W' w')) :=
    fun W' hx => (LastUp_any _ _ d W' (hC.weeks.ext hx) hwup).mono fun e w' h => ⟨h.1, h.2 ▸ Ext.refl _⟩
  have HL2 : Hid (∀ W', Ext w W' → Calls Tryz.prog 121 #[.slice a4 t.counts.length k4, .int .i64 n] W' (fun e w' => e = .returned (.int .i64 (weekTo t.counts n t.counts.length : Nat)) ∧ W' = w')) :=
    fun W' hx => LastUp_any _ _ n W' (hC.counts.ext hx) hcup
  have HIL := Lib.hid (fun row => interp_last (row := row) hco hn0 hn1 rfl hcup.lastP)
  have hrl : (t.rates.getD cn []).length ≤ 140737488351232 := hv6.len_le.2
  have hrw : ((t.rates.getD cn []).getD (weekTo t.weeks d t.weeks.length) []).length ≤ 140737488351232 := hv7.len_le.2
  have hk3 : t.weeks.length ≤ 140737488351232 := hC.weeks.len_le.2
  have hk5 : t.rates.length ≤ 140737488351232 := hC.rates.len_le.2
  have HCV := Lib.hid hC.counts
  have HV7 := Lib.hid hv7
  have HCO := Lib.hid hco
  have hrol := hro.len
  have HRL := Lib.hid hrol
  have HRB := Lib.hid hro.bound
  clear hC hv6 hv7 hv hco hrows hwup hcup HT hro hrol hcn h0
  have hcn : cn < t.rates.length := by omega
  generalize hwn : weekTo t.weeks d t.weeks.length = wn at *
  generalize hrow : (t.rates.getD cn []).getD wn [] = row at *
  generalize t.rates.getD cn [] = cw at *
  have HIR := Lib.hid (HIL.out row)
  clear HIL hwn hrow
  generalize interp t.counts row n = res at *
  go_enter Tryz.func108, Tryz.ntmps108
  go_wp2_with fail
  generalize hW : (w.alloc (.cells #[.int .i64 t.start, .bool t.whole, .int .i64 t.least, .slice a3 t.weeks.length k3, .slice a4 t.counts.length k4, .slice (some ⟨b5, o5, none⟩) t.rates.length k5] 87)) = W at *
  have t3 : W.cell? ⟨w.heap.size, 3, none⟩ = some (.slice a3 t.weeks.length k3) := by rw [← hW]; simp
  have t4 : W.cell? ⟨w.heap.size, 4, none⟩ = some (.slice a4 t.counts.length k4) := by rw [← hW]; simp
  have t5 : W.cell? ⟨w.heap.size, 5, none⟩ = some (.slice (some ⟨b5, o5, none⟩) t.rates.length k5) := by rw [← hW]; simp
  have m5 := X.keep hc5
  have m6 := X.keep hc6
  clear hW hc5 hc6
  have g3 : ∀ w', Ext W w' → w'.cell? ⟨w.heap.size, 3, none⟩ = some (.slice a3 t.weeks.length k3) := fun w' h => h.keep t3
  have g5 : ∀ w', Ext W w' → w'.cell? ⟨w.heap.size, 5, none⟩ = some (.slice (some ⟨b5, o5, none⟩) t.rates.length k5) := fun w' h => h.keep t5
  have g6 : ∀ w', Ext W w' → w'.cell? ⟨b5, o5 + cn, none⟩ = some (.slice (some ⟨b6, o6, none⟩) cw.length c6) := fun w' h => h.keep m5
  have g7 : ∀ w', Ext W w' → w'.cell? ⟨b6, o6 + wn, none⟩ = some (.slice a7 row.length c7) := fun w' h => h.keep m6
  refine wp_region_quiet (C := Ext W) (by kernel_rfl) (by kernel_rfl) (Ext.drew (by (repeat (first | exact Ext.refl _ | (with_reducible assumption) | (with_reducible refine Ext.drew ?_) | (with_reducible refine Ext.alloc ?_ _) | (with_reducible refine Ext.drewN ?_ _) | (with_reducible refine Ext.setCell ?_ (by omega) _) | (with_reducible refine Ext.trans ?_ (by with_reducible assumption)))))) ?_
  rw [show ∀ (l : List Oper), l.toArray.toList = l from fun l => rfl]
  repeat (first
    | go_big_quiet_skip
    | (go_big_quiet_want
       first
        | (go_big_quiet_op; go_big_quiet_on)
        | (apply Exists.intro
           refine ⟨fun w' hxw => ?_, ?_⟩
           focus (have q3 := g3 w' hxw; have q5 := g5 w' hxw; have q6 := g6 w' hxw; have q7 := g7 w' hxw; go_simp; first | exact rfl | exact (HL1.out w' (X.trans hxw)).mono (fun e w'' h => ⟨h.1, hxw.trans h.2⟩))
           simp only [Act.put, List.setIfInBounds_toArray, List.set_cons_zero, List.set_cons_succ]
           go_big_quiet_on)))
  refine wpQuiet_nil ?_
  intro w2 hx2
  have XX := X.trans hx2
  have n4 := hx2.keep t4
  have hsr := HL2.out w2 XX
  clear t3 t4 t5 m5 m6 g3 g5 g6 g7 hx2
  go_wp2_with fail
  (with_reducible refine hsr.mono ?_)
  rintro e w3 ⟨rfl, rfl⟩
  clear hsr
  generalize weekTo t.counts n t.counts.length = i at *
  obtain ⟨hil, hyes, hno⟩ := HIR.out
  obtain ⟨bc, oc, rfl, hcc⟩ := HCV.out.get i hil
  have hir : i < row.length := by rw [HRL.out]; exact hil
  obtain ⟨br, or_, rfl, hcr⟩ := HV7.out.get i hir
  have hcc2 := XX.keep hcc
  have hcr2 := XX.keep hcr
  clear hcc hcr
  by_cases hx : t.counts.getD i 0 = n
  · have HE := Lib.hid (hyes hx)
    have hxb : (t.counts.getD i 0 == n) = true := by rw [beq_iff_eq]; exact hx
    clear hyes hno hx
    generalize row.getD i 0 = ri at *
    generalize t.counts.getD i 0 = ci at *
    go_wp2_with fail
    go_ret
    exact ⟨ret_int HE.out.symm, XX⟩
  · obtain ⟨hi1, hlo, hhi, he⟩ := hno hx
    have HE := Lib.hid he
    have hxb : (t.counts.getD i 0 == n) = false := by rw [beq_eq_false_iff_ne]; exact hx
    have hir1 : i + 1 < row.length := by rw [HRL.out]; exact hi1
    obtain ⟨_, _, e1, hcc'⟩ := HCV.out.get (i + 1) hi1
    cases e1
    obtain ⟨_, _, e1, hcr'⟩ := HV7.out.get (i + 1) hir1
    cases e1
    have hcc3 := XX.keep hcc'
    have hcr3 := XX.keep hcr'
    have bri := HRB.out i hir
    have brj := HRB.out (i + 1) hir1
    have bci := HCO.out.bound i hil
    have bcj := HCO.out.bound (i + 1) hi1
    clear hyes hno hx he hcc' hcr'
    generalize row.getD i 0 = ri at *
    generalize row.getD (i + 1) 0 = rj at *
    generalize t.counts.getD i 0 = ci at *
    generalize t.counts.getD (i + 1) 0 = cj at *
    have hw1 : IntKind.i64.wrap ((i : Int) + 1) = (i : Int) + 1 := IntWalk.i64_in _ (by omega)
    have hw2 : (0 : Int) ≤ (i : Int) + 1 := by omega
    have hw3 : ((i : Int) + 1).toNat = i + 1 := by omega
    have hw4 : (i : Int) + 1 < (row.length : Int) := by omega
    have hcr4 : w2.cell? ⟨br, or_ + i + 1, none⟩ = some (.int .i64 rj) := by rw [Nat.add_assoc]; exact hcr3
    have hcc4 : w2.cell? ⟨bc, oc + i + 1, none⟩ = some (.int .i64 cj) := by rw [Nat.add_assoc]; exact hcc3
    go_wp2_with fail
    go_quiet (fail)
    go_wp2_with fail
    go_ret
    exact ⟨ret_int ((interp_wrap bri.1 bri.2 brj.1 brj.2 bcj.1 bcj.2 bci.1 hlo hhi).trans HE.out.symm), XX.drewN _⟩
end Go.Proofs.YtedblocbcjoolaaGreat

/- The reference: the part. -/
namespace Go.Proofs.YtedblocbcjoolaaGreat
open Go.RowKit Go.Hs
attribute [local irreducible] World.setCell World.alloc

set_option maxRecDepth 100000 in
set_option maxHeartbeats 2000000 in
theorem RefPart_any (v : Value) (l : List Tar) (cr d n : Int) (w : World) (hv : TarsV w v l) (hl : ValidL l) (h0 : 0 ≤ cr) (h1 : cr < cropsN l) (hd : 0 ≤ d) (hn0 : 0 ≤ n) (hn1 : n ≤ 100) :
    Calls Tryz.prog 94 #[v, .int .i64 cr, .int .i64 d, .int .i64 n] w fun e w' => e = .returned (.int .i64 (partS l cr d n)) ∧ Ext w w' := by
  have hof := Of_any v l d w hv hl hd
  obtain ⟨hvt, hcr⟩ := hl.at hd
  have hls : ∀ u W, TarU W u (atS l d) → Calls Tryz.prog 108 #[u.val, .int .i64 cr, .int .i64 d, .int .i64 n] W fun e w' => e = .returned (.int .i64 (lossS l cr d n)) ∧ Ext W w' :=
    fun u W hu => RefLoss_any u (atS l d) cr d n W hu hvt h0 (by omega) hd hn0 hn1
  have hb := lossS_bd hl h0 h1 hd hn0 hn1
  have hlb := hvt.least
  have hps : Hid (partS l cr d n = if (atS l d).least ≤ lossS l cr d n then (if (atS l d).whole then lossS l cr d n else lossS l cr d n - (atS l d).least) else 0) := rfl
  clear hvt hcr hl
  generalize partS l cr d n = res at *
  generalize lossS l cr d n = lo at *
  have HLS := Lib.hid hls
  clear hls
  obtain ⟨a, c, rfl, -⟩ := hv
  go_enter Tryz.func94, Tryz.ntmps94
  go_wp2_with fail
  (with_reducible refine hof.mono ?_)
  rintro e w1 ⟨u, rfl, hu, hx1⟩
  clear hof
  have HU := Lib.hid hu
  obtain ⟨a3, k3, a4, k4, a5, k5, rfl⟩ := hu.slices
  clear hu
  have HU2 : Hid (TarU (w1.alloc (.cells #[.int .i64 (atS l d).start, .bool (atS l d).whole, .int .i64 (atS l d).least, .slice a3 (atS l d).weeks.length k3, .slice a4 (atS l d).counts.length k4, .slice a5 (atS l d).rates.length k5] 87)) ⟨.int .i64 (atS l d).start, .bool (atS l d).whole, .int .i64 (atS l d).least, .slice a3 (atS l d).weeks.length k3, .slice a4 (atS l d).counts.length k4, .slice a5 (atS l d).rates.length k5⟩ (atS l d)) := HU.out.ext (hx1.alloc _)
  have hcall := HLS.out _ _ HU2.out
  clear HLS HU HU2
  generalize atS l d = t at *
  go_wp2_with fail
  (with_reducible refine hcall.mono ?_)
  rintro e w2 ⟨rfl, hx2⟩
  clear hcall
  have q1 := hx2.keep (k := w1.heap.size) (o := 1) (v := .bool t.whole) (by simp)
  have q2 := hx2.keep (k := w1.heap.size) (o := 2) (v := .int .i64 t.least) (by simp)
  have XX : Ext w w2 := by (repeat (first | exact Ext.refl _ | (with_reducible assumption) | (with_reducible refine Ext.drew ?_) | (with_reducible refine Ext.alloc ?_ _) | (with_reducible refine Ext.drewN ?_ _) | (with_reducible refine Ext.setCell ?_ (by omega) _) | (with_reducible refine Ext.trans ?_ (by with_reducible assumption))))
  by_cases hlt : lo < t.least
  · have HE : Hid (res = 0) := by rw [hps.out, if_neg (by omega)]; exact Lib.hid rfl
    clear hps
    go_wp2_with fail
    go_ret
    exact ⟨ret_int HE.out.symm, XX⟩
  · cases hw : t.whole with
    | true =>
      have HE : Hid (res = lo) := by rw [hps.out, if_pos (by omega), if_pos hw]; exact Lib.hid rfl
      rw [hw] at q1
      clear hps hw
      go_wp2_with fail
      go_ret
      exact ⟨ret_int HE.out.symm, XX⟩
    | false =>
      have HE : Hid (res = lo - t.least) := by rw [hps.out, if_pos (by omega), if_neg (by rw [hw]; decide)]; exact Lib.hid rfl
      rw [hw] at q1
      clear hps hw
      go_wp2_with fail
      go_ret
      exact ⟨ret_int HE.out.symm, XX⟩
end Go.Proofs.YtedblocbcjoolaaGreat

/- Contracts of the reference of layer 7: what is settled, and what is paid. -/
namespace Go.Hs
open Go.RowKit Go.Proofs.YtedblocbcjoolaaGreat
/-- An outcome of the reference: the payment, whether the umpire was called, who lost the field. -/
structure Oc where
  pay : Int
  called : Bool
  lost : Int
def lostS (f : Fld) (x : Thr) : Int := if loserS f x = 2 then 1 else if loserS f x = 3 then -1 else 0
def ocS (c : Cas) (f : Fld) (x : Thr) : Oc := ⟨payC c f (settledS f x), calledB f x, lostS f x⟩
abbrev Oc.v (o : Oc) : Value := .agg #[.int .i64 o.pay, .bool o.called, .int .i64 o.lost]
theorem sc_ne' {W : World} {b i b' i' : Nat} {x v : Value} (h : b ≠ b' ∨ i ≠ i') (hc : W.cell? ⟨b, i, none⟩ = some x) : (W.setCell ⟨b', i', none⟩ v).cell? ⟨b, i, none⟩ = some x := by
  rw [World.cell?_setCell_other (h := by intro e; cases e; simp at h)]; exact hc
theorem sc_eq' {W : World} {b i : Nat} {x v : Value} (hc : W.cell? ⟨b, i, none⟩ = some x) : (W.setCell ⟨b, i, none⟩ v).cell? ⟨b, i, none⟩ = some v := World.cell?_setCell_same _ _ _ hc
theorem lost_calm {f : Fld} {x : Thr} (h : calledB f x = false) : lostS f x = 0 := by simp [lostS, loserS, h]
theorem lost_farmer {f : Fld} {x : Thr} (h : calledB f x = true) (h1 : absI (x.b - settledS f x) < absI (x.a - settledS f x)) : lostS f x = 1 := by
  simp [lostS, loserS, h, h1]
theorem lost_society {f : Fld} {x : Thr} (h : calledB f x = true) (h1 : absI (x.a - settledS f x) < absI (x.b - settledS f x)) : lostS f x = -1 := by
  have h2 : ¬ absI (x.b - settledS f x) < absI (x.a - settledS f x) := by omega
  simp [lostS, loserS, h, h1, h2]
theorem lost_even {f : Fld} {x : Thr} (h1 : ¬ absI (x.a - settledS f x) < absI (x.b - settledS f x)) (h2 : ¬ absI (x.b - settledS f x) < absI (x.a - settledS f x)) : lostS f x = 0 := by
  unfold lostS loserS
  cases calledB f x
  · simp
  · simp [h1, h2]
theorem settled_low {f : Fld} {x : Thr} (h : calledB f x = true) (h1 : x.u < x.a) (h2 : x.u < x.b) : settledS f x = min x.a x.b := by
  unfold settledS; rw [if_pos h]; omega
theorem settled_high {f : Fld} {x : Thr} (h : calledB f x = true) (h1 : x.a < x.u) (h2 : x.b < x.u) : settledS f x = max x.a x.b := by
  unfold settledS; rw [if_pos h]; omega
theorem settled_mid {f : Fld} {x : Thr} (h : calledB f x = true) (h1 : ¬ (x.u < x.a ∧ x.u < x.b)) (h2 : ¬ (x.a < x.u ∧ x.b < x.u)) : settledS f x = x.u := by
  unfold settledS; rw [if_pos h]; omega
end Go.Hs
namespace Go.Proofs.YtedblocbcjoolaaGreat
open Go.RowKit Go.Hs
attribute [local irreducible] World.setCell World.alloc

theorem Far_any (a b : Int) (h : -1000 ≤ a - b ∧ a - b ≤ 1000) (w : World) :
    Calls Tryz.prog 82 #[.int .i64 a, .int .i64 b] w fun e w' => e = .returned (.int .i64 (absI (a - b))) ∧ w = w' := by
  have w0 : IntKind.i64.wrap (b - a) = b - a := IntWalk.i64_in _ (by omega)
  have w1 : IntKind.i64.wrap (a - b) = a - b := IntWalk.i64_in _ (by omega)
  by_cases hab : a < b
  · have e : Hid (absI (a - b) = b - a) := Lib.hid (by unfold absI; omega)
    generalize absI (a - b) = m at *
    clear h
    go_enter Tryz.func82, Tryz.ntmps82
    go_wp2_with fail
    go_ret
    exact ⟨ret_int e.out.symm, rfl⟩
  · have e : Hid (absI (a - b) = a - b) := Lib.hid (by unfold absI; omega)
    generalize absI (a - b) = m at *
    clear h
    go_enter Tryz.func82, Tryz.ntmps82
    go_wp2_with fail
    go_ret
    exact ⟨ret_int e.out.symm, rfl⟩

set_option maxRecDepth 100000 in
set_option maxHeartbeats 2000000 in
theorem IsCalled_any (f : Fld) (x : Thr) (ha : 0 ≤ x.a ∧ x.a ≤ 100) (hb : 0 ≤ x.b ∧ x.b ≤ 100) (w : World) :
    Calls Tryz.prog 81 #[f.c.val, x.c.val] w fun e w' => e = .returned (.bool (calledB f x)) ∧ Ext w w' := by
  have HFA := Lib.hid (Far_any x.a x.b (by omega))
  have HCB : Hid (calledB f x = decide (f.near < absI (x.a - x.b))) := rfl
  generalize calledB f x = cb at *
  obtain ⟨cr, va, ne, al, ah, bl, bh, ul, uh⟩ := f
  obtain ⟨A, B, U⟩ := x
  simp only [Fld.c, Thr.c] at *
  generalize absI (A - B) = m at *
  go_enter Tryz.func81, Tryz.ntmps81
  go_wp2_with fail
  have X : Ext w ((w.alloc (.cells #[.int .i64 cr, .int .i64 va, .int .i64 ne, .int .i64 al, .int .i64 ah, .int .i64 bl, .int .i64 bh, .int .i64 ul, .int .i64 uh] 76)).alloc (.cells #[.int .i64 A, .int .i64 B, .int .i64 U] 132)) := by (repeat (first | exact Ext.refl _ | (with_reducible assumption) | (with_reducible refine Ext.drew ?_) | (with_reducible refine Ext.alloc ?_ _) | (with_reducible refine Ext.drewN ?_ _) | (with_reducible refine Ext.setCell ?_ (by omega) _) | (with_reducible refine Ext.trans ?_ (by with_reducible assumption))))
  have HS : Hid (∀ w', Ext ((w.alloc (.cells #[.int .i64 cr, .int .i64 va, .int .i64 ne, .int .i64 al, .int .i64 ah, .int .i64 bl, .int .i64 bh, .int .i64 ul, .int .i64 uh] 76)).alloc (.cells #[.int .i64 A, .int .i64 B, .int .i64 U] 132)) w' → (w'.cell? ⟨w.heap.size, 0, none⟩ = some (.int .i64 cr) ∧ w'.cell? ⟨w.heap.size, 1, none⟩ = some (.int .i64 va) ∧ w'.cell? ⟨w.heap.size, 2, none⟩ = some (.int .i64 ne) ∧ w'.cell? ⟨w.heap.size, 3, none⟩ = some (.int .i64 al) ∧ w'.cell? ⟨w.heap.size, 4, none⟩ = some (.int .i64 ah) ∧ w'.cell? ⟨w.heap.size, 5, none⟩ = some (.int .i64 bl) ∧ w'.cell? ⟨w.heap.size, 6, none⟩ = some (.int .i64 bh) ∧ w'.cell? ⟨w.heap.size, 7, none⟩ = some (.int .i64 ul) ∧ w'.cell? ⟨w.heap.size, 8, none⟩ = some (.int .i64 uh) ∧ w'.cell? ⟨w.heap.size + 1, 0, none⟩ = some (.int .i64 A) ∧ w'.cell? ⟨w.heap.size + 1, 1, none⟩ = some (.int .i64 B) ∧ w'.cell? ⟨w.heap.size + 1, 2, none⟩ = some (.int .i64 U)) ∧ Ext ((w.alloc (.cells #[.int .i64 cr, .int .i64 va, .int .i64 ne, .int .i64 al, .int .i64 ah, .int .i64 bl, .int .i64 bh, .int .i64 ul, .int .i64 uh] 76)).alloc (.cells #[.int .i64 A, .int .i64 B, .int .i64 U] 132)) w') := Lib.hid (fun w' hx => ⟨⟨hx.keep (by simp [go_sem]), hx.keep (by simp [go_sem]), hx.keep (by simp [go_sem]), hx.keep (by simp [go_sem]), hx.keep (by simp [go_sem]), hx.keep (by simp [go_sem]), hx.keep (by simp [go_sem]), hx.keep (by simp [go_sem]), hx.keep (by simp [go_sem]), hx.keep (by simp [go_sem]), hx.keep (by simp [go_sem]), hx.keep (by simp [go_sem])⟩, hx⟩)
  have HSf : Hid (∀ w', Ext ((w.alloc (.cells #[.int .i64 cr, .int .i64 va, .int .i64 ne, .int .i64 al, .int .i64 ah, .int .i64 bl, .int .i64 bh, .int .i64 ul, .int .i64 uh] 76)).alloc (.cells #[.int .i64 A, .int .i64 B, .int .i64 U] 132)) w' → ∀ o, w'.frozen? ⟨w.heap.size + 1, o, none⟩ = false) := Lib.hid (fun w' hx o => (hx.frozen (by simp)).trans (by simp [go_sem]))
  have HSz : w.heap.size + 1 + 1 ≤ ((w.alloc (.cells #[.int .i64 cr, .int .i64 va, .int .i64 ne, .int .i64 al, .int .i64 ah, .int .i64 bl, .int .i64 bh, .int .i64 ul, .int .i64 uh] 76)).alloc (.cells #[.int .i64 A, .int .i64 B, .int .i64 U] 132)).heap.size := by simp
  generalize ((w.alloc (.cells #[.int .i64 cr, .int .i64 va, .int .i64 ne, .int .i64 al, .int .i64 ah, .int .i64 bl, .int .i64 bh, .int .i64 ul, .int .i64 uh] 76)).alloc (.cells #[.int .i64 A, .int .i64 B, .int .i64 U] 132)) = W at *
  refine wp_region_quiet (C := Ext W) (by kernel_rfl) (by kernel_rfl) (Ext.drew (by (repeat (first | exact Ext.refl _ | (with_reducible assumption) | (with_reducible refine Ext.drew ?_) | (with_reducible refine Ext.alloc ?_ _) | (with_reducible refine Ext.drewN ?_ _) | (with_reducible refine Ext.setCell ?_ (by omega) _) | (with_reducible refine Ext.trans ?_ (by with_reducible assumption)))))) ?_
  rw [show ∀ (l : List Oper), l.toArray.toList = l from fun l => rfl]
  repeat (first
    | go_big_quiet_skip
    | (go_big_quiet_want
       first
        | (go_big_quiet_op; go_big_quiet_on)
        | (apply Exists.intro
           refine ⟨fun w' hxw => ?_, ?_⟩
           focus (obtain ⟨⟨q0, q1, q2, q3, q4, q5, q6, q7, q8, q9, q10, q11⟩, -⟩ := HS.out w' hxw; go_simp; first | exact rfl | exact (HFA.out w').mono (fun e w'' h => ⟨h.1, h.2 ▸ hxw⟩))
           simp only [Act.put, List.setIfInBounds_toArray, List.set_cons_zero, List.set_cons_succ]
           go_big_quiet_on)))
  refine wpQuiet_nil ?_
  intro w2 hx2
  go_wp2_with fail
  go_ret
  exact ⟨ret_bool HCB.out.symm, X.trans hx2⟩

set_option maxRecDepth 100000 in
set_option maxHeartbeats 2000000 in
theorem Settled_any (f : Fld) (x : Thr) (ha : 0 ≤ x.a ∧ x.a ≤ 100) (hb : 0 ≤ x.b ∧ x.b ≤ 100) (w : World) :
    Calls Tryz.prog 79 #[f.c.val, x.c.val] w fun e w' => e = .returned (.int .i64 (settledS f x)) ∧ Ext w w' := by
  have HIC := Lib.hid (IsCalled_any f x ha hb)
  have HS0 : Hid (calledB f x = false → settledS f x = (x.a + x.b) / 2) := Lib.hid (fun h => by unfold settledS; rw [h]; rfl)
  have HS1 : Hid (calledB f x = true → x.u < x.a → x.u < x.b → settledS f x = min x.a x.b) := Lib.hid settled_low
  have HS2 : Hid (calledB f x = true → x.a < x.u → x.b < x.u → settledS f x = max x.a x.b) := Lib.hid settled_high
  have HS3 : Hid (calledB f x = true → ¬ (x.u < x.a ∧ x.u < x.b) → ¬ (x.a < x.u ∧ x.b < x.u) → settledS f x = x.u) := Lib.hid settled_mid
  generalize settledS f x = st at *
  generalize calledB f x = cb at *
  obtain ⟨cr, va, ne, al, ah, bl, bh, ul, uh⟩ := f
  obtain ⟨A, B, U⟩ := x
  simp only [Fld.c, Thr.c] at *
  go_enter Tryz.func79, Tryz.ntmps79
  go_wp2_with fail
  have X : Ext w ((w.alloc (.cells #[.int .i64 cr, .int .i64 va, .int .i64 ne, .int .i64 al, .int .i64 ah, .int .i64 bl, .int .i64 bh, .int .i64 ul, .int .i64 uh] 76)).alloc (.cells #[.int .i64 A, .int .i64 B, .int .i64 U] 132)) := by (repeat (first | exact Ext.refl _ | (with_reducible assumption) | (with_reducible refine Ext.drew ?_) | (with_reducible refine Ext.alloc ?_ _) | (with_reducible refine Ext.drewN ?_ _) | (with_reducible refine Ext.setCell ?_ (by omega) _) | (with_reducible refine Ext.trans ?_ (by with_reducible assumption))))
  have HS : Hid (∀ w', Ext ((w.alloc (.cells #[.int .i64 cr, .int .i64 va, .int .i64 ne, .int .i64 al, .int .i64 ah, .int .i64 bl, .int .i64 bh, .int .i64 ul, .int .i64 uh] 76)).alloc (.cells #[.int .i64 A, .int .i64 B, .int .i64 U] 132)) w' → (w'.cell? ⟨w.heap.size, 0, none⟩ = some (.int .i64 cr) ∧ w'.cell? ⟨w.heap.size, 1, none⟩ = some (.int .i64 va) ∧ w'.cell? ⟨w.heap.size, 2, none⟩ = some (.int .i64 ne) ∧ w'.cell? ⟨w.heap.size, 3, none⟩ = some (.int .i64 al) ∧ w'.cell? ⟨w.heap.size, 4, none⟩ = some (.int .i64 ah) ∧ w'.cell? ⟨w.heap.size, 5, none⟩ = some (.int .i64 bl) ∧ w'.cell? ⟨w.heap.size, 6, none⟩ = some (.int .i64 bh) ∧ w'.cell? ⟨w.heap.size, 7, none⟩ = some (.int .i64 ul) ∧ w'.cell? ⟨w.heap.size, 8, none⟩ = some (.int .i64 uh) ∧ w'.cell? ⟨w.heap.size + 1, 0, none⟩ = some (.int .i64 A) ∧ w'.cell? ⟨w.heap.size + 1, 1, none⟩ = some (.int .i64 B) ∧ w'.cell? ⟨w.heap.size + 1, 2, none⟩ = some (.int .i64 U)) ∧ Ext ((w.alloc (.cells #[.int .i64 cr, .int .i64 va, .int .i64 ne, .int .i64 al, .int .i64 ah, .int .i64 bl, .int .i64 bh, .int .i64 ul, .int .i64 uh] 76)).alloc (.cells #[.int .i64 A, .int .i64 B, .int .i64 U] 132)) w') := Lib.hid (fun w' hx => ⟨⟨hx.keep (by simp [go_sem]), hx.keep (by simp [go_sem]), hx.keep (by simp [go_sem]), hx.keep (by simp [go_sem]), hx.keep (by simp [go_sem]), hx.keep (by simp [go_sem]), hx.keep (by simp [go_sem]), hx.keep (by simp [go_sem]), hx.keep (by simp [go_sem]), hx.keep (by simp [go_sem]), hx.keep (by simp [go_sem]), hx.keep (by simp [go_sem])⟩, hx⟩)
  have HSf : Hid (∀ w', Ext ((w.alloc (.cells #[.int .i64 cr, .int .i64 va, .int .i64 ne, .int .i64 al, .int .i64 ah, .int .i64 bl, .int .i64 bh, .int .i64 ul, .int .i64 uh] 76)).alloc (.cells #[.int .i64 A, .int .i64 B, .int .i64 U] 132)) w' → ∀ o, w'.frozen? ⟨w.heap.size + 1, o, none⟩ = false) := Lib.hid (fun w' hx o => (hx.frozen (by simp)).trans (by simp [go_sem]))
  have HSz : w.heap.size + 1 + 1 ≤ ((w.alloc (.cells #[.int .i64 cr, .int .i64 va, .int .i64 ne, .int .i64 al, .int .i64 ah, .int .i64 bl, .int .i64 bh, .int .i64 ul, .int .i64 uh] 76)).alloc (.cells #[.int .i64 A, .int .i64 B, .int .i64 U] 132)).heap.size := by simp
  generalize ((w.alloc (.cells #[.int .i64 cr, .int .i64 va, .int .i64 ne, .int .i64 al, .int .i64 ah, .int .i64 bl, .int .i64 bh, .int .i64 ul, .int .i64 uh] 76)).alloc (.cells #[.int .i64 A, .int .i64 B, .int .i64 U] 132)) = W at *
  (with_reducible refine (HIC.out _).mono ?_)
  rintro e w2 ⟨rfl, hx2⟩
  have XX := X.trans hx2
  obtain ⟨⟨-, -, -, -, -, -, -, -, -, q0, q1, q2⟩, -⟩ := HS.out w2 hx2
  clear HS hx2 X HIC
  cases cb with
  | false =>
    have HE := Lib.hid (HS0.out rfl)
    clear HS0 HS1 HS2 HS3
    go_wp2_with fail
    go_ret
    exact ⟨ret_int HE.out.symm, XX⟩
  | true =>
    obtain ⟨lw, hlw⟩ : ∃ lw, lw = min A B := ⟨_, rfl⟩
    obtain ⟨hg, hhg⟩ : ∃ hg, hg = max A B := ⟨_, rfl⟩
    have hmn : ∀ w, (Builtin.min_ #[3, 3] 3 #[.int .i64 A, .int .i64 B]).run Tryz.prog w = .ok (.int .i64 lw) w := fun w => umin_i64 (by split <;> omega) _ _ _
    have hmx : ∀ w, (Builtin.max_ #[3, 3] 3 #[.int .i64 A, .int .i64 B]).run Tryz.prog w = .ok (.int .i64 hg) w := fun w => umax_i64 (by split <;> omega) _ _ _
    have HLW := Lib.hid hlw
    have HHG := Lib.hid hhg
    clear hlw hhg HS0 ha hb
    by_cases l1 : U < A
    · by_cases l2 : U < B
      · have HE : Hid (lw = st) := Lib.hid (by rw [HS1.out rfl l1 l2, HLW.out])
        clear HS1 HS2 HS3
        go_wp2_with fail
        go_ret
        exact ⟨ret_int HE.out, XX⟩
      · have HE : Hid (U = st) := Lib.hid (HS3.out rfl (by omega) (by omega)).symm
        have l3 : ¬ A < U := by omega
        clear HS1 HS2 HS3
        go_wp2_with fail
        go_ret
        exact ⟨ret_int HE.out, XX⟩
    · by_cases l3 : A < U
      · by_cases l4 : B < U
        · have HE : Hid (hg = st) := Lib.hid (by rw [HS2.out rfl l3 l4, HHG.out])
          clear HS1 HS2 HS3
          go_wp2_with fail
          go_ret
          exact ⟨ret_int HE.out, XX⟩
        · have HE : Hid (U = st) := Lib.hid (HS3.out rfl (by omega) (by omega)).symm
          clear HS1 HS2 HS3
          go_wp2_with fail
          go_ret
          exact ⟨ret_int HE.out, XX⟩
      · have HE : Hid (U = st) := Lib.hid (HS3.out rfl (by omega) (by omega)).symm
        clear HS1 HS2 HS3
        go_wp2_with fail
        go_ret
        exact ⟨ret_int HE.out, XX⟩

set_option maxRecDepth 100000 in
set_option maxHeartbeats 2000000 in
theorem RPay_any (c : Cas) (v : Value) (f : Fld) (n : Int) (w : World) (hv : CasV w v c) (hc : CasOK c) (h0 : checkS c.tars = 0) (hf : FldOK c.tars f) (hn : 0 ≤ n ∧ n ≤ 100) :
    Calls Tryz.prog 80 #[v, f.c.val, .int .i64 n] w fun e w' => e = .returned (.int .i64 (payC c f n)) ∧ Ext w w' := by
  have hcl : claimB c.tars (claimF c f n) = true := claimF_iff.2 ⟨hf.crop, hf.value, hc.day, hn⟩
  have HP : Hid (payC c f n = payI f.value (partS c.tars f.crop c.day n)) := Lib.hid (payC_eq h0 hcl)
  have hpb := partS_bd hc.tars hf.crop.1 hf.crop.2 hc.day.1 hn.1 hn.2
  have hvb := hf.value
  obtain ⟨a1, c1, a2, c2, rfl, hvt, -, -, -, -⟩ := hv.open
  have HPT : Hid (∀ W, Ext w W → Calls Tryz.prog 94 #[.slice a1 c.tars.length c1, .int .i64 f.crop, .int .i64 c.day, .int .i64 n] W fun e w' => e = .returned (.int .i64 (partS c.tars f.crop c.day n)) ∧ Ext W w') :=
    Lib.hid (fun W hx => RefPart_any _ c.tars f.crop c.day n W (hvt.ext hx) hc.tars hf.crop.1 hf.crop.2 hc.day.1 hn.1 hn.2)
  have hm := pay_wrap hvb.1 hvb.2 hpb.1 hpb.2
  clear hcl hpb hvb hv hvt hc h0 hf hn
  generalize payC c f n = pc at *
  generalize partS c.tars f.crop c.day n = ps at *
  obtain ⟨cr, va, ne, al, ah, bl, bh, ul, uh⟩ := f
  simp only [Fld.c, casV] at *
  go_enter Tryz.func80, Tryz.ntmps80
  go_wp2_with fail
  have X : Ext w ((w.alloc (.cells #[.slice a1 c.tars.length c1, .int .i64 c.day, .int .i64 c.fee, .slice a2 c.flds.length c2] 25)).alloc (.cells #[.int .i64 cr, .int .i64 va, .int .i64 ne, .int .i64 al, .int .i64 ah, .int .i64 bl, .int .i64 bh, .int .i64 ul, .int .i64 uh] 76)) := by (repeat (first | exact Ext.refl _ | (with_reducible assumption) | (with_reducible refine Ext.drew ?_) | (with_reducible refine Ext.alloc ?_ _) | (with_reducible refine Ext.drewN ?_ _) | (with_reducible refine Ext.setCell ?_ (by omega) _) | (with_reducible refine Ext.trans ?_ (by with_reducible assumption))))
  have HS : Hid (∀ w', Ext ((w.alloc (.cells #[.slice a1 c.tars.length c1, .int .i64 c.day, .int .i64 c.fee, .slice a2 c.flds.length c2] 25)).alloc (.cells #[.int .i64 cr, .int .i64 va, .int .i64 ne, .int .i64 al, .int .i64 ah, .int .i64 bl, .int .i64 bh, .int .i64 ul, .int .i64 uh] 76)) w' → (w'.cell? ⟨w.heap.size, 0, none⟩ = some (.slice a1 c.tars.length c1) ∧ w'.cell? ⟨w.heap.size, 1, none⟩ = some (.int .i64 c.day) ∧ w'.cell? ⟨w.heap.size, 2, none⟩ = some (.int .i64 c.fee) ∧ w'.cell? ⟨w.heap.size, 3, none⟩ = some (.slice a2 c.flds.length c2) ∧ w'.cell? ⟨w.heap.size + 1, 0, none⟩ = some (.int .i64 cr) ∧ w'.cell? ⟨w.heap.size + 1, 1, none⟩ = some (.int .i64 va) ∧ w'.cell? ⟨w.heap.size + 1, 2, none⟩ = some (.int .i64 ne) ∧ w'.cell? ⟨w.heap.size + 1, 3, none⟩ = some (.int .i64 al) ∧ w'.cell? ⟨w.heap.size + 1, 4, none⟩ = some (.int .i64 ah) ∧ w'.cell? ⟨w.heap.size + 1, 5, none⟩ = some (.int .i64 bl) ∧ w'.cell? ⟨w.heap.size + 1, 6, none⟩ = some (.int .i64 bh) ∧ w'.cell? ⟨w.heap.size + 1, 7, none⟩ = some (.int .i64 ul) ∧ w'.cell? ⟨w.heap.size + 1, 8, none⟩ = some (.int .i64 uh)) ∧ Ext ((w.alloc (.cells #[.slice a1 c.tars.length c1, .int .i64 c.day, .int .i64 c.fee, .slice a2 c.flds.length c2] 25)).alloc (.cells #[.int .i64 cr, .int .i64 va, .int .i64 ne, .int .i64 al, .int .i64 ah, .int .i64 bl, .int .i64 bh, .int .i64 ul, .int .i64 uh] 76)) w') := Lib.hid (fun w' hx => ⟨⟨hx.keep (by simp [go_sem]), hx.keep (by simp [go_sem]), hx.keep (by simp [go_sem]), hx.keep (by simp [go_sem]), hx.keep (by simp [go_sem]), hx.keep (by simp [go_sem]), hx.keep (by simp [go_sem]), hx.keep (by simp [go_sem]), hx.keep (by simp [go_sem]), hx.keep (by simp [go_sem]), hx.keep (by simp [go_sem]), hx.keep (by simp [go_sem]), hx.keep (by simp [go_sem])⟩, hx⟩)
  have HSf : Hid (∀ w', Ext ((w.alloc (.cells #[.slice a1 c.tars.length c1, .int .i64 c.day, .int .i64 c.fee, .slice a2 c.flds.length c2] 25)).alloc (.cells #[.int .i64 cr, .int .i64 va, .int .i64 ne, .int .i64 al, .int .i64 ah, .int .i64 bl, .int .i64 bh, .int .i64 ul, .int .i64 uh] 76)) w' → ∀ o, w'.frozen? ⟨w.heap.size + 1, o, none⟩ = false) := Lib.hid (fun w' hx o => (hx.frozen (by simp)).trans (by simp [go_sem]))
  have HSz : w.heap.size + 1 + 1 ≤ ((w.alloc (.cells #[.slice a1 c.tars.length c1, .int .i64 c.day, .int .i64 c.fee, .slice a2 c.flds.length c2] 25)).alloc (.cells #[.int .i64 cr, .int .i64 va, .int .i64 ne, .int .i64 al, .int .i64 ah, .int .i64 bl, .int .i64 bh, .int .i64 ul, .int .i64 uh] 76)).heap.size := by simp
  generalize ((w.alloc (.cells #[.slice a1 c.tars.length c1, .int .i64 c.day, .int .i64 c.fee, .slice a2 c.flds.length c2] 25)).alloc (.cells #[.int .i64 cr, .int .i64 va, .int .i64 ne, .int .i64 al, .int .i64 ah, .int .i64 bl, .int .i64 bh, .int .i64 ul, .int .i64 uh] 76)) = W at *
  refine wp_region_quiet (C := Ext W) (by kernel_rfl) (by kernel_rfl) (Ext.drew (by (repeat (first | exact Ext.refl _ | (with_reducible assumption) | (with_reducible refine Ext.drew ?_) | (with_reducible refine Ext.alloc ?_ _) | (with_reducible refine Ext.drewN ?_ _) | (with_reducible refine Ext.setCell ?_ (by omega) _) | (with_reducible refine Ext.trans ?_ (by with_reducible assumption)))))) ?_
  rw [show ∀ (l : List Oper), l.toArray.toList = l from fun l => rfl]
  repeat (first
    | go_big_quiet_skip
    | (go_big_quiet_want
       first
        | (go_big_quiet_op; go_big_quiet_on)
        | (apply Exists.intro
           refine ⟨fun w' hxw => ?_, ?_⟩
           focus (obtain ⟨⟨q0, q1, q2, q3, q4, q5, q6, q7, q8, q9, q10, q11, q12⟩, -⟩ := HS.out w' hxw; go_simp; first | exact rfl | exact (HPT.out w' (X.trans hxw)).mono (fun e w'' h => ⟨h.1, hxw.trans h.2⟩))
           simp only [Act.put, List.setIfInBounds_toArray, List.set_cons_zero, List.set_cons_succ]
           go_big_quiet_on)))
  refine wpQuiet_nil ?_
  intro w2 hx2
  go_wp2_with fail
  go_ret
  exact ⟨ret_int ((pay_fin hm.1 hm.2).trans HP.out.symm), X.trans hx2⟩

end Go.Proofs.YtedblocbcjoolaaGreat
