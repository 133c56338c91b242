/- The reference's small functions: ranges, rising lists, the last number. -/
import Derived.Test.YtfjecbfcnngacaaH
import Derived.Test.YtfjecbfcnngacaaO
namespace Go.Hs
open Go.RowKit
def goodI (xs : List Int) (most : Int) (k : Nat) : Prop := inR (xs.getD k 0) 0 most = true ∧ (0 < k → xs.getD (k - 1) 0 < xs.getD k 0)
theorem rises_bad {xs : List Int} {most : Int} (hm : most ≤ 1000) {k : Nat} (hk : k < xs.length) (h : ¬ goodI xs most k) : risesB xs most = false := by
  rw [← Bool.not_eq_true, risesB_iff hm]
  intro r
  refine h ⟨inR_iff.2 (r.bound k hk), fun h0 => r.strict _ _ (by omega) hk⟩
theorem rises_good {xs : List Int} {most : Int} (hm : most ≤ 1000) (h : ∀ k, k < xs.length → goodI xs most k) : risesB xs most = (decide (0 < xs.length) && (xs.getD 0 0 == 0)) := by
  rw [Bool.eq_iff_iff, risesB_iff hm]
  simp only [Bool.and_eq_true, decide_eq_true_eq, beq_iff_eq]
  constructor
  · exact fun r => ⟨r.pos, r.first⟩
  · rintro ⟨h1, h2⟩
    refine ⟨h1, h2, strict_of_step (f := fun i => xs.getD i 0) (n := xs.length) (fun i hi => ?_), fun i hi => inR_iff.1 (h i hi).1⟩
    have := (h (i + 1) hi).2 (by omega)
    simpa using this
/-- Where the last number lies that is at most another one. -/
structure LastP (xs : List Int) (n : Int) (i : Nat) : Prop where
  lt : i = 0 ∨ i < xs.length
  le : ∀ m, 1 ≤ m → m ≤ i → xs.getD m 0 ≤ n
  gt : i + 1 < xs.length → n < xs.getD (i + 1) 0
end Go.Hs
namespace Go.Proofs.Ytfjecbfcnngacaa
open Go.RowKit Go.Hs
attribute [local irreducible] World.setCell World.alloc

theorem In_any (n lo hi : Int) (w : World) :
    Calls Try.prog 24 #[.int .i64 n, .int .i64 lo, .int .i64 hi] w fun e w' => e = .returned (.bool (inR n lo hi)) ∧ w = w' := by
  by_cases h : lo ≤ n
  · go_enter Try.func24, Try.ntmps24
    go_wp2
    go_ret
    exact ⟨ret_bool (by simp [inR, h]), rfl⟩
  · go_enter Try.func24, Try.ntmps24
    go_wp2
    go_ret
    exact ⟨ret_bool (by have : ¬ lo ≤ n := by omega
                        simp [inR, this]), rfl⟩

set_option maxHeartbeats 1000000 in
theorem Last_any (v : Value) (xs : List Int) (n : Int) (w : World) (hv : IntsV w v xs) :
    Calls Try.prog 39 #[v, .int .i64 n] w fun e w' => (∃ i : Nat, LastP xs n i ∧ e = .returned (.int .i64 i)) ∧ w = w' := by
  obtain ⟨a, c, rfl, h1, h2, hr⟩ := hv
  have hcell : ∀ i, i < xs.length → ∃ b off, a = some ⟨b, off, none⟩ ∧ w.cell? ⟨b, off + i, none⟩ = some (.int .i64 (xs.getD i 0)) := by
    intro i hi
    obtain ⟨b, off, he, hc⟩ := hr i hi
    exact ⟨b, off, he, by have := hc.1; simpa [hi] using this⟩
  have HC := Lib.hid hcell
  clear hcell hr
  go_enter Try.func39, Try.ntmps39
  go_wp2_with fail
  go_loop [5] (fun s5 => ∃ i : Nat, (i = 0 ∨ i < xs.length) ∧ s5 = .int .i64 i ∧ Hid (∀ m, 1 ≤ m → m ≤ i → xs.getD m 0 ≤ n)) (fun s => xs.length - (intOf s).toNat)
  case atStart => exact ⟨0, .inl rfl, rfl, fun m h1 h2 => by omega⟩
  case round =>
    obtain ⟨i, hi, rfl, HI⟩ := hrel
    by_cases hlt : i + 1 < xs.length
    · obtain ⟨b, off, rfl, hc⟩ := HC.out (i + 1) hlt
      have hn : Hid (xs.getD (i + 1) 0 ≤ n → ∀ m, 1 ≤ m → m ≤ i + 1 → xs.getD m 0 ≤ n) := fun h m h1 h2 => by
        by_cases e : m = i + 1
        · rw [e]; exact h
        · exact HI.out m h1 (by omega)
      have hg : Hid (n < xs.getD (i + 1) 0 → LastP xs n i) := fun h => ⟨hi, HI.out, fun _ => h⟩
      have hc' : w.cell? ⟨b, off + i + 1, none⟩ = some (.int .i64 (xs.getD (i + 1) 0)) := by rw [Nat.add_assoc]; exact hc
      generalize xs.getD (i + 1) 0 = x at *
      by_cases hx : x ≤ n
      · go_wp2_with fail
        go_round
        case rel => exact ⟨i + 1, by omega, by go_num, hn.out hx⟩
        case measure => simp [intOf]; omega
      · have HG := Lib.hid (hg.out (by omega))
        go_wp2_with fail
        go_ret
        exact ⟨⟨i, HG.out, rfl⟩, rfl⟩
    · have HG : Hid (LastP xs n i) := ⟨hi, HI.out, fun h => absurd h hlt⟩
      go_wp2_with fail
      go_ret
      exact ⟨⟨i, HG.out, rfl⟩, rfl⟩

theorem Crops_any (v : Value) (l : List Tar) (w : World) (hv : TarsV w v l) (hl : 0 < l.length) :
    Calls Try.prog 25 #[v] w fun e w' => e = .returned (.int .i64 (cropsN l)) ∧ w = w' := by
  obtain ⟨a, c, rfl, h1, h2, hr⟩ := hv
  obtain ⟨b, off, rfl, ht⟩ := hr 0 hl
  obtain ⟨a3, k3, a4, k4, a5, k5, m0, m1, m2, m3, m4, m5, mc⟩ := ht.open
  have e : l[0].rates.length = cropsN l := by simp [cropsN, hl]
  rw [e] at m5
  simp only [Nat.zero_mul, Nat.add_zero] at m5
  clear hr ht mc m0 m1 m2 m3 m4 e
  go_enter Try.func25, Try.ntmps25
  go_wp2_with fail
  go_ret
  exact ⟨rfl, rfl⟩

set_option maxRecDepth 100000 in
set_option maxHeartbeats 1000000 in
theorem Rises_any (v : Value) (xs : List Int) (most : Int) (w : World) (hv : IntsV w v xs) (hm : most ≤ 1000) :
    Calls Try.prog 98 #[v, .int .i64 most] w fun e w' => e = .returned (.bool (risesB xs most)) ∧ Ext w w' := by
  obtain ⟨a, c, rfl, h1, h2, hr⟩ := hv
  have HC : Hid (∀ i, i < xs.length → ∃ b off, a = some ⟨b, off, none⟩ ∧ w.cell? ⟨b, off + i, none⟩ = some (.int .i64 (xs.getD i 0))) := by
    refine Lib.hid ?_
    intro i hi
    obtain ⟨b, off, he, hc⟩ := hr i hi
    exact ⟨b, off, he, by have := hc.1; simpa [hi] using this⟩
  clear hr
  have HB : Hid (∀ k, k < xs.length → ¬ goodI xs most k → risesB xs most = false) := fun k => rises_bad hm
  have HG : Hid ((∀ k, k < xs.length → goodI xs most k) → risesB xs most = (decide (0 < xs.length) && (xs.getD 0 0 == 0))) := rises_good hm
  generalize risesB xs most = res at *
  go_enter Try.func98, Try.ntmps98
  go_wp2_with fail
  go_loopw [5] (fun s5 wr => ∃ k : Nat, k ≤ xs.length ∧ s5 = .int .i64 k ∧ Hid (∀ m, m < k → goodI xs most m) ∧ Ext w wr) (fun s _ => xs.length - (intOf s).toNat)
  case atStart => exact ⟨0, Nat.zero_le _, rfl, fun m h => absurd h (Nat.not_lt_zero _), Ext.refl _⟩
  case round =>
    obtain ⟨k, hk, rfl, HI, hx⟩ := hrel
    by_cases hlt : k < xs.length
    · obtain ⟨b, off, rfl, hc⟩ := HC.out k hlt
      have hcr := hx.keep hc
      have HBk : Hid (¬ goodI xs most k → res = false) := HB.out k hlt
      cases hin : inR (xs.getD k 0) 0 most with
      | false =>
        have HE : Hid (res = false) := HBk.out (fun g => by have := g.1; rw [hin] at this; cases this)
        generalize xs.getD k 0 = x at *
        have HIN : Hid (∀ W, Calls Try.prog 24 #[.int .i64 x, .int .i64 0, .int .i64 most] W fun e w' => e = .returned (.bool false) ∧ w' = W) := fun W => (In_any x 0 most W).mono fun e w' h => ⟨h.1.trans (by rw [hin]), h.2.symm⟩
        clear hin
        go_wp2_with fail
        go_upto_region 4 with fail
        go_quiet (first | (go_at_call 24; refine Calls.quiet_of_same (HIN.out _)))
        go_wp2_with fail
        go_ret
        exact ⟨congrArg (fun x => Ending.returned (.bool x)) HE.out.symm, by (repeat (first | exact Ext.refl _ | (with_reducible assumption) | (with_reducible refine Ext.drew ?_) | (with_reducible refine Ext.alloc ?_ _) | (with_reducible refine Ext.drewN ?_ _) | (with_reducible refine Ext.setCell ?_ (by omega) _) | (with_reducible refine Ext.trans ?_ (by with_reducible assumption))))⟩
      | true =>
        have HIN : Hid (∀ W, Calls Try.prog 24 #[.int .i64 (xs.getD k 0), .int .i64 0, .int .i64 most] W fun e w' => e = .returned (.bool true) ∧ w' = W) := fun W => (In_any _ 0 most W).mono fun e w' h => ⟨h.1.trans (by rw [hin]), h.2.symm⟩
        by_cases hk0 : k = 0
        · subst hk0
          have HE : Hid (∀ m, m < 0 + 1 → goodI xs most m) := upTo_next (fun m h => absurd h (Nat.not_lt_zero _)) ⟨hin, fun h => absurd h (Nat.lt_irrefl _)⟩
          simp only [Nat.add_zero] at hcr hc
          generalize xs.getD 0 0 = x at *
          clear hin
          go_wp2_with fail
          go_upto_region 4 with fail
          go_quiet (first | (go_at_call 24; refine Calls.quiet_of_same (HIN.out _)))
          go_wp2_with fail
          go_roundw
          case rel => exact ⟨0 + 1, by omega, by go_num, HE.out, by (repeat (first | exact Ext.refl _ | (with_reducible assumption) | (with_reducible refine Ext.drew ?_) | (with_reducible refine Ext.alloc ?_ _) | (with_reducible refine Ext.drewN ?_ _) | (with_reducible refine Ext.setCell ?_ (by omega) _) | (with_reducible refine Ext.trans ?_ (by with_reducible assumption))))⟩
          case measure => simp [intOf]; omega
        · obtain ⟨m, rfl⟩ : ∃ m, k = m + 1 := ⟨k - 1, by omega⟩
          obtain ⟨b', off', he, hc'⟩ := HC.out m (by omega)
          cases he
          have hcr' := hx.keep hc'
          clear hc hc' hk0
          have HE : Hid (xs.getD m 0 < xs.getD (m + 1) 0 → ∀ i, i < m + 1 + 1 → goodI xs most i) := fun h => upTo_next HI.out ⟨hin, fun _ => h⟩
          have HF : Hid (¬ xs.getD m 0 < xs.getD (m + 1) 0 → res = false) := fun h => HBk.out (fun g => h (by have := g.2 (by omega); simpa using this))
          generalize xs.getD (m + 1) 0 = x at *
          generalize xs.getD m 0 = y at *
          clear hin
          by_cases hyx : y < x
          · have hle : ¬ x ≤ y := by omega
            go_wp2_with fail
            go_upto_region 4 with fail
            go_quiet (first | (go_at_call 24; refine Calls.quiet_of_same (HIN.out _)))
            go_wp2_with fail
            go_roundw
            case rel => exact ⟨m + 1 + 1, by omega, by go_num, HE.out hyx, by (repeat (first | exact Ext.refl _ | (with_reducible assumption) | (with_reducible refine Ext.drew ?_) | (with_reducible refine Ext.alloc ?_ _) | (with_reducible refine Ext.drewN ?_ _) | (with_reducible refine Ext.setCell ?_ (by omega) _) | (with_reducible refine Ext.trans ?_ (by with_reducible assumption))))⟩
            case measure => simp [intOf]; omega
          · have hle : x ≤ y := by omega
            have HR := Lib.hid (HF.out hyx)
            go_wp2_with fail
            go_upto_region 4 with fail
            go_quiet (first | (go_at_call 24; refine Calls.quiet_of_same (HIN.out _)))
            go_wp2_with fail
            go_ret
            exact ⟨congrArg (fun x => Ending.returned (.bool x)) HR.out.symm, by (repeat (first | exact Ext.refl _ | (with_reducible assumption) | (with_reducible refine Ext.drew ?_) | (with_reducible refine Ext.alloc ?_ _) | (with_reducible refine Ext.drewN ?_ _) | (with_reducible refine Ext.setCell ?_ (by omega) _) | (with_reducible refine Ext.trans ?_ (by with_reducible assumption))))⟩
    · have e : k = xs.length := by omega
      subst e
      have HE := Lib.hid (HG.out HI.out)
      by_cases hpos : 0 < xs.length
      · obtain ⟨b, off, rfl, hc⟩ := HC.out 0 hpos
        have hcr := hx.keep hc
        simp only [Nat.add_zero] at hcr
        clear hc
        have HE' : Hid (res = (xs.getD 0 0 == 0)) := by
          refine Lib.hid ?_
          rw [HE.out]; simp [hpos]
        generalize xs.getD 0 0 = x at *
        go_wp2_with fail
        go_ret
        exact ⟨congrArg (fun x => Ending.returned (.bool x)) HE'.out.symm, hx⟩
      · have HE' : Hid (res = false) := by
          refine Lib.hid ?_
          rw [HE.out]; simp [hpos]
        go_wp2_with fail
        go_ret
        exact ⟨congrArg (fun x => Ending.returned (.bool x)) HE'.out.symm, hx⟩
end Go.Proofs.Ytfjecbfcnngacaa
