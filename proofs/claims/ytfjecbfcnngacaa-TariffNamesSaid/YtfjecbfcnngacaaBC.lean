/- Contracts: what the laws ask first. -/
import Derived.Test.YtfjecbfcnngacaaBBC
import Derived.Test.YtfjecbfcnngacaaAH
import Derived.Test.YtfjecbfcnngacaaAE
namespace Go.Hs
open Go.RowKit
theorem SliceW.ext {α : Type} {R : World → Nat → Nat → α → Prop} {k : Nat} {w w' : World} {v : Value} {xs : List α} (hR : ∀ b o x, R w b o x → R w' b o x) (h : SliceW R k w v xs) : SliceW R k w' v xs :=
  let ⟨a, cap, he, h1, h2, hr⟩ := h; ⟨a, cap, he, h1, h2, hr.ext hR⟩
theorem IntsW.ext {w w' : World} {v : Value} {xs : List Int} (h : Ext w w') (k : IntsW w v xs) : IntsW w' v xs := SliceW.ext (IntAt.ext h) k
theorem IntsAtW.ext {w w' : World} (h : Ext w w') (b o : Nat) (xs : List Int) (k : IntsAtW w b o xs) : IntsAtW w' b o xs := let ⟨v, h1, h2⟩ := k; ⟨v, h.keep h1, h2.ext h⟩
theorem Ints2W.ext {w w' : World} {v : Value} {xs : List (List Int)} (h : Ext w w') (k : Ints2W w v xs) : Ints2W w' v xs := SliceW.ext (IntsAtW.ext h) k
theorem Ints2AtW.ext {w w' : World} (h : Ext w w') (b o : Nat) (xs : List (List Int)) (k : Ints2AtW w b o xs) : Ints2AtW w' b o xs := let ⟨v, h1, h2⟩ := k; ⟨v, h.keep h1, h2.ext h⟩
theorem Ints3W.ext {w w' : World} {v : Value} {xs : List (List (List Int))} (h : Ext w w') (k : Ints3W w v xs) : Ints3W w' v xs := SliceW.ext (Ints2AtW.ext h) k
theorem TarAtW.ext {w w' : World} (h : Ext w w') (b o : Nat) (t : Tar) (k : TarAtW w b o t) : TarAtW w' b o t := by
  obtain ⟨c3, c4, c5, h0, h1, h2, h3, h4, h5, hc⟩ := k
  exact ⟨c3, c4, c5, h.keep h0, h.keep h1, h.keep h2, h.keep h3, h.keep h4, h.keep h5, hc.f, hc.l, hc.weeks.ext h, hc.counts.ext h, hc.rates.ext h⟩
theorem TarsW.ext {w w' : World} {v : Value} {xs : List Tar} (h : Ext w w') (k : TarsW w v xs) : TarsW w' v xs := SliceW.ext (TarAtW.ext h) k
end Go.Hs
namespace Go.Proofs.Ytfjecbfcnngacaa
open Go.RowKit Go.Hs
attribute [local irreducible] World.setCell World.alloc

def readyB (l : List Tar) : Bool := thinB l && (checkS l == 0)
def fineB (l : List Tar) (c : Cla) : Bool := thinB l && (askS1 l c == 0)
theorem ready_of {l : List Tar} (h : readyB l = true) : thinB l = true ∧ ValidL l := by
  simp only [readyB, Bool.and_eq_true, beq_iff_eq] at h
  exact ⟨h.1, validL_of h.2⟩
theorem askS1_zero {l : List Tar} {c : Cla} (h : askS1 l c = 0) : checkS l = 0 ∧ claimB l c = true := by
  unfold askS1 at h
  split at h
  · rename_i h0; exact absurd h h0
  · rename_i h0
    split at h
    · rename_i h1; exact ⟨by omega, h1⟩
    · omega
theorem fine_of {l : List Tar} {c : Cla} (h : fineB l c = true) : thinB l = true ∧ ValidL l ∧ ClaimOK l c := by
  simp only [fineB, Bool.and_eq_true, beq_iff_eq] at h
  obtain ⟨h1, h2⟩ := askS1_zero h.2
  exact ⟨h.1, validL_of h1, claimB_iff.1 h2⟩

theorem ready_any (v : Value) (l : List Tar) (w : World) (hv : TarsW w v l) :
    Calls Try.prog 36 #[v] w fun e w' => e = .returned (.bool (readyB l)) ∧ Ext w w' := by
  have hth := Thin_any v l w hv
  have HB : Hid (readyB l = (thinB l && (checkS l == 0))) := rfl
  cases ht : thinB l with
  | false =>
    have HE : Hid (readyB l = false) := Lib.hid (by rw [HB.out, ht]; rfl)
    rw [ht] at hth
    obtain ⟨a, c, rfl, -⟩ := hv
    clear ht HB
    generalize readyB l = res at *
    go_enter Try.func36, Try.ntmps36
    go_wp2_with fail
    (with_reducible refine hth.mono ?_)
    rintro e w1 ⟨rfl, rfl⟩
    go_wp2_with fail
    go_ret
    exact ⟨ret_bool HE.out.symm, Ext.refl _⟩
  | true =>
    have HE : Hid (readyB l = (checkS l == 0)) := Lib.hid (by rw [HB.out, ht]; rfl)
    rw [ht] at hth
    have hfa := fault_any v l w (hv.toV ht)
    obtain ⟨a, c, rfl, -⟩ := hv
    clear ht HB
    generalize readyB l = res at *
    generalize checkS l = r at *
    go_enter Try.func36, Try.ntmps36
    go_wp2_with fail
    (with_reducible refine hth.mono ?_)
    rintro e w1 ⟨rfl, rfl⟩
    go_wp2_with fail
    (with_reducible refine hfa.mono ?_)
    rintro e w1 ⟨rfl, hx⟩
    go_wp2_with fail
    go_ret
    exact ⟨ret_bool HE.out.symm, hx⟩

set_option maxRecDepth 100000 in
theorem fine_any (v : Value) (l : List Tar) (c : Cla) (w : World) (hv : TarsW w v l) :
    Calls Try.prog 41 #[v, c.u.val] w fun e w' => e = .returned (.bool (fineB l c)) ∧ Ext w w' := by
  have hth := fun W (hx : Ext w W) => Thin_any v l W (TarsW.ext hx hv)
  have HB : Hid (fineB l c = (thinB l && (askS1 l c == 0))) := rfl
  have X : Ext w (w.alloc (.cells #[.int .i64 c.crop, .int .i64 c.value, .int .i64 c.dlo, .int .i64 c.dhi, .int .i64 c.clo, .int .i64 c.chi] 39)) := by (repeat (first | exact Ext.refl _ | (with_reducible assumption) | (with_reducible refine Ext.drew ?_) | (with_reducible refine Ext.alloc ?_ _) | (with_reducible refine Ext.drewN ?_ _) | (with_reducible refine Ext.setCell ?_ (by omega) _) | (with_reducible refine Ext.trans ?_ (by with_reducible assumption))))
  have hth := hth _ X
  cases ht : thinB l with
  | false =>
    have HE : Hid (fineB l c = false) := Lib.hid (by rw [HB.out, ht]; rfl)
    rw [ht] at hth
    obtain ⟨a, k, rfl, -⟩ := hv
    clear ht HB
    generalize fineB l c = res at *
    obtain ⟨cr, va, dl, dh, cl, ch⟩ := c
    go_enter Try.func41, Try.ntmps41
    go_wp2_with fail
    (with_reducible refine hth.mono ?_)
    rintro e w1 ⟨rfl, rfl⟩
    go_wp2_with fail
    go_ret
    exact ⟨ret_bool HE.out.symm, X⟩
  | true =>
    have HE : Hid (fineB l c = (askS1 l c == 0)) := Lib.hid (by rw [HB.out, ht]; rfl)
    rw [ht] at hth
    have hfa := claimed_any v l c _ ((hv.toV ht).ext X)
    obtain ⟨a, k, rfl, -⟩ := hv
    clear ht HB
    generalize fineB l c = res at *
    generalize askS1 l c = r at *
    obtain ⟨cr, va, dl, dh, cl, ch⟩ := c
    go_enter Try.func41, Try.ntmps41
    go_wp2_with fail
    (with_reducible refine hth.mono ?_)
    rintro e w1 ⟨rfl, rfl⟩
    go_wp2_with fail
    (with_reducible refine hfa.mono ?_)
    rintro e w1 ⟨rfl, hx⟩
    go_wp2_with fail
    go_ret
    exact ⟨ret_bool HE.out.symm, X.trans hx⟩

theorem PartOK_any (v : Value) (l : List Tar) (c d n : Int) (w : World) (hv : TarsV w v l) (hl : ValidL l) (h0 : 0 ≤ c) (h1 : c < cropsN l) (hd0 : 0 ≤ d) (hd1 : d ≤ 120) (hn0 : 0 ≤ n) (hn1 : n ≤ 100) :
    Calls Try.prog 20 #[v, .int .i64 c, .int .i64 d, .int .i64 n] w fun e w' => e = .returned (.tuple #[.int .i64 (partS l c d n), .int .i64 0]) ∧ Ext w w' := by
  have e : partR l c d n = .tuple #[.int .i64 (partS l c d n), .int .i64 0] := by
    have ha : askB l c d n = true := by
      simp only [askB, Bool.and_eq_true, inR_iff]
      exact ⟨⟨⟨h0, by omega⟩, hd0, hd1⟩, hn0, hn1⟩
    unfold partR
    rw [if_pos hl.check, if_pos ha]
  rw [← e]
  exact Part_any v l c d n w hv
end Go.Proofs.Ytfjecbfcnngacaa
