/- Bundled: what the texts VS VQ AH OE VR XA VJ VM say one after another. -/
import Derived.Test.YtedblocbcjoolaaKB6
import Derived.Test.YtedblocbcjoolaaKB7
import Derived.Test.YtedblocbcjoolaaKB8
import Derived.KernelRfl
import Derived.Test.YtedblocbcjoolaaKB5
import Derived.Test.YtedblocbcjoolaaKB4
import Derived.Test.YtedblocbcjoolaaKB1
import Derived.Test.YtedblocbcjoolaaKB3
import Derived.Deep.AppendLies
import Derived.RegionTactic
import Derived.Deep.RegionWith
set_option linter.unusedSimpArgs false
set_option linter.unusedVariables false
/- The document's examples of layer 7: what 'awake' reports. -/
namespace Go.Proofs.Ytedblocbcjoolaa
open Go.RowKit Go.Hs
attribute [local irreducible] World.setCell World.alloc
theorem tw_case : caseE twoC = 0 := by kernel_rfl
theorem tw_play : playE twoC (truthL 40 35 17) = 0 := by kernel_rfl
theorem tw_sum : (sumT twoC twoC.flds (truthL 40 35 17)).award = 386 ∧ feeA twoC.fee (sumT twoC twoC.flds (truthL 40 35 17)) = 16 ∧ feeB twoC.fee (sumT twoC twoC.flds (truthL 40 35 17)) = 15 := ⟨by kernel_rfl, by kernel_rfl, by kernel_rfl⟩
theorem tw_counts : countsT twoC.flds (truthL 40 35 17) = [35, 18] := by kernel_rfl
theorem tw_ask0 : askE twoC 0 = 0 := by kernel_rfl
theorem tw_ask1 : askE twoC 1 = 0 := by kernel_rfl
theorem tw_set : countsS (twoC.flds.getD 0 default) = [33, 34, 35, 36] := by kernel_rfl
theorem tw_called : calledV (twoC.flds.getD 1 default) = 2 := by kernel_rfl
theorem tw_award : bLo twoC 0 = 366 ∧ bHi twoC 0 = 398 := ⟨by kernel_rfl, by kernel_rfl⟩
theorem tw_fees : bLo twoC 1 = 0 ∧ bHi twoC 1 = 31 ∧ bLo twoC 2 = 0 ∧ bHi twoC 2 = 31 := ⟨by kernel_rfl, by kernel_rfl, by kernel_rfl, by kernel_rfl⟩
theorem tw_offers : bLo twoC 3 = 335 ∧ bHi twoC 4 = 429 := ⟨by kernel_rfl, by kernel_rfl⟩
theorem tw_matters : mattersS twoC = [0] := by kernel_rfl
theorem cells1 {w : World} {B : Nat} (a : Int) (h0 : w.cell? ⟨B, 0, none⟩ = some (.int .i64 a)) (ok : ∀ x ∈ [a], -1000 ≤ x ∧ x ≤ 1000) : IntsV w (.slice (some ⟨B, 0, none⟩) 1 1) [a] :=
  mk_ints [a] rfl (by simp) (fun i hi => by
    obtain rfl : i = 0 := by simp at hi; omega
    exact h0) ok
theorem cells2 {w : World} {B : Nat} (a b : Int) (h0 : w.cell? ⟨B, 0, none⟩ = some (.int .i64 a)) (h1 : w.cell? ⟨B, 1, none⟩ = some (.int .i64 b)) (ok : ∀ x ∈ [a, b], -1000 ≤ x ∧ x ≤ 1000) : IntsV w (.slice (some ⟨B, 0, none⟩) 2 2) [a, b] :=
  mk_ints [a, b] rfl (by simp) (fun i hi => by
    have : i = 0 ∨ i = 1 := by simp at hi; omega
    rcases this with rfl | rfl
    · exact h0
    · exact h1) ok
theorem cells4 {w : World} {B : Nat} (a b c d : Int) (h0 : w.cell? ⟨B, 0, none⟩ = some (.int .i64 a)) (h1 : w.cell? ⟨B, 1, none⟩ = some (.int .i64 b)) (h2 : w.cell? ⟨B, 2, none⟩ = some (.int .i64 c)) (h3 : w.cell? ⟨B, 3, none⟩ = some (.int .i64 d)) (ok : ∀ x ∈ [a, b, c, d], -1000 ≤ x ∧ x ≤ 1000) : IntsV w (.slice (some ⟨B, 0, none⟩) 4 4) [a, b, c, d] :=
  mk_ints [a, b, c, d] rfl (by simp) (fun i hi => by
    have : i = 0 ∨ i = 1 ∨ i = 2 ∨ i = 3 := by simp at hi; omega
    rcases this with rfl | rfl | rfl | rfl
    · exact h0
    · exact h1
    · exact h2
    · exact h3) ok
theorem ex_play (v vt : Value) (W : World) (hv : CasV W v twoC) (ht : ThrsV W vt (truthL 40 35 17)) : Calls Try.prog 4 #[v, vt] W fun e w' => ∃ a q, e = .returned (.tuple #[.agg #[.slice a 2 q, .int .i64 386, .int .i64 16, .int .i64 15], .int .i64 0]) ∧ IntsV w' (.slice a 2 q) [35, 18] ∧ Ext W w' :=
  (Play_good twoC v _ vt W hv ht tw_play).mono (by
    rintro e w' ⟨r, rfl, a, q, rfl, hi, hx⟩
    rw [tw_counts] at hi
    rw [tw_sum.1, tw_sum.2.1, tw_sum.2.2]
    exact ⟨a, q, rfl, hi, hx⟩)
theorem ex_counts (v : Value) (W : World) (hv : CasV W v twoC) : Calls Try.prog 7 #[v, .int .i64 0] W fun e w' => ∃ a q, e = .returned (.tuple #[.slice a 4 q, .int .i64 0]) ∧ IntsV w' (.slice a 4 q) [33, 34, 35, 36] ∧ Ext W w' :=
  (Counts_good twoC v 0 W hv tw_ask0).mono (by
    rintro e w' ⟨r, rfl, hi, hx⟩
    rw [show (0 : Int).toNat = 0 from rfl, tw_set] at hi
    obtain ⟨a, q, rfl, -⟩ := id hi
    exact ⟨a, q, rfl, hi, hx⟩)
theorem ex_matters (v : Value) (W : World) (hv : CasV W v twoC) : Calls Try.prog 34 #[v] W fun e w' => ∃ a q, e = .returned (.tuple #[.slice a 1 q, .int .i64 0]) ∧ IntsV w' (.slice a 1 q) [0] ∧ Ext W w' :=
  (Matters_good twoC v W hv tw_case).mono (by
    rintro e w' ⟨r, rfl, hi, hx⟩
    rw [tw_matters] at hi
    obtain ⟨a, q, rfl, -⟩ := id hi
    exact ⟨a, q, rfl, hi, hx⟩)
set_option maxRecDepth 100000 in
set_option maxHeartbeats 4000000 in
theorem awakeU_any (w : World) : Calls Try.prog 15 #[] w fun e w' => e = .returned (.bool true) ∧ Ext w w' := by
  have H2 : Hid (∀ W, Calls Try.prog 5 #[] W fun e w' => ∃ v, e = .returned v ∧ CasV w' v twoC ∧ Ext W w') := Lib.hid twoU_any
  have HT : Hid (∀ W, Calls Try.prog 6 #[.int .i64 40, .int .i64 35, .int .i64 17] W fun e w' => ∃ v, e = .returned v ∧ ThrsV w' v (truthL 40 35 17) ∧ Ext W w') := Lib.hid (truthU_any 40 35 17)
  have HP := Lib.hid ex_play
  have HC := Lib.hid ex_counts
  have HM := Lib.hid ex_matters
  have HL : Hid (∀ v W, CasV W v twoC → Calls Try.prog 8 #[v, .int .i64 1] W fun e w' => e = .returned (.tuple #[.int .i64 2, .int .i64 0]) ∧ Ext W w') := Lib.hid (fun v W hv => tw_called ▸ Called_good twoC v 1 W hv tw_ask1)
  have HA : Hid (∀ v W, CasV W v twoC → Calls Try.prog 32 #[v] W fun e w' => e = .returned (.tuple #[.agg #[.int .i64 366, .int .i64 398], .int .i64 0]) ∧ Ext W w') := Lib.hid (fun v W hv => by have := Award_good twoC v W hv tw_case; rw [tw_award.1, tw_award.2] at this; exact this)
  have HF : Hid (∀ v W, CasV W v twoC → Calls Try.prog 33 #[v] W fun e w' => e = .returned (.tuple #[.agg #[.int .i64 0, .int .i64 31], .agg #[.int .i64 0, .int .i64 31], .int .i64 0]) ∧ Ext W w') := Lib.hid (fun v W hv => by have := Fees_good twoC v W hv tw_case; rw [tw_fees.1, tw_fees.2.1, tw_fees.2.2.1, tw_fees.2.2.2] at this; exact this)
  have HO : Hid (∀ v W, CasV W v twoC → Calls Try.prog 13 #[v] W fun e w' => e = .returned (.tuple #[.agg #[.int .i64 335, .int .i64 429], .int .i64 0]) ∧ Ext W w') := Lib.hid (fun v W hv => by have := Offers_good twoC v W hv tw_case; rw [tw_offers.1, tw_offers.2] at this; exact this)
  have HB : Hid (∀ a b W, Calls Try.prog 12 #[.int .i64 a, .int .i64 b] W fun e w' => e = .returned (.agg #[.int .i64 a, .int .i64 b]) ∧ Ext W w') := Lib.hid betweenU_any
  have HSM : Hid (∀ va vb W, IntsV W va [35, 18] → IntsV W vb [35, 18] → Calls Try.prog 9 #[.agg #[va, .int .i64 386, .int .i64 16, .int .i64 15], .agg #[vb, .int .i64 386, .int .i64 16, .int .i64 15]] W fun e w' => e = .returned (.bool true) ∧ Ext W w') := Lib.hid (fun va vb W h1 h2 => sameU_any va vb [35, 18] [35, 18] 386 16 15 386 16 15 W h1 h2 (by decide) (by decide))
  have HS4 : Hid (∀ va vb W, IntsV W va [33, 34, 35, 36] → IntsV W vb [33, 34, 35, 36] → Calls Try.prog 10 #[va, vb] W fun e w' => e = .returned (.bool true) ∧ Ext W w') := Lib.hid (fun va vb W h1 h2 => SameI_any va vb _ _ W h1 h2 (by decide) (by decide))
  have HS1 : Hid (∀ va vb W, IntsV W va [0] → IntsV W vb [0] → Calls Try.prog 10 #[va, vb] W fun e w' => e = .returned (.bool true) ∧ Ext W w') := Lib.hid (fun va vb W h1 h2 => SameI_any va vb _ _ W h1 h2 (by decide) (by decide))
  have XX : Ext w w := Ext.refl w
  generalize twoC = c at *
  generalize truthL 40 35 17 = t at *
  go_enter Try.func15, Try.ntmps15
  go_wp2_with fail
  (with_reducible refine (H2.out _).mono ?_)
  rintro e w1 ⟨v1, rfl, hv, hx⟩
  have hy : Ext w w1 := by (repeat (first | exact Ext.refl _ | (with_reducible assumption) | (with_reducible refine Ext.drew ?_) | (with_reducible refine Ext.alloc ?_ _) | (with_reducible refine Ext.drewN ?_ _) | (with_reducible refine Ext.setCell ?_ (by omega) _) | (with_reducible refine Ext.trans ?_ (by with_reducible assumption))))
  replace XX := XX.trans hy
  clear hx hy
  go_wp2_with fail
  (with_reducible refine (HT.out _).mono ?_)
  rintro e w2 ⟨v2, rfl, ht, hx⟩
  have hy : Ext w1 w2 := by (repeat (first | exact Ext.refl _ | (with_reducible assumption) | (with_reducible refine Ext.drew ?_) | (with_reducible refine Ext.alloc ?_ _) | (with_reducible refine Ext.drewN ?_ _) | (with_reducible refine Ext.setCell ?_ (by omega) _) | (with_reducible refine Ext.trans ?_ (by with_reducible assumption))))
  replace XX := XX.trans hy
  replace hv := hv.ext hy
  clear hx hy
  go_wp2_with fail
  (with_reducible refine (HP.out _ _ _ hv ht).mono ?_)
  rintro e w3 ⟨a3, q3, rfl, h3, hx⟩
  have hy : Ext w2 w3 := by (repeat (first | exact Ext.refl _ | (with_reducible assumption) | (with_reducible refine Ext.drew ?_) | (with_reducible refine Ext.alloc ?_ _) | (with_reducible refine Ext.drewN ?_ _) | (with_reducible refine Ext.setCell ?_ (by omega) _) | (with_reducible refine Ext.trans ?_ (by with_reducible assumption))))
  replace XX := XX.trans hy
  clear hx hy
  clear hv ht
  go_wp2_with fail
  (with_reducible refine (H2.out _).mono ?_)
  rintro e w4 ⟨v4, rfl, hv, hx⟩
  have hy : Ext w3 w4 := by (repeat (first | exact Ext.refl _ | (with_reducible assumption) | (with_reducible refine Ext.drew ?_) | (with_reducible refine Ext.alloc ?_ _) | (with_reducible refine Ext.drewN ?_ _) | (with_reducible refine Ext.setCell ?_ (by omega) _) | (with_reducible refine Ext.trans ?_ (by with_reducible assumption))))
  have b0 := hx.keep (k := w3.heap.size) (o := 0) (v := .slice a3 2 q3) (by simp [go_sem])
  have b1 := hx.keep (k := w3.heap.size) (o := 1) (v := .int .i64 386) (by simp [go_sem])
  have b2 := hx.keep (k := w3.heap.size) (o := 2) (v := .int .i64 16) (by simp [go_sem])
  have b3 := hx.keep (k := w3.heap.size) (o := 3) (v := .int .i64 15) (by simp [go_sem])
  replace XX := XX.trans hy
  replace h3 := h3.ext hy
  clear hx hy
  go_wp2_with fail
  (with_reducible refine (HC.out _ _ hv).mono ?_)
  rintro e w5 ⟨a5, q5, rfl, h5, hx⟩
  have hy : Ext w4 w5 := by (repeat (first | exact Ext.refl _ | (with_reducible assumption) | (with_reducible refine Ext.drew ?_) | (with_reducible refine Ext.alloc ?_ _) | (with_reducible refine Ext.drewN ?_ _) | (with_reducible refine Ext.setCell ?_ (by omega) _) | (with_reducible refine Ext.trans ?_ (by with_reducible assumption))))
  replace XX := XX.trans hy
  replace h3 := h3.ext hy
  replace b0 := hy.keep b0
  replace b1 := hy.keep b1
  replace b2 := hy.keep b2
  replace b3 := hy.keep b3
  clear hx hy
  clear hv
  go_wp2_with fail
  (with_reducible refine (H2.out _).mono ?_)
  rintro e w6 ⟨v6, rfl, hv, hx⟩
  have hy : Ext w5 w6 := by (repeat (first | exact Ext.refl _ | (with_reducible assumption) | (with_reducible refine Ext.drew ?_) | (with_reducible refine Ext.alloc ?_ _) | (with_reducible refine Ext.drewN ?_ _) | (with_reducible refine Ext.setCell ?_ (by omega) _) | (with_reducible refine Ext.trans ?_ (by with_reducible assumption))))
  replace XX := XX.trans hy
  replace h3 := h3.ext hy
  replace b0 := hy.keep b0
  replace b1 := hy.keep b1
  replace b2 := hy.keep b2
  replace b3 := hy.keep b3
  replace h5 := h5.ext hy
  clear hx hy
  go_wp2_with fail
  (with_reducible refine (HL.out _ _ hv).mono ?_)
  rintro e w7 ⟨rfl, hx⟩
  have hy : Ext w6 w7 := by (repeat (first | exact Ext.refl _ | (with_reducible assumption) | (with_reducible refine Ext.drew ?_) | (with_reducible refine Ext.alloc ?_ _) | (with_reducible refine Ext.drewN ?_ _) | (with_reducible refine Ext.setCell ?_ (by omega) _) | (with_reducible refine Ext.trans ?_ (by with_reducible assumption))))
  replace XX := XX.trans hy
  replace h3 := h3.ext hy
  replace b0 := hy.keep b0
  replace b1 := hy.keep b1
  replace b2 := hy.keep b2
  replace b3 := hy.keep b3
  replace h5 := h5.ext hy
  clear hx hy
  clear hv
  go_wp2_with fail
  (with_reducible refine (H2.out _).mono ?_)
  rintro e w8 ⟨v8, rfl, hv, hx⟩
  have hy : Ext w7 w8 := by (repeat (first | exact Ext.refl _ | (with_reducible assumption) | (with_reducible refine Ext.drew ?_) | (with_reducible refine Ext.alloc ?_ _) | (with_reducible refine Ext.drewN ?_ _) | (with_reducible refine Ext.setCell ?_ (by omega) _) | (with_reducible refine Ext.trans ?_ (by with_reducible assumption))))
  replace XX := XX.trans hy
  replace h3 := h3.ext hy
  replace b0 := hy.keep b0
  replace b1 := hy.keep b1
  replace b2 := hy.keep b2
  replace b3 := hy.keep b3
  replace h5 := h5.ext hy
  clear hx hy
  go_wp2_with fail
  (with_reducible refine (HA.out _ _ hv).mono ?_)
  rintro e w9 ⟨rfl, hx⟩
  have hy : Ext w8 w9 := by (repeat (first | exact Ext.refl _ | (with_reducible assumption) | (with_reducible refine Ext.drew ?_) | (with_reducible refine Ext.alloc ?_ _) | (with_reducible refine Ext.drewN ?_ _) | (with_reducible refine Ext.setCell ?_ (by omega) _) | (with_reducible refine Ext.trans ?_ (by with_reducible assumption))))
  replace XX := XX.trans hy
  replace h3 := h3.ext hy
  replace b0 := hy.keep b0
  replace b1 := hy.keep b1
  replace b2 := hy.keep b2
  replace b3 := hy.keep b3
  replace h5 := h5.ext hy
  clear hx hy
  clear hv
  go_wp2_with fail
  (with_reducible refine (H2.out _).mono ?_)
  rintro e w10 ⟨v10, rfl, hv, hx⟩
  have hy : Ext w9 w10 := by (repeat (first | exact Ext.refl _ | (with_reducible assumption) | (with_reducible refine Ext.drew ?_) | (with_reducible refine Ext.alloc ?_ _) | (with_reducible refine Ext.drewN ?_ _) | (with_reducible refine Ext.setCell ?_ (by omega) _) | (with_reducible refine Ext.trans ?_ (by with_reducible assumption))))
  have d0 := hx.keep (k := w9.heap.size) (o := 0) (v := .int .i64 366) (by simp [go_sem])
  have d1 := hx.keep (k := w9.heap.size) (o := 1) (v := .int .i64 398) (by simp [go_sem])
  replace XX := XX.trans hy
  replace h3 := h3.ext hy
  replace b0 := hy.keep b0
  replace b1 := hy.keep b1
  replace b2 := hy.keep b2
  replace b3 := hy.keep b3
  replace h5 := h5.ext hy
  clear hx hy
  go_wp2_with fail
  (with_reducible refine (HF.out _ _ hv).mono ?_)
  rintro e w11 ⟨rfl, hx⟩
  have hy : Ext w10 w11 := by (repeat (first | exact Ext.refl _ | (with_reducible assumption) | (with_reducible refine Ext.drew ?_) | (with_reducible refine Ext.alloc ?_ _) | (with_reducible refine Ext.drewN ?_ _) | (with_reducible refine Ext.setCell ?_ (by omega) _) | (with_reducible refine Ext.trans ?_ (by with_reducible assumption))))
  replace XX := XX.trans hy
  replace h3 := h3.ext hy
  replace b0 := hy.keep b0
  replace b1 := hy.keep b1
  replace b2 := hy.keep b2
  replace b3 := hy.keep b3
  replace h5 := h5.ext hy
  replace d0 := hy.keep d0
  replace d1 := hy.keep d1
  clear hx hy
  clear hv
  go_wp2_with fail
  (with_reducible refine (H2.out _).mono ?_)
  rintro e w12 ⟨v12, rfl, hv, hx⟩
  have hy : Ext w11 w12 := by (repeat (first | exact Ext.refl _ | (with_reducible assumption) | (with_reducible refine Ext.drew ?_) | (with_reducible refine Ext.alloc ?_ _) | (with_reducible refine Ext.drewN ?_ _) | (with_reducible refine Ext.setCell ?_ (by omega) _) | (with_reducible refine Ext.trans ?_ (by with_reducible assumption))))
  have f0 := hx.keep (k := w11.heap.size) (o := 0) (v := .int .i64 0) (by simp [go_sem])
  have f1 := hx.keep (k := w11.heap.size) (o := 1) (v := .int .i64 31) (by simp [go_sem])
  have g0 := hx.keep (k := w11.heap.size + 1) (o := 0) (v := .int .i64 0) (by simp [go_sem])
  have g1 := hx.keep (k := w11.heap.size + 1) (o := 1) (v := .int .i64 31) (by simp [go_sem])
  replace XX := XX.trans hy
  replace h3 := h3.ext hy
  replace b0 := hy.keep b0
  replace b1 := hy.keep b1
  replace b2 := hy.keep b2
  replace b3 := hy.keep b3
  replace h5 := h5.ext hy
  replace d0 := hy.keep d0
  replace d1 := hy.keep d1
  clear hx hy
  go_wp2_with fail
  (with_reducible refine (HO.out _ _ hv).mono ?_)
  rintro e w13 ⟨rfl, hx⟩
  have hy : Ext w12 w13 := by (repeat (first | exact Ext.refl _ | (with_reducible assumption) | (with_reducible refine Ext.drew ?_) | (with_reducible refine Ext.alloc ?_ _) | (with_reducible refine Ext.drewN ?_ _) | (with_reducible refine Ext.setCell ?_ (by omega) _) | (with_reducible refine Ext.trans ?_ (by with_reducible assumption))))
  replace XX := XX.trans hy
  replace h3 := h3.ext hy
  replace b0 := hy.keep b0
  replace b1 := hy.keep b1
  replace b2 := hy.keep b2
  replace b3 := hy.keep b3
  replace h5 := h5.ext hy
  replace d0 := hy.keep d0
  replace d1 := hy.keep d1
  replace f0 := hy.keep f0
  replace f1 := hy.keep f1
  replace g0 := hy.keep g0
  replace g1 := hy.keep g1
  clear hx hy
  clear hv
  go_wp2_with fail
  (with_reducible refine (H2.out _).mono ?_)
  rintro e w14 ⟨v14, rfl, hv, hx⟩
  have hy : Ext w13 w14 := by (repeat (first | exact Ext.refl _ | (with_reducible assumption) | (with_reducible refine Ext.drew ?_) | (with_reducible refine Ext.alloc ?_ _) | (with_reducible refine Ext.drewN ?_ _) | (with_reducible refine Ext.setCell ?_ (by omega) _) | (with_reducible refine Ext.trans ?_ (by with_reducible assumption))))
  have o0 := hx.keep (k := w13.heap.size) (o := 0) (v := .int .i64 335) (by simp [go_sem])
  have o1 := hx.keep (k := w13.heap.size) (o := 1) (v := .int .i64 429) (by simp [go_sem])
  replace XX := XX.trans hy
  replace h3 := h3.ext hy
  replace b0 := hy.keep b0
  replace b1 := hy.keep b1
  replace b2 := hy.keep b2
  replace b3 := hy.keep b3
  replace h5 := h5.ext hy
  replace d0 := hy.keep d0
  replace d1 := hy.keep d1
  replace f0 := hy.keep f0
  replace f1 := hy.keep f1
  replace g0 := hy.keep g0
  replace g1 := hy.keep g1
  clear hx hy
  go_wp2_with fail
  (with_reducible refine (HM.out _ _ hv).mono ?_)
  rintro e w15 ⟨a15, q15, rfl, h15, hx⟩
  have hy : Ext w14 w15 := by (repeat (first | exact Ext.refl _ | (with_reducible assumption) | (with_reducible refine Ext.drew ?_) | (with_reducible refine Ext.alloc ?_ _) | (with_reducible refine Ext.drewN ?_ _) | (with_reducible refine Ext.setCell ?_ (by omega) _) | (with_reducible refine Ext.trans ?_ (by with_reducible assumption))))
  replace XX := XX.trans hy
  replace h3 := h3.ext hy
  replace b0 := hy.keep b0
  replace b1 := hy.keep b1
  replace b2 := hy.keep b2
  replace b3 := hy.keep b3
  replace h5 := h5.ext hy
  replace d0 := hy.keep d0
  replace d1 := hy.keep d1
  replace f0 := hy.keep f0
  replace f1 := hy.keep f1
  replace g0 := hy.keep g0
  replace g1 := hy.keep g1
  replace o0 := hy.keep o0
  replace o1 := hy.keep o1
  clear hx hy
  clear hv
  clear H2 HT HP HC HM HL HA HF HO
  go_wp2_with fail
  simp only [List.append]
  have HS : Hid (∀ w', Ext w15 w' → (w'.cell? ⟨w3.heap.size, 0, none⟩ = some (.slice a3 2 q3) ∧ w'.cell? ⟨w3.heap.size, 1, none⟩ = some (.int .i64 386) ∧ w'.cell? ⟨w3.heap.size, 2, none⟩ = some (.int .i64 16) ∧ w'.cell? ⟨w3.heap.size, 3, none⟩ = some (.int .i64 15) ∧ w'.cell? ⟨w9.heap.size, 0, none⟩ = some (.int .i64 366) ∧ w'.cell? ⟨w9.heap.size, 1, none⟩ = some (.int .i64 398) ∧ w'.cell? ⟨w11.heap.size, 0, none⟩ = some (.int .i64 0) ∧ w'.cell? ⟨w11.heap.size, 1, none⟩ = some (.int .i64 31) ∧ w'.cell? ⟨w11.heap.size + 1, 0, none⟩ = some (.int .i64 0) ∧ w'.cell? ⟨w11.heap.size + 1, 1, none⟩ = some (.int .i64 31) ∧ w'.cell? ⟨w13.heap.size, 0, none⟩ = some (.int .i64 335) ∧ w'.cell? ⟨w13.heap.size, 1, none⟩ = some (.int .i64 429)) ∧ Ext w15 w') := Lib.hid (fun w' hx => ⟨⟨hx.keep (by simp [go_sem, *]), hx.keep (by simp [go_sem, *]), hx.keep (by simp [go_sem, *]), hx.keep (by simp [go_sem, *]), hx.keep (by simp [go_sem, *]), hx.keep (by simp [go_sem, *]), hx.keep (by simp [go_sem, *]), hx.keep (by simp [go_sem, *]), hx.keep (by simp [go_sem, *]), hx.keep (by simp [go_sem, *]), hx.keep (by simp [go_sem, *]), hx.keep (by simp [go_sem, *])⟩, hx⟩)
  clear b0 b1 b2 b3 d0 d1 f0 f1 g0 g1 o0 o1
  go_region_held3 (fun w' => (w'.cell? ⟨w3.heap.size, 0, none⟩ = some (.slice a3 2 q3) ∧ w'.cell? ⟨w3.heap.size, 1, none⟩ = some (.int .i64 386) ∧ w'.cell? ⟨w3.heap.size, 2, none⟩ = some (.int .i64 16) ∧ w'.cell? ⟨w3.heap.size, 3, none⟩ = some (.int .i64 15) ∧ w'.cell? ⟨w9.heap.size, 0, none⟩ = some (.int .i64 366) ∧ w'.cell? ⟨w9.heap.size, 1, none⟩ = some (.int .i64 398) ∧ w'.cell? ⟨w11.heap.size, 0, none⟩ = some (.int .i64 0) ∧ w'.cell? ⟨w11.heap.size, 1, none⟩ = some (.int .i64 31) ∧ w'.cell? ⟨w11.heap.size + 1, 0, none⟩ = some (.int .i64 0) ∧ w'.cell? ⟨w11.heap.size + 1, 1, none⟩ = some (.int .i64 31) ∧ w'.cell? ⟨w13.heap.size, 0, none⟩ = some (.int .i64 335) ∧ w'.cell? ⟨w13.heap.size, 1, none⟩ = some (.int .i64 429)) ∧ Ext w15 w')
    ((refine HS.out _ ?_; (repeat (first | exact Ext.refl _ | (with_reducible assumption) | (with_reducible refine Ext.drew ?_) | (with_reducible refine Ext.alloc ?_ _) | (with_reducible refine Ext.drewN ?_ _) | (with_reducible refine Ext.setCell ?_ (by omega) _) | (with_reducible refine Ext.trans ?_ (by with_reducible assumption))))))
    (first
      | (go_at_call 9; (with_reducible refine (HSM.out _ _ _ (h3.ext (by (repeat (first | exact Ext.refl _ | (with_reducible assumption) | (with_reducible refine Ext.drew ?_) | (with_reducible refine Ext.alloc ?_ _) | (with_reducible refine Ext.drewN ?_ _) | (with_reducible refine Ext.setCell ?_ (by omega) _) | (with_reducible refine Ext.trans ?_ (by with_reducible assumption)))))) (cells2 35 18 (by simp [go_sem]) (by simp [go_sem]) (by decide))).mono ?_); rintro e w16 ⟨rfl, hx16⟩)
      | (go_at_call 10; (first | (with_reducible refine (HS4.out _ _ _ (h5.ext (by (repeat (first | exact Ext.refl _ | (with_reducible assumption) | (with_reducible refine Ext.drew ?_) | (with_reducible refine Ext.alloc ?_ _) | (with_reducible refine Ext.drewN ?_ _) | (with_reducible refine Ext.setCell ?_ (by omega) _) | (with_reducible refine Ext.trans ?_ (by with_reducible assumption)))))) (cells4 33 34 35 36 (by simp [go_sem]) (by simp [go_sem]) (by simp [go_sem]) (by simp [go_sem]) (by decide))).mono ?_) | (with_reducible refine (HS1.out _ _ _ (h15.ext (by (repeat (first | exact Ext.refl _ | (with_reducible assumption) | (with_reducible refine Ext.drew ?_) | (with_reducible refine Ext.alloc ?_ _) | (with_reducible refine Ext.drewN ?_ _) | (with_reducible refine Ext.setCell ?_ (by omega) _) | (with_reducible refine Ext.trans ?_ (by with_reducible assumption)))))) (cells1 0 (by simp [go_sem]) (by decide))).mono ?_)); rintro e w17 ⟨rfl, hx17⟩)
      | (go_at_call 12; (with_reducible refine (HB.out _ _ _).mono ?_); rintro e w18 ⟨rfl, hx18⟩))
  go_wp2_with fail
  go_ret
  exact ⟨rfl, by (repeat (first | exact Ext.refl _ | (with_reducible assumption) | (with_reducible refine Ext.drew ?_) | (with_reducible refine Ext.alloc ?_ _) | (with_reducible refine Ext.drewN ?_ _) | (with_reducible refine Ext.setCell ?_ (by omega) _) | (with_reducible refine Ext.trans ?_ (by with_reducible assumption))))⟩
end Go.Proofs.Ytedblocbcjoolaa

/- Contracts of layer 7's law and reference: whether a case is valid, and thin. -/
namespace Go.Hs
open Go.RowKit Go.Proofs.Ytedblocbcjoolaa
theorem Cells9.at' {w : World} {a : Option Addr} {us : List V9} (h : Cells9 w a us) (i : Nat) (hi : i < us.length) : ∃ b off, a = some ⟨b, off, none⟩ ∧ Cell9 w b (off + i * 9) us[i] := h i hi
end Go.Hs
namespace Go.Proofs.Ytedblocbcjoolaa
open Go.RowKit Go.Hs
attribute [local irreducible] World.setCell World.alloc
end Go.Proofs.Ytedblocbcjoolaa

/- Thin: whether a list of tariffs is small. -/
namespace Go.Hs
open Go.RowKit
theorem Ints3W.get {w : World} {a : Option Addr} {n c : Nat} {xs : List (List (List Int))} (h : Ints3W w (.slice a n c) xs) (i : Nat) (hi : i < xs.length) : ∃ b off a1 c1, a = some ⟨b, off, none⟩ ∧ w.cell? ⟨b, off + i, none⟩ = some (.slice a1 (xs.getD i []).length c1) ∧ Ints2W w (.slice a1 (xs.getD i []).length c1) (xs.getD i []) := by
  obtain ⟨a', c', he, -, -, hr⟩ := h
  cases he
  obtain ⟨b, off, he, v, hc, hv⟩ := hr i hi
  have hv' := hv
  obtain ⟨a1, c1, rfl, -⟩ := hv'
  have e : xs[i] = xs.getD i [] := by simp [hi]
  rw [← e]
  exact ⟨b, off, a1, c1, he, by simpa using hc, hv⟩
theorem Ints2W.get {w : World} {a : Option Addr} {n c : Nat} {xs : List (List Int)} (h : Ints2W w (.slice a n c) xs) (i : Nat) (hi : i < xs.length) : ∃ b off a1 c1, a = some ⟨b, off, none⟩ ∧ w.cell? ⟨b, off + i, none⟩ = some (.slice a1 (xs.getD i []).length c1) := by
  obtain ⟨a', c', he, -, -, hr⟩ := h
  cases he
  obtain ⟨b, off, he, v, hc, hv⟩ := hr i hi
  obtain ⟨a1, c1, rfl, -⟩ := hv
  have e : xs[i] = xs.getD i [] := by simp [hi]
  rw [← e]
  exact ⟨b, off, a1, c1, he, by simpa using hc⟩
end Go.Hs
namespace Go.Proofs.Ytedblocbcjoolaa
open Go.RowKit Go.Hs
end Go.Proofs.Ytedblocbcjoolaa

/- Arguments that are a case, a list of three counts, or a list of bytes, opened. -/
namespace Go.Hs
open Go.RowKit
/-- The numbers of a field are int's. -/
structure FldI (f : Fld) : Prop where
  crop : i64ok f.crop
  value : i64ok f.value
  near : i64ok f.near
  alo : i64ok f.alo
  ahi : i64ok f.ahi
  blo : i64ok f.blo
  bhi : i64ok f.bhi
  ulo : i64ok f.ulo
  uhi : i64ok f.uhi
structure ThrI (x : Thr) : Prop where
  a : i64ok x.a
  b : i64ok x.b
  u : i64ok x.u
def FldAtW (w : World) (b o : Nat) (f : Fld) : Prop := Cell9 w b o f.c ∧ FldI f
def ThrAtW (w : World) (b o : Nat) (x : Thr) : Prop := Cell3 w b o x.c ∧ ThrI x
def U8At (w : World) (b o : Nat) (x : Int) : Prop := w.cell? ⟨b, o, none⟩ = some (.int .u8 x) ∧ 0 ≤ x ∧ x ≤ 255
def FldsW : World → Value → List Fld → Prop := SliceW FldAtW 9
def ThrsW : World → Value → List Thr → Prop := SliceW ThrAtW 3
def U8sW : World → Value → List Int → Prop := SliceW U8At 1
/-- A case that is an argument. -/
def CasW (w : World) (v : Value) (c : Cas) : Prop := ∃ vt vf, v = .agg #[vt, .int .i64 c.day, .int .i64 c.fee, vf] ∧ TarsW w vt c.tars ∧ FldsW w vf c.flds ∧ i64ok c.day ∧ i64ok c.fee
theorem FldsW.toV {w : World} {v : Value} {l : List Fld} (h : FldsW w v l) (hl : l.length ≤ 1000) : FldsV w v l := by
  obtain ⟨a, c, he, h1, -, hr⟩ := h
  refine ⟨a, c, he, h1, hl, fun i hi => ?_⟩
  have hi' : i < l.length := by simpa using hi
  obtain ⟨b, o, hb, hx, -⟩ := hr i hi'
  exact ⟨b, o, hb, by simpa using hx⟩
theorem FldsW.ok {w : World} {v : Value} {l : List Fld} (h : FldsW w v l) : ∀ f, f ∈ l → FldI f := fun f hf => by
  obtain ⟨a, k, -, -, -, hr⟩ := h
  obtain ⟨i, hi, rfl⟩ := List.getElem_of_mem hf
  obtain ⟨b, o, -, -, hx⟩ := hr i hi
  exact hx
theorem ThrsW.toV {w : World} {v : Value} {l : List Thr} (h : ThrsW w v l) (hl : l.length ≤ 1000) : ThrsV w v l := by
  obtain ⟨a, c, he, h1, -, hr⟩ := h
  refine ⟨a, c, he, h1, hl, fun i hi => ?_⟩
  have hi' : i < l.length := by simpa using hi
  obtain ⟨b, o, hb, hx, -⟩ := hr i hi'
  exact ⟨b, o, hb, by simpa using hx⟩
theorem ThrsW.ok {w : World} {v : Value} {l : List Thr} (h : ThrsW w v l) : ∀ f, f ∈ l → ThrI f := fun f hf => by
  obtain ⟨a, k, -, -, -, hr⟩ := h
  obtain ⟨i, hi, rfl⟩ := List.getElem_of_mem hf
  obtain ⟨b, o, -, -, hx⟩ := hr i hi
  exact hx
/-- A case is small: tariffs as the statements of layer 5, and at most 6 fields. -/
def thinCas (c : Cas) : Bool := thinB c.tars && decide (c.flds.length ≤ 6)
theorem CasW.toV {w : World} {v : Value} {c : Cas} (h : CasW w v c) (ht : thinCas c = true) : CasV w v c := by
  obtain ⟨vt, vf, he, h1, h2, -, -⟩ := h
  simp only [thinCas, Bool.and_eq_true, decide_eq_true_eq] at ht
  exact ⟨vt, vf, he, h1.toV ht.1, h2.toV (by omega)⟩
theorem SliceW.ext {α : Type} {R : World → Nat → Nat → α → Prop} {k : Nat} {w w' : World} (hR : ∀ b o x, R w b o x → R w' b o x) {v : Value} {xs : List α} (h : SliceW R k w v xs) : SliceW R k w' v xs := by
  obtain ⟨a, c, he, h1, h2, hr⟩ := h
  refine ⟨a, c, he, h1, h2, fun i hi => ?_⟩
  obtain ⟨b, o, hb, hx⟩ := hr i hi
  exact ⟨b, o, hb, hR _ _ _ hx⟩
theorem FldsW.ext {w w' : World} {v : Value} {l : List Fld} (h : Ext w w') (k : FldsW w v l) : FldsW w' v l := SliceW.ext (fun b o _ hx => ⟨hx.1.ext h b o _, hx.2⟩) k
theorem ThrsW.ext {w w' : World} {v : Value} {l : List Thr} (h : Ext w w') (k : ThrsW w v l) : ThrsW w' v l := SliceW.ext (fun b o _ hx => ⟨hx.1.ext h b o _, hx.2⟩) k
theorem U8sW.ext {w w' : World} {v : Value} {l : List Int} (h : Ext w w') (k : U8sW w v l) : U8sW w' v l := SliceW.ext (fun _ _ _ hx => ⟨h.keep hx.1, hx.2⟩) k
end Go.Hs
namespace Go.Proofs.Ytedblocbcjoolaa
open Go.ChangeShapes Go.WideShapes Go.ChangeAt Go.RowKit Go.Deep Go.Hs
section
variable {H : Type} {enc : TypeId × Value → H} {w : World} {base : Nat} {spare : Nat → Bool} {held : Bool}
end
end Go.Proofs.Ytedblocbcjoolaa

/- Contracts of layer 7's law: whether a case is thin, and ready. -/
namespace Go.Hs
open Go.RowKit
theorem IntsW.ext {w w' : World} {v : Value} {xs : List Int} (h : Ext w w') (k : IntsW w v xs) : IntsW w' v xs := SliceW.ext (IntAt.ext h) k
theorem IntsAtW.ext {w w' : World} (h : Ext w w') (b o : Nat) (xs : List Int) (k : IntsAtW w b o xs) : IntsAtW w' b o xs := let ⟨v, h1, h2⟩ := k; ⟨v, h.keep h1, h2.ext h⟩
theorem Ints2W.ext {w w' : World} {v : Value} {xs : List (List Int)} (h : Ext w w') (k : Ints2W w v xs) : Ints2W w' v xs := SliceW.ext (IntsAtW.ext h) k
theorem Ints2AtW.ext {w w' : World} (h : Ext w w') (b o : Nat) (xs : List (List Int)) (k : Ints2AtW w b o xs) : Ints2AtW w' b o xs := let ⟨v, h1, h2⟩ := k; ⟨v, h.keep h1, h2.ext h⟩
theorem Ints3W.ext {w w' : World} {v : Value} {xs : List (List (List Int))} (h : Ext w w') (k : Ints3W w v xs) : Ints3W w' v xs := SliceW.ext (Ints2AtW.ext h) k
theorem TarAtW.ext {w w' : World} (h : Ext w w') (b o : Nat) (t : Tar) (k : TarAtW w b o t) : TarAtW w' b o t := by
  obtain ⟨c3, c4, c5, h0, h1, h2, h3, h4, h5, hc⟩ := k
  exact ⟨c3, c4, c5, h.keep h0, h.keep h1, h.keep h2, h.keep h3, h.keep h4, h.keep h5, hc.f, hc.l, hc.weeks.ext h, hc.counts.ext h, hc.rates.ext h⟩
theorem TarsW.ext {w w' : World} {v : Value} {xs : List Tar} (h : Ext w w') (k : TarsW w v xs) : TarsW w' v xs := SliceW.ext (TarAtW.ext h) k
theorem CasW.ext {w w' : World} {v : Value} {c : Cas} (hx : Ext w w') (h : CasW w v c) : CasW w' v c := by
  obtain ⟨vt, vf, he, h1, h2, h3⟩ := h
  exact ⟨vt, vf, he, TarsW.ext hx h1, FldsW.ext hx h2, h3⟩
end Go.Hs
namespace Go.Proofs.Ytedblocbcjoolaa
open Go.RowKit Go.Hs
attribute [local irreducible] World.setCell World.alloc
end Go.Proofs.Ytedblocbcjoolaa

/- Plain laws of layer 7: the bounds, and what a greater fee does. -/
namespace Go.Hs
open Go.RowKit Go.Proofs.Ytedblocbcjoolaa
end Go.Hs

/- Lists of three or nine cells an element that are built by appending. -/
namespace Go.Hs
open Go.RowKit
abbrev V3.cs (u : V3) : List Value := [u.c0, u.c1, u.c2]
abbrev V9.cs (u : V9) : List Value := [u.c0, u.c1, u.c2, u.c3, u.c4, u.c5, u.c6, u.c7, u.c8]
theorem flat_at {α : Type} {C : α → List Value} {k : Nat} (hC : ∀ x, (C x).length = k) (xs : List α) (i j : Nat) (h : i < xs.length) (hj : j < k) : (xs.flatMap C)[i * k + j]? = (C xs[i])[j]? := by
  induction xs generalizing i with
  | nil => simp at h
  | cons x r ih =>
    cases i with
    | zero => rw [Nat.zero_mul, Nat.zero_add, List.flatMap_cons, List.getElem?_append_left (by rw [hC]; exact hj)]; rfl
    | succ i =>
      have e : (i + 1) * k = i * k + k := Nat.succ_mul i k
      rw [List.flatMap_cons, List.getElem?_append_right (by rw [hC]; omega), hC, show (i + 1) * k + j - k = i * k + j by omega, ih i (by simpa using h)]
      simp
/-- A list of structs of plain cells that is being built. -/
def Own {α : Type} (k : Nat) (C : α → List Value) (B e : Nat) (w : World) (v : Value) (xs : List α) : Prop := w.ownsRow B e k v xs.length (xs.flatMap C)
section
variable {α : Type} {k : Nat} {C : α → List Value} {B e : Nat} {w w' : World} {v v' : Value} {xs : List α}
theorem Own.nil (w : World) : Own k C B e w (.slice none 0 0) [] := World.ownsRow_nil _ _ _ _
theorem Own.keep (h : Own k C B e w v xs) (hk : ∀ g, v.ownBlock = some g → w'.heap[g]? = w.heap[g]?) : Own k C B e w' v xs := own_keep h hk
theorem Own.ext (h : Own k C B e w v xs) (hx : Ext w w') : Own k C B e w' v xs := own_keep h (fun _ hg => hx.heap (own_lt h hg).2)
theorem Own.next {y : α} {n : Nat} {us : List Value} (ho : w'.ownsRow B e k v' n us) (hn : n = xs.length + 1) (hu : us = xs.flatMap C ++ C y) : Own k C B e w' v' (xs ++ [y]) := by
  subst hn hu
  unfold Own
  simpa using ho
theorem Own.slice9 {U : α → V9} (h : Own 9 (fun x => (U x).cs) B e w v xs) (hl : xs.length ≤ 1000) : Slice9 U w v xs := by
  rcases own_open h with ⟨rfl, h0⟩ | ⟨g, cap, rfl, -, hg, hn, hc⟩
  · have e : xs = [] := List.eq_nil_of_length_eq_zero h0
    subst e
    exact ⟨none, 0, rfl, Nat.le_refl _, by simp, fun i h => absurd h (by simp)⟩
  · refine ⟨_, cap, rfl, hn, hl, fun i hi => ⟨g, 0, rfl, ?_⟩⟩
    have hi' : i < xs.length := by simpa using hi
    have f := fun j hj => flat_at (C := fun x => (U x).cs) (k := 9) (fun _ => rfl) xs i j hi' hj
    have e1 : (xs.map U)[i] = U xs[i] := by simp
    rw [e1]
    simp only [Nat.zero_add]
    exact ⟨hc _ _ (f 0 (by decide)), hc _ _ (f 1 (by decide)), hc _ _ (f 2 (by decide)), hc _ _ (f 3 (by decide)), hc _ _ (f 4 (by decide)), hc _ _ (f 5 (by decide)), hc _ _ (f 6 (by decide)), hc _ _ (f 7 (by decide)), hc _ _ (f 8 (by decide))⟩
end
end Go.Hs

/- The law's case: what 'Case' lays. -/
namespace Go.Hs
open Go.RowKit Go.Proofs.Ytedblocbcjoolaa
/-- One block, all from a number on, and all below one. -/
def capB (B T N : Nat) : Nat → Bool := fun k => (T == k) || (decide (N ≤ k) || decide (k < B))
theorem capB_no {B T N k : Nat} : capB B T N k = false ↔ T ≠ k ∧ k < N ∧ B ≤ k := by simp [capB]
theorem ext_gb {row : Option Nat} {w W W' : World} (hx : Ext w W) (hg : GB row W W') (hr : ∀ g, row = some g → w.heap.size ≤ g) : Ext w W' :=
  ⟨hg.os.trans hx.os, hg.tape.trans hx.tape, hg.output.trans hx.output, Nat.le_trans hx.size hg.size, fun k hk => (hg.block k (Nat.lt_of_lt_of_le hk hx.size) (fun e => by have := hr k e.symm; omega)).trans (hx.block k hk)⟩
/-- The case that is being built: its box, and its fields so far. -/
structure CaseL (w : World) (N T : Nat) (c : Cas) (vt : Value) (k : Nat) (v : Value) (W : World) : Prop where
  ext : Ext w W
  tv : TarsV (mask (capB w.heap.size T N) W) vt c.tars
  t0 : W.cell? ⟨T, 0, none⟩ = some vt
  t1 : W.cell? ⟨T, 1, none⟩ = some (.int .i64 c.day)
  t2 : W.cell? ⟨T, 2, none⟩ = some (.int .i64 c.fee)
  t3 : W.cell? ⟨T, 3, none⟩ = some v
  fr : ∀ o, W.frozen? ⟨T, o, none⟩ = false
  own : Own 9 (fun x : Fld => x.c.cs) N 46 W v (c.flds.take k)
  n0 : w.heap.size ≤ T
  n1 : T < N
  n2 : N ≤ W.heap.size
section
variable {w W W' : World} {N T : Nat} {c : Cas} {vt : Value} {k : Nat} {v v' : Value}
theorem CaseL.grow (h : CaseL w N T c vt k v W) (hx : Ext W W') : CaseL w N T c vt k v W' :=
  ⟨h.ext.trans hx, h.tv.kc (hx.mask (fun _ _ h => h)), hx.keep h.t0, hx.keep h.t1, hx.keep h.t2, hx.keep h.t3, fun o => (hx.frozen (lt_of_cell h.t0)).trans (h.fr o), h.own.ext hx, h.n0, h.n1, Nat.le_trans h.n2 hx.size⟩
theorem CaseL.row (h : CaseL w N T c vt k v W) {b : Nat} (hb : b < N) : some b ≠ v.ownBlock := fun e => by
  have := (own_lt h.own e.symm).1; omega
theorem CaseL.app {f : Fld} (h : CaseL w N T c vt k v W) {n : Nat} {us : List Value} (hg : GB v.ownBlock W W') (ho : W'.ownsRow N 46 9 v' n us) (hn : n = (c.flds.take k).length + 1) (hu : us = (c.flds.take k).flatMap (fun x => x.c.cs) ++ f.c.cs) (hf : c.flds.take k ++ [f] = c.flds.take (k + 1)) :
    CaseL w N T c vt (k + 1) v' (W'.setCell ⟨T, 3, none⟩ v') := by
  have hT := h.n0
  have h1 := h.n1
  have h2 := h.n2
  have hrow : ∀ {b}, b < N → some b ≠ v.ownBlock := fun hb => h.row hb
  have kk : ∀ {o : Nat} {x : Value}, W.cell? ⟨T, o, none⟩ = some x → W'.cell? ⟨T, o, none⟩ = some x := fun hc => hg.keep (hrow h1) hc
  have ne : ∀ {o : Nat} {x : Value}, o ≠ 3 → W.cell? ⟨T, o, none⟩ = some x → (W'.setCell ⟨T, 3, none⟩ v').cell? ⟨T, o, none⟩ = some x := fun hn hc => sc_ne (.inr hn) (kk hc)
  have hown := Own.next (C := fun x : Fld => x.c.cs) ho hn hu
  rw [hf] at hown
  refine ⟨?_, h.tv.kc (mask_kc (fun _ _ h => h) (fun j hj hp => ?_)), ne (by decide) h.t0, ne (by decide) h.t1, ne (by decide) h.t2, sc_eq (kk h.t3), fun o => ?_, hown.keep (fun g hgg => Below.heap_setCell _ _ _ _ (show g ≠ T by have := (own_lt hown hgg).1; omega)), h.n0, h.n1, ?_⟩
  · exact (ext_gb h.ext hg (fun g hgg => by have := (own_lt h.own hgg).1; have := h.ext.size; omega)).setCell hT _
  · obtain ⟨p1, p2, -⟩ := capB_no.1 hp
    rw [Below.heap_setCell _ _ _ _ (show j ≠ T from fun e => p1 e.symm)]
    exact hg.block j hj (hrow p2)
  · rw [World.frozen?_setCell, hg.frozen (lt_of_cell h.t0) (hrow h1)]
    exact h.fr o
  · rw [World.size_setCell]
    exact Nat.le_trans h2 hg.size
theorem CaseL.out (h : CaseL w N T c vt c.flds.length v W) (hl : c.flds.length ≤ 1000) (hk : KP (fun k => k < w.heap.size) W W') : CasV W' (.agg #[vt, .int .i64 c.day, .int .i64 c.fee, v]) c := by
  have h0 := h.n0
  have h1 := h.n1
  refine ⟨vt, v, rfl, (h.tv.kc (mask_kc (q := capB w.heap.size T N) (w' := W') (fun _ _ h => h) (fun j hj hp => hk.block j hj (by have := (capB_no.1 hp).2.2; omega)))).kc (mask_kc0 _ _), ?_⟩
  have ho := h.own
  rw [List.take_length] at ho
  exact Own.slice9 (U := Fld.c) (ho.keep (fun g hg => by
    have := own_lt ho hg
    exact hk.block g this.2 (by omega))) hl
/-- The box laid behind the tariffs. -/
theorem CaseL.new {Wa w3 : World} {t : TypeId} (hv : TarsV (mask (oldB Wa) w3) vt c.tars) (hx : Ext w w3) (hw : w.heap.size ≤ Wa.heap.size) :
    CaseL w (w3.heap.size + 1) w3.heap.size c vt 0 (.slice none 0 0) (w3.alloc (.cells #[vt, .int .i64 c.day, .int .i64 c.fee, .slice none 0 0] t)) :=
  ⟨hx.alloc _, hv.kc (((Ext.refl w3).alloc _).mask (fun k hk hc => capB_no.2 ⟨by omega, by omega, by rw [oldB_lt] at hc; omega⟩)), by simp [go_sem], by simp [go_sem], by simp [go_sem], by simp [go_sem], fun o => by simp [go_sem], Own.nil _, hx.size, by omega, by simp⟩
/-- The box laid ahead of the tariffs. -/
theorem CaseL.set {Wa w3 : World} (hv : TarsV (mask (oldB Wa) w3) vt c.tars) (hx : Ext w w3) (hT : w.heap.size ≤ T) (hl : T < Wa.heap.size) (hz : ∀ o, o < 4 → ∃ x, w3.cell? ⟨T, o, none⟩ = some x) (hz3 : w3.cell? ⟨T, 3, none⟩ = some (.slice none 0 0)) (hf : ∀ o, w3.frozen? ⟨T, o, none⟩ = false) (hs : Wa.heap.size ≤ w3.heap.size) :
    CaseL w w3.heap.size T c vt 0 (.slice none 0 0) ((((w3.setCell ⟨T, 0, none⟩ vt).setCell ⟨T, 1, none⟩ (.int .i64 c.day)).setCell ⟨T, 2, none⟩ (.int .i64 c.fee)).setCell ⟨T, 3, none⟩ (.slice none 0 0)) := by
  obtain ⟨x0, h0⟩ := hz 0 (by decide)
  obtain ⟨x1, h1⟩ := hz 1 (by decide)
  obtain ⟨x2, h2⟩ := hz 2 (by decide)
  refine ⟨(((hx.setCell hT _).setCell hT _).setCell hT _).setCell hT _, hv.kc (mask_kc (fun k hk hc => ?_) (fun k hk hc => ?_)), sc_ne (.inr (by decide)) (sc_ne (.inr (by decide)) (sc_ne (.inr (by decide)) (sc_eq h0))), sc_ne (.inr (by decide)) (sc_ne (.inr (by decide)) (sc_eq (sc_ne (.inr (by decide)) h1))), sc_ne (.inr (by decide)) (sc_eq (sc_ne (.inr (by decide)) (sc_ne (.inr (by decide)) h2))), sc_eq (sc_ne (.inr (by decide)) (sc_ne (.inr (by decide)) (sc_ne (.inr (by decide)) hz3))), fun o => ?_, Own.nil _, hT, by omega, ?_⟩
  · rw [oldB_lt] at hc
    exact capB_no.2 ⟨by omega, hk, by omega⟩
  · rw [oldB_lt] at hc
    have e : k ≠ T := by omega
    rw [Below.heap_setCell _ _ _ _ e, Below.heap_setCell _ _ _ _ e, Below.heap_setCell _ _ _ _ e, Below.heap_setCell _ _ _ _ e]
  · simp only [World.frozen?_setCell]; exact hf o
  · simp only [World.size_setCell]; exact Nat.le_refl _
end
end Go.Hs
namespace Go.Proofs.Ytedblocbcjoolaa
open Go.RowKit Go.Hs
attribute [local irreducible] World.setCell World.alloc

end Go.Proofs.Ytedblocbcjoolaa
