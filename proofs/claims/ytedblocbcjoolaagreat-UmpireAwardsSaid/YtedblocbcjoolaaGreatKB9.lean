/- Bundled: what the texts VS VQ AH OE VR XA VJ VM say one after another. -/
import Derived.Test.YtedblocbcjoolaaGreatKB6
import Derived.Test.YtedblocbcjoolaaGreatKB7
import Derived.Test.YtedblocbcjoolaaGreatKB8
import Derived.KernelRfl
import Derived.Test.YtedblocbcjoolaaGreatKB5
import Derived.Test.YtedblocbcjoolaaGreatKB4
import Derived.Test.YtedblocbcjoolaaGreatKB1
import Derived.Test.YtedblocbcjoolaaGreatKB3
import Derived.Deep.AppendLies
import Derived.RegionTactic
import Derived.Deep.RegionWith
set_option linter.unusedSimpArgs false
set_option linter.unusedVariables false
/- The document's examples of layer 7: what 'awake' reports. -/
namespace Go.Proofs.YtedblocbcjoolaaGreat
open Go.RowKit Go.Hs
attribute [local irreducible] World.setCell World.alloc
theorem tw_case : caseE twoC = 0 := by kernel_rfl
theorem tw_play : playE twoC (truthL 40 35 17) = 0 := by kernel_rfl
theorem tw_sum : (sumT twoC twoC.flds (truthL 40 35 17)).award = 386 ∧ feeA twoC.fee (sumT twoC twoC.flds (truthL 40 35 17)) = 16 ∧ feeB twoC.fee (sumT twoC twoC.flds (truthL 40 35 17)) = 15 := ⟨by kernel_rfl, by kernel_rfl, by kernel_rfl⟩
theorem tw_counts : countsT twoC.flds (truthL 40 35 17) = [35, 18] := by kernel_rfl
theorem tw_ask0 : askE twoC 0 = 0 := by kernel_rfl
theorem tw_ask1 : askE twoC 1 = 0 := by kernel_rfl
theorem tw_set : countsS (twoC.flds.getD 0 default) = [33, 34, 35, 36] := by kernel_rfl
theorem tw_called : calledV (twoC.flds.getD 1 default) = 2 := by kernel_rfl
theorem tw_award : bLo twoC 0 = 366 ∧ bHi twoC 0 = 398 := ⟨by kernel_rfl, by kernel_rfl⟩
theorem tw_fees : bLo twoC 1 = 0 ∧ bHi twoC 1 = 31 ∧ bLo twoC 2 = 0 ∧ bHi twoC 2 = 31 := ⟨by kernel_rfl, by kernel_rfl, by kernel_rfl, by kernel_rfl⟩
theorem tw_offers : bLo twoC 3 = 335 ∧ bHi twoC 4 = 429 := ⟨by kernel_rfl, by kernel_rfl⟩
theorem tw_matters : mattersS twoC = [0] := by kernel_rfl
theorem cells1 {w : World} {B : Nat} (a : Int) (h0 : w.cell? ⟨B, 0, none⟩ = some (.int .i64 a)) (ok : ∀ x ∈ [a], -1000 ≤ x ∧ x ≤ 1000) : IntsV w (.slice (some ⟨B, 0, none⟩) 1 1) [a] :=
  mk_ints [a] rfl (by simp) (fun i hi => by
    obtain rfl : i = 0 := by simp at hi; omega
    exact h0) ok
theorem cells2 {w : World} {B : Nat} (a b : Int) (h0 : w.cell? ⟨B, 0, none⟩ = some (.int .i64 a)) (h1 : w.cell? ⟨B, 1, none⟩ = some (.int .i64 b)) (ok : ∀ x ∈ [a, b], -1000 ≤ x ∧ x ≤ 1000) : IntsV w (.slice (some ⟨B, 0, none⟩) 2 2) [a, b] :=
  mk_ints [a, b] rfl (by simp) (fun i hi => by
    have : i = 0 ∨ i = 1 := by simp at hi; omega
    rcases this with rfl | rfl
    · exact h0
    · exact h1) ok
theorem cells4 {w : World} {B : Nat} (a b c d : Int) (h0 : w.cell? ⟨B, 0, none⟩ = some (.int .i64 a)) (h1 : w.cell? ⟨B, 1, none⟩ = some (.int .i64 b)) (h2 : w.cell? ⟨B, 2, none⟩ = some (.int .i64 c)) (h3 : w.cell? ⟨B, 3, none⟩ = some (.int .i64 d)) (ok : ∀ x ∈ [a, b, c, d], -1000 ≤ x ∧ x ≤ 1000) : IntsV w (.slice (some ⟨B, 0, none⟩) 4 4) [a, b, c, d] :=
  mk_ints [a, b, c, d] rfl (by simp) (fun i hi => by
    have : i = 0 ∨ i = 1 ∨ i = 2 ∨ i = 3 := by simp at hi; omega
    rcases this with rfl | rfl | rfl | rfl
    · exact h0
    · exact h1
    · exact h2
    · exact h3) ok
theorem ex_play (v vt : Value) (W : World) (hv : CasV W v twoC) (ht : ThrsV W vt (truthL 40 35 17)) : Calls Tryz.prog 17 #[v, vt] W fun e w' => ∃ a q, e = .returned (.tuple #[.agg #[.slice a 2 q, .int .i64 386, .int .i64 16, .int .i64 15], .int .i64 0]) ∧ IntsV w' (.slice a 2 q) [35, 18] ∧ Ext W w' :=
  (Play_good twoC v _ vt W hv ht tw_play).mono (by
    rintro e w' ⟨r, rfl, a, q, rfl, hi, hx⟩
    rw [tw_counts] at hi
    rw [tw_sum.1, tw_sum.2.1, tw_sum.2.2]
    exact ⟨a, q, rfl, hi, hx⟩)
theorem ex_counts (v : Value) (W : World) (hv : CasV W v twoC) : Calls Tryz.prog 20 #[v, .int .i64 0] W fun e w' => ∃ a q, e = .returned (.tuple #[.slice a 4 q, .int .i64 0]) ∧ IntsV w' (.slice a 4 q) [33, 34, 35, 36] ∧ Ext W w' :=
  (Counts_good twoC v 0 W hv tw_ask0).mono (by
    rintro e w' ⟨r, rfl, hi, hx⟩
    rw [show (0 : Int).toNat = 0 from rfl, tw_set] at hi
    obtain ⟨a, q, rfl, -⟩ := id hi
    exact ⟨a, q, rfl, hi, hx⟩)
theorem ex_matters (v : Value) (W : World) (hv : CasV W v twoC) : Calls Tryz.prog 10 #[v] W fun e w' => ∃ a q, e = .returned (.tuple #[.slice a 1 q, .int .i64 0]) ∧ IntsV w' (.slice a 1 q) [0] ∧ Ext W w' :=
  (Matters_good twoC v W hv tw_case).mono (by
    rintro e w' ⟨r, rfl, hi, hx⟩
    rw [tw_matters] at hi
    obtain ⟨a, q, rfl, -⟩ := id hi
    exact ⟨a, q, rfl, hi, hx⟩)
set_option maxRecDepth 100000 in
set_option maxHeartbeats 4000000 in
theorem awakeU_any (w : World) : Calls Tryz.prog 5 #[] w fun e w' => e = .returned (.bool true) ∧ Ext w w' := by
  have H2 : Hid (∀ W, Calls Tryz.prog 18 #[] W fun e w' => ∃ v, e = .returned v ∧ CasV w' v twoC ∧ Ext W w') := Lib.hid twoU_any
  have HT : Hid (∀ W, Calls Tryz.prog 19 #[.int .i64 40, .int .i64 35, .int .i64 17] W fun e w' => ∃ v, e = .returned v ∧ ThrsV w' v (truthL 40 35 17) ∧ Ext W w') := Lib.hid (truthU_any 40 35 17)
  have HP := Lib.hid ex_play
  have HC := Lib.hid ex_counts
  have HM := Lib.hid ex_matters
  have HL : Hid (∀ v W, CasV W v twoC → Calls Tryz.prog 21 #[v, .int .i64 1] W fun e w' => e = .returned (.tuple #[.int .i64 2, .int .i64 0]) ∧ Ext W w') := Lib.hid (fun v W hv => tw_called ▸ Called_good twoC v 1 W hv tw_ask1)
  have HA : Hid (∀ v W, CasV W v twoC → Calls Tryz.prog 6 #[v] W fun e w' => e = .returned (.tuple #[.agg #[.int .i64 366, .int .i64 398], .int .i64 0]) ∧ Ext W w') := Lib.hid (fun v W hv => by have := Award_good twoC v W hv tw_case; rw [tw_award.1, tw_award.2] at this; exact this)
  have HF : Hid (∀ v W, CasV W v twoC → Calls Tryz.prog 8 #[v] W fun e w' => e = .returned (.tuple #[.agg #[.int .i64 0, .int .i64 31], .agg #[.int .i64 0, .int .i64 31], .int .i64 0]) ∧ Ext W w') := Lib.hid (fun v W hv => by have := Fees_good twoC v W hv tw_case; rw [tw_fees.1, tw_fees.2.1, tw_fees.2.2.1, tw_fees.2.2.2] at this; exact this)
  have HO : Hid (∀ v W, CasV W v twoC → Calls Tryz.prog 9 #[v] W fun e w' => e = .returned (.tuple #[.agg #[.int .i64 335, .int .i64 429], .int .i64 0]) ∧ Ext W w') := Lib.hid (fun v W hv => by have := Offers_good twoC v W hv tw_case; rw [tw_offers.1, tw_offers.2] at this; exact this)
  have HB : Hid (∀ a b W, Calls Tryz.prog 23 #[.int .i64 a, .int .i64 b] W fun e w' => e = .returned (.agg #[.int .i64 a, .int .i64 b]) ∧ Ext W w') := Lib.hid betweenU_any
  have HSM : Hid (∀ va vb W, IntsV W va [35, 18] → IntsV W vb [35, 18] → Calls Tryz.prog 22 #[.agg #[va, .int .i64 386, .int .i64 16, .int .i64 15], .agg #[vb, .int .i64 386, .int .i64 16, .int .i64 15]] W fun e w' => e = .returned (.bool true) ∧ Ext W w') := Lib.hid (fun va vb W h1 h2 => sameU_any va vb [35, 18] [35, 18] 386 16 15 386 16 15 W h1 h2 (by decide) (by decide))
  have HS4 : Hid (∀ va vb W, IntsV W va [33, 34, 35, 36] → IntsV W vb [33, 34, 35, 36] → Calls Tryz.prog 14 #[va, vb] W fun e w' => e = .returned (.bool true) ∧ Ext W w') := Lib.hid (fun va vb W h1 h2 => SameI_any va vb _ _ W h1 h2 (by decide) (by decide))
  have HS1 : Hid (∀ va vb W, IntsV W va [0] → IntsV W vb [0] → Calls Tryz.prog 14 #[va, vb] W fun e w' => e = .returned (.bool true) ∧ Ext W w') := Lib.hid (fun va vb W h1 h2 => SameI_any va vb _ _ W h1 h2 (by decide) (by decide))
  have XX : Ext w w := Ext.refl w
  generalize twoC = c at *
  generalize truthL 40 35 17 = t at *
  go_enter Tryz.func5, Tryz.ntmps5
  go_wp2_with fail
  (with_reducible refine (H2.out _).mono ?_)
  rintro e w1 ⟨v1, rfl, hv, hx⟩
  have hy : Ext w w1 := by (repeat (first | exact Ext.refl _ | (with_reducible assumption) | (with_reducible refine Ext.drew ?_) | (with_reducible refine Ext.alloc ?_ _) | (with_reducible refine Ext.drewN ?_ _) | (with_reducible refine Ext.setCell ?_ (by omega) _) | (with_reducible refine Ext.trans ?_ (by with_reducible assumption))))
  replace XX := XX.trans hy
  clear hx hy
  go_wp2_with fail
  (with_reducible refine (HT.out _).mono ?_)
  rintro e w2 ⟨v2, rfl, ht, hx⟩
  have hy : Ext w1 w2 := by (repeat (first | exact Ext.refl _ | (with_reducible assumption) | (with_reducible refine Ext.drew ?_) | (with_reducible refine Ext.alloc ?_ _) | (with_reducible refine Ext.drewN ?_ _) | (with_reducible refine Ext.setCell ?_ (by omega) _) | (with_reducible refine Ext.trans ?_ (by with_reducible assumption))))
  replace XX := XX.trans hy
  replace hv := hv.ext hy
  clear hx hy
  go_wp2_with fail
  (with_reducible refine (HP.out _ _ _ hv ht).mono ?_)
  rintro e w3 ⟨a3, q3, rfl, h3, hx⟩
  have hy : Ext w2 w3 := by (repeat (first | exact Ext.refl _ | (with_reducible assumption) | (with_reducible refine Ext.drew ?_) | (with_reducible refine Ext.alloc ?_ _) | (with_reducible refine Ext.drewN ?_ _) | (with_reducible refine Ext.setCell ?_ (by omega) _) | (with_reducible refine Ext.trans ?_ (by with_reducible assumption))))
  replace XX := XX.trans hy
  clear hx hy
  clear hv ht
  go_wp2_with fail
  (with_reducible refine (H2.out _).mono ?_)
  rintro e w4 ⟨v4, rfl, hv, hx⟩
  have hy : Ext w3 w4 := by (repeat (first | exact Ext.refl _ | (with_reducible assumption) | (with_reducible refine Ext.drew ?_) | (with_reducible refine Ext.alloc ?_ _) | (with_reducible refine Ext.drewN ?_ _) | (with_reducible refine Ext.setCell ?_ (by omega) _) | (with_reducible refine Ext.trans ?_ (by with_reducible assumption))))
  have b0 := hx.keep (k := w3.heap.size) (o := 0) (v := .slice a3 2 q3) (by simp [go_sem])
  have b1 := hx.keep (k := w3.heap.size) (o := 1) (v := .int .i64 386) (by simp [go_sem])
  have b2 := hx.keep (k := w3.heap.size) (o := 2) (v := .int .i64 16) (by simp [go_sem])
  have b3 := hx.keep (k := w3.heap.size) (o := 3) (v := .int .i64 15) (by simp [go_sem])
  replace XX := XX.trans hy
  replace h3 := h3.ext hy
  clear hx hy
  go_wp2_with fail
  (with_reducible refine (HC.out _ _ hv).mono ?_)
  rintro e w5 ⟨a5, q5, rfl, h5, hx⟩
  have hy : Ext w4 w5 := by (repeat (first | exact Ext.refl _ | (with_reducible assumption) | (with_reducible refine Ext.drew ?_) | (with_reducible refine Ext.alloc ?_ _) | (with_reducible refine Ext.drewN ?_ _) | (with_reducible refine Ext.setCell ?_ (by omega) _) | (with_reducible refine Ext.trans ?_ (by with_reducible assumption))))
  replace XX := XX.trans hy
  replace h3 := h3.ext hy
  replace b0 := hy.keep b0
  replace b1 := hy.keep b1
  replace b2 := hy.keep b2
  replace b3 := hy.keep b3
  clear hx hy
  clear hv
  go_wp2_with fail
  (with_reducible refine (H2.out _).mono ?_)
  rintro e w6 ⟨v6, rfl, hv, hx⟩
  have hy : Ext w5 w6 := by (repeat (first | exact Ext.refl _ | (with_reducible assumption) | (with_reducible refine Ext.drew ?_) | (with_reducible refine Ext.alloc ?_ _) | (with_reducible refine Ext.drewN ?_ _) | (with_reducible refine Ext.setCell ?_ (by omega) _) | (with_reducible refine Ext.trans ?_ (by with_reducible assumption))))
  replace XX := XX.trans hy
  replace h3 := h3.ext hy
  replace b0 := hy.keep b0
  replace b1 := hy.keep b1
  replace b2 := hy.keep b2
  replace b3 := hy.keep b3
  replace h5 := h5.ext hy
  clear hx hy
  go_wp2_with fail
  (with_reducible refine (HL.out _ _ hv).mono ?_)
  rintro e w7 ⟨rfl, hx⟩
  have hy : Ext w6 w7 := by (repeat (first | exact Ext.refl _ | (with_reducible assumption) | (with_reducible refine Ext.drew ?_) | (with_reducible refine Ext.alloc ?_ _) | (with_reducible refine Ext.drewN ?_ _) | (with_reducible refine Ext.setCell ?_ (by omega) _) | (with_reducible refine Ext.trans ?_ (by with_reducible assumption))))
  replace XX := XX.trans hy
  replace h3 := h3.ext hy
  replace b0 := hy.keep b0
  replace b1 := hy.keep b1
  replace b2 := hy.keep b2
  replace b3 := hy.keep b3
  replace h5 := h5.ext hy
  clear hx hy
  clear hv
  go_wp2_with fail
  (with_reducible refine (H2.out _).mono ?_)
  rintro e w8 ⟨v8, rfl, hv, hx⟩
  have hy : Ext w7 w8 := by (repeat (first | exact Ext.refl _ | (with_reducible assumption) | (with_reducible refine Ext.drew ?_) | (with_reducible refine Ext.alloc ?_ _) | (with_reducible refine Ext.drewN ?_ _) | (with_reducible refine Ext.setCell ?_ (by omega) _) | (with_reducible refine Ext.trans ?_ (by with_reducible assumption))))
  replace XX := XX.trans hy
  replace h3 := h3.ext hy
  replace b0 := hy.keep b0
  replace b1 := hy.keep b1
  replace b2 := hy.keep b2
  replace b3 := hy.keep b3
  replace h5 := h5.ext hy
  clear hx hy
  go_wp2_with fail
  (with_reducible refine (HA.out _ _ hv).mono ?_)
  rintro e w9 ⟨rfl, hx⟩
  have hy : Ext w8 w9 := by (repeat (first | exact Ext.refl _ | (with_reducible assumption) | (with_reducible refine Ext.drew ?_) | (with_reducible refine Ext.alloc ?_ _) | (with_reducible refine Ext.drewN ?_ _) | (with_reducible refine Ext.setCell ?_ (by omega) _) | (with_reducible refine Ext.trans ?_ (by with_reducible assumption))))
  replace XX := XX.trans hy
  replace h3 := h3.ext hy
  replace b0 := hy.keep b0
  replace b1 := hy.keep b1
  replace b2 := hy.keep b2
  replace b3 := hy.keep b3
  replace h5 := h5.ext hy
  clear hx hy
  clear hv
  go_wp2_with fail
  (with_reducible refine (H2.out _).mono ?_)
  rintro e w10 ⟨v10, rfl, hv, hx⟩
  have hy : Ext w9 w10 := by (repeat (first | exact Ext.refl _ | (with_reducible assumption) | (with_reducible refine Ext.drew ?_) | (with_reducible refine Ext.alloc ?_ _) | (with_reducible refine Ext.drewN ?_ _) | (with_reducible refine Ext.setCell ?_ (by omega) _) | (with_reducible refine Ext.trans ?_ (by with_reducible assumption))))
  have d0 := hx.keep (k := w9.heap.size) (o := 0) (v := .int .i64 366) (by simp [go_sem])
  have d1 := hx.keep (k := w9.heap.size) (o := 1) (v := .int .i64 398) (by simp [go_sem])
  replace XX := XX.trans hy
  replace h3 := h3.ext hy
  replace b0 := hy.keep b0
  replace b1 := hy.keep b1
  replace b2 := hy.keep b2
  replace b3 := hy.keep b3
  replace h5 := h5.ext hy
  clear hx hy
  go_wp2_with fail
  (with_reducible refine (HF.out _ _ hv).mono ?_)
  rintro e w11 ⟨rfl, hx⟩
  have hy : Ext w10 w11 := by (repeat (first | exact Ext.refl _ | (with_reducible assumption) | (with_reducible refine Ext.drew ?_) | (with_reducible refine Ext.alloc ?_ _) | (with_reducible refine Ext.drewN ?_ _) | (with_reducible refine Ext.setCell ?_ (by omega) _) | (with_reducible refine Ext.trans ?_ (by with_reducible assumption))))
  replace XX := XX.trans hy
  replace h3 := h3.ext hy
  replace b0 := hy.keep b0
  replace b1 := hy.keep b1
  replace b2 := hy.keep b2
  replace b3 := hy.keep b3
  replace h5 := h5.ext hy
  replace d0 := hy.keep d0
  replace d1 := hy.keep d1
  clear hx hy
  clear hv
  go_wp2_with fail
  (with_reducible refine (H2.out _).mono ?_)
  rintro e w12 ⟨v12, rfl, hv, hx⟩
  have hy : Ext w11 w12 := by (repeat (first | exact Ext.refl _ | (with_reducible assumption) | (with_reducible refine Ext.drew ?_) | (with_reducible refine Ext.alloc ?_ _) | (with_reducible refine Ext.drewN ?_ _) | (with_reducible refine Ext.setCell ?_ (by omega) _) | (with_reducible refine Ext.trans ?_ (by with_reducible assumption))))
  have f0 := hx.keep (k := w11.heap.size) (o := 0) (v := .int .i64 0) (by simp [go_sem])
  have f1 := hx.keep (k := w11.heap.size) (o := 1) (v := .int .i64 31) (by simp [go_sem])
  have g0 := hx.keep (k := w11.heap.size + 1) (o := 0) (v := .int .i64 0) (by simp [go_sem])
  have g1 := hx.keep (k := w11.heap.size + 1) (o := 1) (v := .int .i64 31) (by simp [go_sem])
  replace XX := XX.trans hy
  replace h3 := h3.ext hy
  replace b0 := hy.keep b0
  replace b1 := hy.keep b1
  replace b2 := hy.keep b2
  replace b3 := hy.keep b3
  replace h5 := h5.ext hy
  replace d0 := hy.keep d0
  replace d1 := hy.keep d1
  clear hx hy
  go_wp2_with fail
  (with_reducible refine (HO.out _ _ hv).mono ?_)
  rintro e w13 ⟨rfl, hx⟩
  have hy : Ext w12 w13 := by (repeat (first | exact Ext.refl _ | (with_reducible assumption) | (with_reducible refine Ext.drew ?_) | (with_reducible refine Ext.alloc ?_ _) | (with_reducible refine Ext.drewN ?_ _) | (with_reducible refine Ext.setCell ?_ (by omega) _) | (with_reducible refine Ext.trans ?_ (by with_reducible assumption))))
  replace XX := XX.trans hy
  replace h3 := h3.ext hy
  replace b0 := hy.keep b0
  replace b1 := hy.keep b1
  replace b2 := hy.keep b2
  replace b3 := hy.keep b3
  replace h5 := h5.ext hy
  replace d0 := hy.keep d0
  replace d1 := hy.keep d1
  replace f0 := hy.keep f0
  replace f1 := hy.keep f1
  replace g0 := hy.keep g0
  replace g1 := hy.keep g1
  clear hx hy
  clear hv
  go_wp2_with fail
  (with_reducible refine (H2.out _).mono ?_)
  rintro e w14 ⟨v14, rfl, hv, hx⟩
  have hy : Ext w13 w14 := by (repeat (first | exact Ext.refl _ | (with_reducible assumption) | (with_reducible refine Ext.drew ?_) | (with_reducible refine Ext.alloc ?_ _) | (with_reducible refine Ext.drewN ?_ _) | (with_reducible refine Ext.setCell ?_ (by omega) _) | (with_reducible refine Ext.trans ?_ (by with_reducible assumption))))
  have o0 := hx.keep (k := w13.heap.size) (o := 0) (v := .int .i64 335) (by simp [go_sem])
  have o1 := hx.keep (k := w13.heap.size) (o := 1) (v := .int .i64 429) (by simp [go_sem])
  replace XX := XX.trans hy
  replace h3 := h3.ext hy
  replace b0 := hy.keep b0
  replace b1 := hy.keep b1
  replace b2 := hy.keep b2
  replace b3 := hy.keep b3
  replace h5 := h5.ext hy
  replace d0 := hy.keep d0
  replace d1 := hy.keep d1
  replace f0 := hy.keep f0
  replace f1 := hy.keep f1
  replace g0 := hy.keep g0
  replace g1 := hy.keep g1
  clear hx hy
  go_wp2_with fail
  (with_reducible refine (HM.out _ _ hv).mono ?_)
  rintro e w15 ⟨a15, q15, rfl, h15, hx⟩
  have hy : Ext w14 w15 := by (repeat (first | exact Ext.refl _ | (with_reducible assumption) | (with_reducible refine Ext.drew ?_) | (with_reducible refine Ext.alloc ?_ _) | (with_reducible refine Ext.drewN ?_ _) | (with_reducible refine Ext.setCell ?_ (by omega) _) | (with_reducible refine Ext.trans ?_ (by with_reducible assumption))))
  replace XX := XX.trans hy
  replace h3 := h3.ext hy
  replace b0 := hy.keep b0
  replace b1 := hy.keep b1
  replace b2 := hy.keep b2
  replace b3 := hy.keep b3
  replace h5 := h5.ext hy
  replace d0 := hy.keep d0
  replace d1 := hy.keep d1
  replace f0 := hy.keep f0
  replace f1 := hy.keep f1
  replace g0 := hy.keep g0
  replace g1 := hy.keep g1
  replace o0 := hy.keep o0
  replace o1 := hy.keep o1
  clear hx hy
  clear hv
  clear H2 HT HP HC HM HL HA HF HO
  go_wp2_with fail
  simp only [List.append]
  have HS : Hid (∀ w', Ext w15 w' → (w'.cell? ⟨w3.heap.size, 0, none⟩ = some (.slice a3 2 q3) ∧ w'.cell? ⟨w3.heap.size, 1, none⟩ = some (.int .i64 386) ∧ w'.cell? ⟨w3.heap.size, 2, none⟩ = some (.int .i64 16) ∧ w'.cell? ⟨w3.heap.size, 3, none⟩ = some (.int .i64 15) ∧ w'.cell? ⟨w9.heap.size, 0, none⟩ = some (.int .i64 366) ∧ w'.cell? ⟨w9.heap.size, 1, none⟩ = some (.int .i64 398) ∧ w'.cell? ⟨w11.heap.size, 0, none⟩ = some (.int .i64 0) ∧ w'.cell? ⟨w11.heap.size, 1, none⟩ = some (.int .i64 31) ∧ w'.cell? ⟨w11.heap.size + 1, 0, none⟩ = some (.int .i64 0) ∧ w'.cell? ⟨w11.heap.size + 1, 1, none⟩ = some (.int .i64 31) ∧ w'.cell? ⟨w13.heap.size, 0, none⟩ = some (.int .i64 335) ∧ w'.cell? ⟨w13.heap.size, 1, none⟩ = some (.int .i64 429)) ∧ Ext w15 w') := Lib.hid (fun w' hx => ⟨⟨hx.keep (by simp [go_sem, *]), hx.keep (by simp [go_sem, *]), hx.keep (by simp [go_sem, *]), hx.keep (by simp [go_sem, *]), hx.keep (by simp [go_sem, *]), hx.keep (by simp [go_sem, *]), hx.keep (by simp [go_sem, *]), hx.keep (by simp [go_sem, *]), hx.keep (by simp [go_sem, *]), hx.keep (by simp [go_sem, *]), hx.keep (by simp [go_sem, *]), hx.keep (by simp [go_sem, *])⟩, hx⟩)
  clear b0 b1 b2 b3 d0 d1 f0 f1 g0 g1 o0 o1
  go_region_held3 (fun w' => (w'.cell? ⟨w3.heap.size, 0, none⟩ = some (.slice a3 2 q3) ∧ w'.cell? ⟨w3.heap.size, 1, none⟩ = some (.int .i64 386) ∧ w'.cell? ⟨w3.heap.size, 2, none⟩ = some (.int .i64 16) ∧ w'.cell? ⟨w3.heap.size, 3, none⟩ = some (.int .i64 15) ∧ w'.cell? ⟨w9.heap.size, 0, none⟩ = some (.int .i64 366) ∧ w'.cell? ⟨w9.heap.size, 1, none⟩ = some (.int .i64 398) ∧ w'.cell? ⟨w11.heap.size, 0, none⟩ = some (.int .i64 0) ∧ w'.cell? ⟨w11.heap.size, 1, none⟩ = some (.int .i64 31) ∧ w'.cell? ⟨w11.heap.size + 1, 0, none⟩ = some (.int .i64 0) ∧ w'.cell? ⟨w11.heap.size + 1, 1, none⟩ = some (.int .i64 31) ∧ w'.cell? ⟨w13.heap.size, 0, none⟩ = some (.int .i64 335) ∧ w'.cell? ⟨w13.heap.size, 1, none⟩ = some (.int .i64 429)) ∧ Ext w15 w')
    ((refine HS.out _ ?_; (repeat (first | exact Ext.refl _ | (with_reducible assumption) | (with_reducible refine Ext.drew ?_) | (with_reducible refine Ext.alloc ?_ _) | (with_reducible refine Ext.drewN ?_ _) | (with_reducible refine Ext.setCell ?_ (by omega) _) | (with_reducible refine Ext.trans ?_ (by with_reducible assumption))))))
    (first
      | (go_at_call 22; (with_reducible refine (HSM.out _ _ _ (h3.ext (by (repeat (first | exact Ext.refl _ | (with_reducible assumption) | (with_reducible refine Ext.drew ?_) | (with_reducible refine Ext.alloc ?_ _) | (with_reducible refine Ext.drewN ?_ _) | (with_reducible refine Ext.setCell ?_ (by omega) _) | (with_reducible refine Ext.trans ?_ (by with_reducible assumption)))))) (cells2 35 18 (by simp [go_sem]) (by simp [go_sem]) (by decide))).mono ?_); rintro e w16 ⟨rfl, hx16⟩)
      | (go_at_call 14; (first | (with_reducible refine (HS4.out _ _ _ (h5.ext (by (repeat (first | exact Ext.refl _ | (with_reducible assumption) | (with_reducible refine Ext.drew ?_) | (with_reducible refine Ext.alloc ?_ _) | (with_reducible refine Ext.drewN ?_ _) | (with_reducible refine Ext.setCell ?_ (by omega) _) | (with_reducible refine Ext.trans ?_ (by with_reducible assumption)))))) (cells4 33 34 35 36 (by simp [go_sem]) (by simp [go_sem]) (by simp [go_sem]) (by simp [go_sem]) (by decide))).mono ?_) | (with_reducible refine (HS1.out _ _ _ (h15.ext (by (repeat (first | exact Ext.refl _ | (with_reducible assumption) | (with_reducible refine Ext.drew ?_) | (with_reducible refine Ext.alloc ?_ _) | (with_reducible refine Ext.drewN ?_ _) | (with_reducible refine Ext.setCell ?_ (by omega) _) | (with_reducible refine Ext.trans ?_ (by with_reducible assumption)))))) (cells1 0 (by simp [go_sem]) (by decide))).mono ?_)); rintro e w17 ⟨rfl, hx17⟩)
      | (go_at_call 23; (with_reducible refine (HB.out _ _ _).mono ?_); rintro e w18 ⟨rfl, hx18⟩))
  go_wp2_with fail
  go_ret
  exact ⟨rfl, by (repeat (first | exact Ext.refl _ | (with_reducible assumption) | (with_reducible refine Ext.drew ?_) | (with_reducible refine Ext.alloc ?_ _) | (with_reducible refine Ext.drewN ?_ _) | (with_reducible refine Ext.setCell ?_ (by omega) _) | (with_reducible refine Ext.trans ?_ (by with_reducible assumption))))⟩
end Go.Proofs.YtedblocbcjoolaaGreat

/- Contracts of layer 7's law and reference: whether a case is valid, and thin. -/
namespace Go.Hs
open Go.RowKit Go.Proofs.YtedblocbcjoolaaGreat
/-- A field is valid: in the reference's words. -/
def fieldR (cn : Int) (f : Fld) : Bool := inR f.crop 0 (cn - 1) && (inR f.value 0 100000 && (inR f.near 0 100 && (countsB f.alo f.ahi && (countsB f.blo f.bhi && countsB f.ulo f.uhi))))
theorem fieldR_eq {c : Cas} (h : checkS c.tars = 0) (hd : 0 ≤ c.day ∧ c.day ≤ 120) (f : Fld) : fieldB c f = fieldR (cropsN c.tars) f := by
  rw [Bool.eq_iff_iff, fieldB_iff h hd]
  unfold fieldR
  simp only [Bool.and_eq_true, inR_iff, countsB_iff]
  constructor
  · intro k; exact ⟨⟨k.crop.1, by have := k.crop.2; omega⟩, k.value, k.near, k.a, k.b, k.u⟩
  · rintro ⟨h1, h2, h3, h4, h5, h6⟩; exact ⟨⟨h1.1, by omega⟩, h2, h3, h4, h5, h6⟩
theorem Cells9.at' {w : World} {a : Option Addr} {us : List V9} (h : Cells9 w a us) (i : Nat) (hi : i < us.length) : ∃ b off, a = some ⟨b, off, none⟩ ∧ Cell9 w b (off + i * 9) us[i] := h i hi
end Go.Hs
namespace Go.Proofs.YtedblocbcjoolaaGreat
open Go.RowKit Go.Hs
attribute [local irreducible] World.setCell World.alloc
set_option maxRecDepth 100000 in
set_option maxHeartbeats 1000000 in
theorem IsCountsU_any (lo hi : Int) (w : World) :
    Calls Tryz.prog 58 #[.agg #[.int .i64 lo, .int .i64 hi]] w fun e w' => e = .returned (.bool (countsB lo hi)) ∧ Ext w w' := by
  by_cases h1 : 0 ≤ lo
  · by_cases h2 : lo ≤ hi
    · by_cases h3 : hi ≤ 100
      · have hs : IntKind.i64.wrap (hi - lo) = hi - lo := IntWalk.i64_in _ (by omega)
        by_cases h4 : hi - lo ≤ 4
        · have HE : Hid (countsB lo hi = true) := Lib.hid (by simp [countsB, h1, h2, h3, h4])
          generalize countsB lo hi = r at *
          go_enter Tryz.func58, Tryz.ntmps58
          go_wp2_with fail
          go_ret
          exact ⟨ret_bool HE.out.symm, by (repeat (first | exact Ext.refl _ | (with_reducible assumption) | (with_reducible refine Ext.drew ?_) | (with_reducible refine Ext.alloc ?_ _) | (with_reducible refine Ext.drewN ?_ _) | (with_reducible refine Ext.setCell ?_ (by omega) _) | (with_reducible refine Ext.trans ?_ (by with_reducible assumption))))⟩
        · have HE : Hid (countsB lo hi = false) := Lib.hid (by simp [countsB]; omega)
          generalize countsB lo hi = r at *
          go_enter Tryz.func58, Tryz.ntmps58
          go_wp2_with fail
          go_ret
          exact ⟨ret_bool HE.out.symm, by (repeat (first | exact Ext.refl _ | (with_reducible assumption) | (with_reducible refine Ext.drew ?_) | (with_reducible refine Ext.alloc ?_ _) | (with_reducible refine Ext.drewN ?_ _) | (with_reducible refine Ext.setCell ?_ (by omega) _) | (with_reducible refine Ext.trans ?_ (by with_reducible assumption))))⟩
      · have HE : Hid (countsB lo hi = false) := Lib.hid (by simp [countsB]; omega)
        generalize countsB lo hi = r at *
        go_enter Tryz.func58, Tryz.ntmps58
        go_wp2_with fail
        go_ret
        exact ⟨ret_bool HE.out.symm, by (repeat (first | exact Ext.refl _ | (with_reducible assumption) | (with_reducible refine Ext.drew ?_) | (with_reducible refine Ext.alloc ?_ _) | (with_reducible refine Ext.drewN ?_ _) | (with_reducible refine Ext.setCell ?_ (by omega) _) | (with_reducible refine Ext.trans ?_ (by with_reducible assumption))))⟩
    · have HE : Hid (countsB lo hi = false) := Lib.hid (by simp [countsB]; omega)
      generalize countsB lo hi = r at *
      go_enter Tryz.func58, Tryz.ntmps58
      go_wp2_with fail
      go_ret
      exact ⟨ret_bool HE.out.symm, by (repeat (first | exact Ext.refl _ | (with_reducible assumption) | (with_reducible refine Ext.drew ?_) | (with_reducible refine Ext.alloc ?_ _) | (with_reducible refine Ext.drewN ?_ _) | (with_reducible refine Ext.setCell ?_ (by omega) _) | (with_reducible refine Ext.trans ?_ (by with_reducible assumption))))⟩
  · have HE : Hid (countsB lo hi = false) := Lib.hid (by simp [countsB]; omega)
    generalize countsB lo hi = r at *
    go_enter Tryz.func58, Tryz.ntmps58
    go_wp2_with fail
    go_ret
    exact ⟨ret_bool HE.out.symm, by (repeat (first | exact Ext.refl _ | (with_reducible assumption) | (with_reducible refine Ext.drew ?_) | (with_reducible refine Ext.alloc ?_ _) | (with_reducible refine Ext.drewN ?_ _) | (with_reducible refine Ext.setCell ?_ (by omega) _) | (with_reducible refine Ext.trans ?_ (by with_reducible assumption))))⟩

set_option maxRecDepth 100000 in
set_option maxHeartbeats 4000000 in
theorem FaultU_any (c : Cas) (v : Value) (w : World) (hv : CasV w v c) :
    Calls Tryz.prog 33 #[v] w fun e w' => e = .returned (.int .i64 (caseE c)) ∧ Ext w w' := by
  obtain ⟨a1, c1, a2, c2, rfl, ht, hf, hcl, hl1, hl2⟩ := hv.open
  have HCT : Hid (∀ w', Ext w w' → Calls Tryz.prog 55 #[.slice a1 c.tars.length c1] w' fun e w'' => e = .returned (.int .i64 (checkS c.tars)) ∧ Ext w' w'') := Lib.hid (fun w' hx => Fault_any _ c.tars w' (ht.ext hx))
  have HE : Hid (caseE c = if checkS c.tars ≠ 0 then checkS c.tars else if 3 < c.flds.length then 3 else if inR c.day 0 120 && (inR c.fee 0 10000 && fieldsB c) then 0 else 1) := rfl
  have HIN : Hid (∀ n lo hi w', Calls Tryz.prog 56 #[.int .i64 n, .int .i64 lo, .int .i64 hi] w' fun e w'' => e = .returned (.bool (inR n lo hi)) ∧ Ext w' w'') := Lib.hid (fun n lo hi W => (In_any n lo hi W).mono fun e w' h => ⟨h.1, h.2 ▸ Ext.refl _⟩)
  have HCR : Hid (checkS c.tars = 0 → ∀ w', Ext w w' → Calls Tryz.prog 57 #[.slice a1 c.tars.length c1] w' fun e w'' => e = .returned (.int .i64 (cropsN c.tars)) ∧ Ext w' w'') := Lib.hid (fun h w' hx => (Crops_any _ c.tars w' (ht.ext hx) (validL_of h).pos).mono fun e w' h => ⟨h.1, h.2 ▸ Ext.refl _⟩)
  have HCN : Hid (checkS c.tars = 0 → (cropsN c.tars : Int) ≤ 140737488351232) := Lib.hid (fun h => by
    obtain ⟨a, c', -, -, -, hr⟩ := id ht
    have hp := (validL_of h).pos
    obtain ⟨b, o, -, ht⟩ := hr 0 hp
    obtain ⟨a3, k3, a4, k4, a5, k5, -, -, -, -, -, -, mc⟩ := ht.open
    have := mc.rates.len_le.2
    have e : c.tars[0] = c.tars.getD 0 default := by simp [hp]
    rw [e] at this
    unfold cropsN; omega)
  have HFR : Hid (checkS c.tars = 0 → inR c.day 0 120 = true → ∀ f, fieldB c f = fieldR (cropsN c.tars) f) := Lib.hid (fun h h2 f => fieldR_eq h (inR_iff.1 h2) f)
  have HFY : Hid ((∀ m, m < c.flds.length → fieldB c (c.flds.getD m default) = true) → fieldsB c = true) := Lib.hid (fun h => allB_iff.2 h)
  have HFN : Hid (∀ m, m < c.flds.length → fieldB c (c.flds.getD m default) = false → fieldsB c = false) := Lib.hid (fun m hm h => by
    rw [← Bool.not_eq_true]; intro g; have := allB_iff.1 g m hm; rw [h] at this; cases this)
  have HC : Hid (∀ w', Ext w w' → ∀ k (hk : k < c.flds.length), ∃ b off, a2 = some ⟨b, off, none⟩ ∧ Cell9 w' b (off + k * 9) (c.flds.getD k default).c) := Lib.hid (fun w' hx k hk => by
    obtain ⟨b, off, h1, h2⟩ := (hcl.ext hx) k (by simpa using hk)
    exact ⟨b, off, h1, by simpa [hk] using h2⟩)
  clear hv ht hf hcl
  generalize caseE c = r at *
  generalize checkS c.tars = ck at *
  generalize fieldsB c = fb at *
  generalize fieldB c = fB at *
  generalize cropsN c.tars = cn at *
  generalize c.tars.length = n1 at *
  generalize hn2 : c.flds.length = n2 at *
  generalize c.day = day at *
  generalize c.fee = fee at *
  generalize c.flds = fl at *
  go_enter Tryz.func33, Tryz.ntmps33
  go_wp2_with fail
  have X : Ext w (w.alloc (.cells #[.slice a1 n1 c1, .int .i64 day, .int .i64 fee, .slice a2 n2 c2] 25)) := by (repeat (first | exact Ext.refl _ | (with_reducible assumption) | (with_reducible refine Ext.drew ?_) | (with_reducible refine Ext.alloc ?_ _) | (with_reducible refine Ext.drewN ?_ _) | (with_reducible refine Ext.setCell ?_ (by omega) _) | (with_reducible refine Ext.trans ?_ (by with_reducible assumption))))
  have HS : Hid (∀ w', Ext (w.alloc (.cells #[.slice a1 n1 c1, .int .i64 day, .int .i64 fee, .slice a2 n2 c2] 25)) w' → (w'.cell? ⟨w.heap.size, 0, none⟩ = some (.slice a1 n1 c1) ∧ w'.cell? ⟨w.heap.size, 1, none⟩ = some (.int .i64 day) ∧ w'.cell? ⟨w.heap.size, 2, none⟩ = some (.int .i64 fee) ∧ w'.cell? ⟨w.heap.size, 3, none⟩ = some (.slice a2 n2 c2)) ∧ Ext (w.alloc (.cells #[.slice a1 n1 c1, .int .i64 day, .int .i64 fee, .slice a2 n2 c2] 25)) w') := Lib.hid (fun w' hx => ⟨⟨hx.keep (by simp [go_sem]), hx.keep (by simp [go_sem]), hx.keep (by simp [go_sem]), hx.keep (by simp [go_sem])⟩, hx⟩)
  have HSf : Hid (∀ w', Ext (w.alloc (.cells #[.slice a1 n1 c1, .int .i64 day, .int .i64 fee, .slice a2 n2 c2] 25)) w' → ∀ o, w'.frozen? ⟨w.heap.size, o, none⟩ = false) := Lib.hid (fun w' hx o => (hx.frozen (by simp)).trans (by simp [go_sem]))
  have HSz : w.heap.size + 1 ≤ (w.alloc (.cells #[.slice a1 n1 c1, .int .i64 day, .int .i64 fee, .slice a2 n2 c2] 25)).heap.size := by simp
  generalize (w.alloc (.cells #[.slice a1 n1 c1, .int .i64 day, .int .i64 fee, .slice a2 n2 c2] 25)) = W at *
  clear HSf
  (with_reducible refine (HCT.out _ (by (repeat (first | exact Ext.refl _ | (with_reducible assumption) | (with_reducible refine Ext.drew ?_) | (with_reducible refine Ext.alloc ?_ _) | (with_reducible refine Ext.drewN ?_ _) | (with_reducible refine Ext.setCell ?_ (by omega) _) | (with_reducible refine Ext.trans ?_ (by with_reducible assumption)))))).mono ?_)
  rintro e w1 ⟨rfl, hx1⟩
  obtain ⟨⟨q0, q1, q2, q3⟩, -⟩ := HS.out w1 hx1
  have X1 : Ext w w1 := by (repeat (first | exact Ext.refl _ | (with_reducible assumption) | (with_reducible refine Ext.drew ?_) | (with_reducible refine Ext.alloc ?_ _) | (with_reducible refine Ext.drewN ?_ _) | (with_reducible refine Ext.setCell ?_ (by omega) _) | (with_reducible refine Ext.trans ?_ (by with_reducible assumption))))
  by_cases h0 : ck = 0
  · subst h0
    have HE' : Hid (r = if 3 < n2 then 3 else if inR day 0 120 && (inR fee 0 10000 && fb) then 0 else 1) := HE.out
    have HCN' := HCN.out (by first | trivial | rfl)
    clear HE HCT HCN
    by_cases h3 : 3 < n2
    · have HR : Hid (r = 3) := Lib.hid (by rw [HE'.out, if_pos h3])
      have hd : decide ((3 : Int) < (n2 : Int)) = true := decide_eq_true (by omega)
      clear HE'
      go_wp2_with fail
      go_ret
      exact ⟨congrArg (fun x => Ending.returned (.int .i64 x)) HR.out.symm, by (repeat (first | exact Ext.refl _ | (with_reducible assumption) | (with_reducible refine Ext.drew ?_) | (with_reducible refine Ext.alloc ?_ _) | (with_reducible refine Ext.drewN ?_ _) | (with_reducible refine Ext.setCell ?_ (by omega) _) | (with_reducible refine Ext.trans ?_ (by with_reducible assumption))))⟩
    · have hd : decide ((3 : Int) < (n2 : Int)) = false := decide_eq_false (by omega)
      have HE2 : Hid (r = if inR day 0 120 && (inR fee 0 10000 && fb) then 0 else 1) := Lib.hid (by rw [HE'.out, if_neg h3])
      clear HE'
      go_wp2_with fail
      (with_reducible refine (HIN.out _ _ _ _).mono ?_)
      rintro e w2 ⟨rfl, hx2⟩
      have X2 : Ext w w2 := by (repeat (first | exact Ext.refl _ | (with_reducible assumption) | (with_reducible refine Ext.drew ?_) | (with_reducible refine Ext.alloc ?_ _) | (with_reducible refine Ext.drewN ?_ _) | (with_reducible refine Ext.setCell ?_ (by omega) _) | (with_reducible refine Ext.trans ?_ (by with_reducible assumption))))
      have q2' := hx2.keep q2
      have q1' := hx2.keep q1
      have q3' := hx2.keep q3
      have q0' := hx2.keep q0
      cases hb1 : inR day 0 120 with
      | false =>
        have HR : Hid (r = 1) := Lib.hid (by rw [HE2.out, hb1]; rfl)
        clear HE2
        go_wp2_with fail
        go_ret
        exact ⟨congrArg (fun x => Ending.returned (.int .i64 x)) HR.out.symm, by (repeat (first | exact Ext.refl _ | (with_reducible assumption) | (with_reducible refine Ext.drew ?_) | (with_reducible refine Ext.alloc ?_ _) | (with_reducible refine Ext.drewN ?_ _) | (with_reducible refine Ext.setCell ?_ (by omega) _) | (with_reducible refine Ext.trans ?_ (by with_reducible assumption))))⟩
      | true =>
        have HE3 : Hid (r = if inR fee 0 10000 && fb then 0 else 1) := Lib.hid (by rw [HE2.out, hb1]; rfl)
        have HFR' := Lib.hid (HFR.out (by first | trivial | rfl) hb1)
        clear HE2 HFR
        go_wp2_with fail
        (with_reducible refine (HIN.out _ _ _ _).mono ?_)
        rintro e w3 ⟨rfl, hx3⟩
        have X3 : Ext w w3 := by (repeat (first | exact Ext.refl _ | (with_reducible assumption) | (with_reducible refine Ext.drew ?_) | (with_reducible refine Ext.alloc ?_ _) | (with_reducible refine Ext.drewN ?_ _) | (with_reducible refine Ext.setCell ?_ (by omega) _) | (with_reducible refine Ext.trans ?_ (by with_reducible assumption))))
        have HS3 := Lib.hid (fun w' (hx : Ext w3 w') => (HS.out w' (hx1.trans (hx2.trans (hx3.trans hx)))).1)
        cases hb2 : inR fee 0 10000 with
        | false =>
          have HR : Hid (r = 1) := Lib.hid (by rw [HE3.out, hb2]; rfl)
          clear HE3
          go_wp2_with fail
          go_ret
          exact ⟨congrArg (fun x => Ending.returned (.int .i64 x)) HR.out.symm, by (repeat (first | exact Ext.refl _ | (with_reducible assumption) | (with_reducible refine Ext.drew ?_) | (with_reducible refine Ext.alloc ?_ _) | (with_reducible refine Ext.drewN ?_ _) | (with_reducible refine Ext.setCell ?_ (by omega) _) | (with_reducible refine Ext.trans ?_ (by with_reducible assumption))))⟩
        | true =>
          have HE4 : Hid (r = if fb then 0 else 1) := Lib.hid (by rw [HE3.out, hb2]; rfl)
          clear HE3 HS q0 q1 q2 q3 q0' q1' q2' q3' hx1 hx2 hx3 X2 hb1 hb2
          have HCR' := Lib.hid (HCR.out (by first | trivial | rfl))
          clear HCR
          go_wp2_with fail
          go_loopw [4] (fun s4 wr => ∃ k : Nat, k ≤ n2 ∧ s4 = .int .i64 k ∧ Hid (∀ m, m < k → fB (fl.getD m default) = true) ∧ Ext w3 wr) (fun s _ => n2 - (intOf s).toNat)
          case atStart => exact ⟨0, Nat.zero_le _, rfl, fun m h => absurd h (Nat.not_lt_zero _), Ext.refl _⟩
          case round =>
            obtain ⟨k, hk, rfl, HI, hx⟩ := hrel
            obtain ⟨wa, rfl⟩ : ∃ x, x = wr := ⟨_, rfl⟩
            obtain ⟨q0, q1, q2, q3⟩ := HS3.out wa hx
            have Xa : Ext w wa := by (repeat (first | exact Ext.refl _ | (with_reducible assumption) | (with_reducible refine Ext.drew ?_) | (with_reducible refine Ext.alloc ?_ _) | (with_reducible refine Ext.drewN ?_ _) | (with_reducible refine Ext.setCell ?_ (by omega) _) | (with_reducible refine Ext.trans ?_ (by with_reducible assumption))))
            by_cases hlt : k < n2
            · obtain ⟨b, off, rfl, m0, m1, m2, m3, m4, m5, m6, m7, m8⟩ := HC.out wa Xa k hlt
              have HFX : Hid (fB (fl.getD k default) = true → ∀ m, m < k + 1 → fB (fl.getD m default) = true) := fun h m hm => by
                rcases Nat.lt_succ_iff_lt_or_eq.1 hm with h' | rfl
                · exact HI.out m h'
                · exact h
              have HFN' := Lib.hid (HFN.out k hlt)
              have HF := Lib.hid (HFR'.out (fl.getD k default))
              generalize fl.getD k default = f at *
              simp only [Fld.c] at m0 m1 m2 m3 m4 m5 m6 m7 m8
              have hsub : IntKind.i64.wrap ((cn : Int) - 1) = (cn : Int) - 1 := IntWalk.i64_in _ (by omega)
              clear HC HFN HFR' HFY
              go_upto_region 12 with fail
              have HK : Hid (∀ w', Ext (wa.alloc (.cells #[.int .i64 f.crop, .int .i64 f.value, .int .i64 f.near, .int .i64 f.alo, .int .i64 f.ahi, .int .i64 f.blo, .int .i64 f.bhi, .int .i64 f.ulo, .int .i64 f.uhi] 76)) w' → (w'.cell? ⟨wa.heap.size, 0, none⟩ = some (.int .i64 f.crop) ∧ w'.cell? ⟨wa.heap.size, 1, none⟩ = some (.int .i64 f.value) ∧ w'.cell? ⟨wa.heap.size, 2, none⟩ = some (.int .i64 f.near) ∧ w'.cell? ⟨wa.heap.size, 3, none⟩ = some (.int .i64 f.alo) ∧ w'.cell? ⟨wa.heap.size, 4, none⟩ = some (.int .i64 f.ahi) ∧ w'.cell? ⟨wa.heap.size, 5, none⟩ = some (.int .i64 f.blo) ∧ w'.cell? ⟨wa.heap.size, 6, none⟩ = some (.int .i64 f.bhi) ∧ w'.cell? ⟨wa.heap.size, 7, none⟩ = some (.int .i64 f.ulo) ∧ w'.cell? ⟨wa.heap.size, 8, none⟩ = some (.int .i64 f.uhi) ∧ w'.cell? ⟨w.heap.size, 0, none⟩ = some (.slice a1 n1 c1) ∧ w'.cell? ⟨w.heap.size, 1, none⟩ = some (.int .i64 day) ∧ w'.cell? ⟨w.heap.size, 2, none⟩ = some (.int .i64 fee) ∧ w'.cell? ⟨w.heap.size, 3, none⟩ = some (.slice (some ⟨b, off, none⟩) n2 c2))) := Lib.hid (fun w' hx' => by
                have Y := (Ext.alloc (Ext.refl wa) (.cells #[.int .i64 f.crop, .int .i64 f.value, .int .i64 f.near, .int .i64 f.alo, .int .i64 f.ahi, .int .i64 f.blo, .int .i64 f.bhi, .int .i64 f.ulo, .int .i64 f.uhi] 76)).trans hx'
                refine ⟨?_, ?_, ?_, ?_, ?_, ?_, ?_, ?_, ?_, Y.keep q0, Y.keep q1, Y.keep q2, Y.keep q3⟩ <;> exact hx'.keep (by simp [go_sem]))
              have XX : Ext w (wa.alloc (.cells #[.int .i64 f.crop, .int .i64 f.value, .int .i64 f.near, .int .i64 f.alo, .int .i64 f.ahi, .int .i64 f.blo, .int .i64 f.bhi, .int .i64 f.ulo, .int .i64 f.uhi] 76)) := by (repeat (first | exact Ext.refl _ | (with_reducible assumption) | (with_reducible refine Ext.drew ?_) | (with_reducible refine Ext.alloc ?_ _) | (with_reducible refine Ext.drewN ?_ _) | (with_reducible refine Ext.setCell ?_ (by omega) _) | (with_reducible refine Ext.trans ?_ (by with_reducible assumption))))
              have XW : Ext w3 (wa.alloc (.cells #[.int .i64 f.crop, .int .i64 f.value, .int .i64 f.near, .int .i64 f.alo, .int .i64 f.ahi, .int .i64 f.blo, .int .i64 f.bhi, .int .i64 f.ulo, .int .i64 f.uhi] 76)) := by (repeat (first | exact Ext.refl _ | (with_reducible assumption) | (with_reducible refine Ext.drew ?_) | (with_reducible refine Ext.alloc ?_ _) | (with_reducible refine Ext.drewN ?_ _) | (with_reducible refine Ext.setCell ?_ (by omega) _) | (with_reducible refine Ext.trans ?_ (by with_reducible assumption))))
              clear m0 m1 m2 m3 m4 m5 m6 m7 m8 q0 q1 q2 q3
              generalize wa.alloc (.cells #[.int .i64 f.crop, .int .i64 f.value, .int .i64 f.near, .int .i64 f.alo, .int .i64 f.ahi, .int .i64 f.blo, .int .i64 f.bhi, .int .i64 f.ulo, .int .i64 f.uhi] 76) = W2 at *
              unfold fieldR at HF
              have H0 : Hid (∀ w', Calls Tryz.prog 56 #[.int .i64 f.crop, .int .i64 0, .int .i64 ((cn : Int) - 1)] w' fun e w'' => e = .returned (.bool (inR f.crop 0 ((cn : Int) - 1))) ∧ Ext w' w'') := Lib.hid (HIN.out _ _ _)
              have H1 : Hid (∀ w', Calls Tryz.prog 56 #[.int .i64 f.value, .int .i64 0, .int .i64 100000] w' fun e w'' => e = .returned (.bool (inR f.value 0 100000)) ∧ Ext w' w'') := Lib.hid (HIN.out _ _ _)
              have H2 : Hid (∀ w', Calls Tryz.prog 56 #[.int .i64 f.near, .int .i64 0, .int .i64 100] w' fun e w'' => e = .returned (.bool (inR f.near 0 100)) ∧ Ext w' w'') := Lib.hid (HIN.out _ _ _)
              have H3 : Hid (∀ w', Calls Tryz.prog 58 #[.agg #[.int .i64 f.alo, .int .i64 f.ahi]] w' fun e w'' => e = .returned (.bool (countsB f.alo f.ahi)) ∧ Ext w' w'') := Lib.hid (IsCountsU_any _ _)
              have H4 : Hid (∀ w', Calls Tryz.prog 58 #[.agg #[.int .i64 f.blo, .int .i64 f.bhi]] w' fun e w'' => e = .returned (.bool (countsB f.blo f.bhi)) ∧ Ext w' w'') := Lib.hid (IsCountsU_any _ _)
              have H5 : Hid (∀ w', Calls Tryz.prog 58 #[.agg #[.int .i64 f.ulo, .int .i64 f.uhi]] w' fun e w'' => e = .returned (.bool (countsB f.ulo f.uhi)) ∧ Ext w' w'') := Lib.hid (IsCountsU_any _ _)
              generalize inR f.crop 0 ((cn : Int) - 1) = g0 at *
              generalize inR f.value 0 100000 = g1 at *
              generalize inR f.near 0 100 = g2 at *
              generalize countsB f.alo f.ahi = g3 at *
              generalize countsB f.blo f.bhi = g4 at *
              generalize countsB f.ulo f.uhi = g5 at *
              clear HIN
              cases g0 with
              | false =>
                have hfb := HFN'.out (HF.out.trans rfl)
                have HR : Hid (r = 1) := Lib.hid (by rw [HE4.out, hfb]; rfl)
                clear hfb
                refine wp_region_quiet (C := Ext W2) (by kernel_rfl) (by kernel_rfl) (Ext.drew (by (repeat (first | exact Ext.refl _ | (with_reducible assumption) | (with_reducible refine Ext.drew ?_) | (with_reducible refine Ext.alloc ?_ _) | (with_reducible refine Ext.drewN ?_ _) | (with_reducible refine Ext.setCell ?_ (by omega) _) | (with_reducible refine Ext.trans ?_ (by with_reducible assumption)))))) ?_
                rw [show ∀ (l : List Oper), l.toArray.toList = l from fun l => rfl]
                repeat (first
                  | go_big_quiet_skip
                  | (go_big_quiet_want
                     first
                      | (go_big_quiet_op; go_big_quiet_on)
                      | (apply Exists.intro
                         refine ⟨fun w' hxw => ?_, ?_⟩
                         focus (obtain ⟨k0, k1, k2, k3, k4, k5, k6, k7, k8, r0, r1, r2, r3⟩ := HK.out w' hxw; go_simp; first | exact rfl | (first | (go_at_call 57; (with_reducible refine (HCR'.out w' (XX.trans hxw)).mono ?_; exact (fun e w'' h => ⟨h.1, hxw.trans h.2⟩))) | (with_reducible refine (H0.out w').mono ?_; exact (fun e w'' h => ⟨h.1, hxw.trans h.2⟩))))
                         simp only [Act.put, List.setIfInBounds_toArray, List.set_cons_zero, List.set_cons_succ]
                         go_big_quiet_on)))
                refine wpQuiet_nil ?_
                intro w2 hx2
                go_wp2_with fail
                go_ret
                exact ⟨congrArg (fun x => Ending.returned (.int .i64 x)) HR.out.symm, by (repeat (first | exact Ext.refl _ | (with_reducible assumption) | (with_reducible refine Ext.drew ?_) | (with_reducible refine Ext.alloc ?_ _) | (with_reducible refine Ext.drewN ?_ _) | (with_reducible refine Ext.setCell ?_ (by omega) _) | (with_reducible refine Ext.trans ?_ (by with_reducible assumption))))⟩
              | true =>
                cases g1 with
                | false =>
                  have hfb := HFN'.out (HF.out.trans rfl)
                  have HR : Hid (r = 1) := Lib.hid (by rw [HE4.out, hfb]; rfl)
                  clear hfb
                  refine wp_region_quiet (C := Ext W2) (by kernel_rfl) (by kernel_rfl) (Ext.drew (by (repeat (first | exact Ext.refl _ | (with_reducible assumption) | (with_reducible refine Ext.drew ?_) | (with_reducible refine Ext.alloc ?_ _) | (with_reducible refine Ext.drewN ?_ _) | (with_reducible refine Ext.setCell ?_ (by omega) _) | (with_reducible refine Ext.trans ?_ (by with_reducible assumption)))))) ?_
                  rw [show ∀ (l : List Oper), l.toArray.toList = l from fun l => rfl]
                  repeat (first
                    | go_big_quiet_skip
                    | (go_big_quiet_want
                       first
                        | (go_big_quiet_op; go_big_quiet_on)
                        | (apply Exists.intro
                           refine ⟨fun w' hxw => ?_, ?_⟩
                           focus (obtain ⟨k0, k1, k2, k3, k4, k5, k6, k7, k8, r0, r1, r2, r3⟩ := HK.out w' hxw; go_simp; first | exact rfl | (first | (go_at_call 57; (with_reducible refine (HCR'.out w' (XX.trans hxw)).mono ?_; exact (fun e w'' h => ⟨h.1, hxw.trans h.2⟩))) | (with_reducible refine (H0.out w').mono ?_; exact (fun e w'' h => ⟨h.1, hxw.trans h.2⟩)) | (with_reducible refine (H1.out w').mono ?_; exact (fun e w'' h => ⟨h.1, hxw.trans h.2⟩))))
                           simp only [Act.put, List.setIfInBounds_toArray, List.set_cons_zero, List.set_cons_succ]
                           go_big_quiet_on)))
                  refine wpQuiet_nil ?_
                  intro w2 hx2
                  go_wp2_with fail
                  go_ret
                  exact ⟨congrArg (fun x => Ending.returned (.int .i64 x)) HR.out.symm, by (repeat (first | exact Ext.refl _ | (with_reducible assumption) | (with_reducible refine Ext.drew ?_) | (with_reducible refine Ext.alloc ?_ _) | (with_reducible refine Ext.drewN ?_ _) | (with_reducible refine Ext.setCell ?_ (by omega) _) | (with_reducible refine Ext.trans ?_ (by with_reducible assumption))))⟩
                | true =>
                  cases g2 with
                  | false =>
                    have hfb := HFN'.out (HF.out.trans rfl)
                    have HR : Hid (r = 1) := Lib.hid (by rw [HE4.out, hfb]; rfl)
                    clear hfb
                    refine wp_region_quiet (C := Ext W2) (by kernel_rfl) (by kernel_rfl) (Ext.drew (by (repeat (first | exact Ext.refl _ | (with_reducible assumption) | (with_reducible refine Ext.drew ?_) | (with_reducible refine Ext.alloc ?_ _) | (with_reducible refine Ext.drewN ?_ _) | (with_reducible refine Ext.setCell ?_ (by omega) _) | (with_reducible refine Ext.trans ?_ (by with_reducible assumption)))))) ?_
                    rw [show ∀ (l : List Oper), l.toArray.toList = l from fun l => rfl]
                    repeat (first
                      | go_big_quiet_skip
                      | (go_big_quiet_want
                         first
                          | (go_big_quiet_op; go_big_quiet_on)
                          | (apply Exists.intro
                             refine ⟨fun w' hxw => ?_, ?_⟩
                             focus (obtain ⟨k0, k1, k2, k3, k4, k5, k6, k7, k8, r0, r1, r2, r3⟩ := HK.out w' hxw; go_simp; first | exact rfl | (first | (go_at_call 57; (with_reducible refine (HCR'.out w' (XX.trans hxw)).mono ?_; exact (fun e w'' h => ⟨h.1, hxw.trans h.2⟩))) | (with_reducible refine (H0.out w').mono ?_; exact (fun e w'' h => ⟨h.1, hxw.trans h.2⟩)) | (with_reducible refine (H1.out w').mono ?_; exact (fun e w'' h => ⟨h.1, hxw.trans h.2⟩)) | (with_reducible refine (H2.out w').mono ?_; exact (fun e w'' h => ⟨h.1, hxw.trans h.2⟩))))
                             simp only [Act.put, List.setIfInBounds_toArray, List.set_cons_zero, List.set_cons_succ]
                             go_big_quiet_on)))
                    refine wpQuiet_nil ?_
                    intro w2 hx2
                    go_wp2_with fail
                    go_ret
                    exact ⟨congrArg (fun x => Ending.returned (.int .i64 x)) HR.out.symm, by (repeat (first | exact Ext.refl _ | (with_reducible assumption) | (with_reducible refine Ext.drew ?_) | (with_reducible refine Ext.alloc ?_ _) | (with_reducible refine Ext.drewN ?_ _) | (with_reducible refine Ext.setCell ?_ (by omega) _) | (with_reducible refine Ext.trans ?_ (by with_reducible assumption))))⟩
                  | true =>
                    cases g3 with
                    | false =>
                      have hfb := HFN'.out (HF.out.trans rfl)
                      have HR : Hid (r = 1) := Lib.hid (by rw [HE4.out, hfb]; rfl)
                      clear hfb
                      refine wp_region_quiet (C := Ext W2) (by kernel_rfl) (by kernel_rfl) (Ext.drew (by (repeat (first | exact Ext.refl _ | (with_reducible assumption) | (with_reducible refine Ext.drew ?_) | (with_reducible refine Ext.alloc ?_ _) | (with_reducible refine Ext.drewN ?_ _) | (with_reducible refine Ext.setCell ?_ (by omega) _) | (with_reducible refine Ext.trans ?_ (by with_reducible assumption)))))) ?_
                      rw [show ∀ (l : List Oper), l.toArray.toList = l from fun l => rfl]
                      repeat (first
                        | go_big_quiet_skip
                        | (go_big_quiet_want
                           first
                            | (go_big_quiet_op; go_big_quiet_on)
                            | (apply Exists.intro
                               refine ⟨fun w' hxw => ?_, ?_⟩
                               focus (obtain ⟨k0, k1, k2, k3, k4, k5, k6, k7, k8, r0, r1, r2, r3⟩ := HK.out w' hxw; go_simp; first | exact rfl | (first | (go_at_call 57; (with_reducible refine (HCR'.out w' (XX.trans hxw)).mono ?_; exact (fun e w'' h => ⟨h.1, hxw.trans h.2⟩))) | (with_reducible refine (H0.out w').mono ?_; exact (fun e w'' h => ⟨h.1, hxw.trans h.2⟩)) | (with_reducible refine (H1.out w').mono ?_; exact (fun e w'' h => ⟨h.1, hxw.trans h.2⟩)) | (with_reducible refine (H2.out w').mono ?_; exact (fun e w'' h => ⟨h.1, hxw.trans h.2⟩)) | (with_reducible refine (H3.out w').mono ?_; exact (fun e w'' h => ⟨h.1, hxw.trans h.2⟩))))
                               simp only [Act.put, List.setIfInBounds_toArray, List.set_cons_zero, List.set_cons_succ]
                               go_big_quiet_on)))
                      refine wpQuiet_nil ?_
                      intro w2 hx2
                      go_wp2_with fail
                      go_ret
                      exact ⟨congrArg (fun x => Ending.returned (.int .i64 x)) HR.out.symm, by (repeat (first | exact Ext.refl _ | (with_reducible assumption) | (with_reducible refine Ext.drew ?_) | (with_reducible refine Ext.alloc ?_ _) | (with_reducible refine Ext.drewN ?_ _) | (with_reducible refine Ext.setCell ?_ (by omega) _) | (with_reducible refine Ext.trans ?_ (by with_reducible assumption))))⟩
                    | true =>
                      cases g4 with
                      | false =>
                        have hfb := HFN'.out (HF.out.trans rfl)
                        have HR : Hid (r = 1) := Lib.hid (by rw [HE4.out, hfb]; rfl)
                        clear hfb
                        refine wp_region_quiet (C := Ext W2) (by kernel_rfl) (by kernel_rfl) (Ext.drew (by (repeat (first | exact Ext.refl _ | (with_reducible assumption) | (with_reducible refine Ext.drew ?_) | (with_reducible refine Ext.alloc ?_ _) | (with_reducible refine Ext.drewN ?_ _) | (with_reducible refine Ext.setCell ?_ (by omega) _) | (with_reducible refine Ext.trans ?_ (by with_reducible assumption)))))) ?_
                        rw [show ∀ (l : List Oper), l.toArray.toList = l from fun l => rfl]
                        repeat (first
                          | go_big_quiet_skip
                          | (go_big_quiet_want
                             first
                              | (go_big_quiet_op; go_big_quiet_on)
                              | (apply Exists.intro
                                 refine ⟨fun w' hxw => ?_, ?_⟩
                                 focus (obtain ⟨k0, k1, k2, k3, k4, k5, k6, k7, k8, r0, r1, r2, r3⟩ := HK.out w' hxw; go_simp; first | exact rfl | (first | (go_at_call 57; (with_reducible refine (HCR'.out w' (XX.trans hxw)).mono ?_; exact (fun e w'' h => ⟨h.1, hxw.trans h.2⟩))) | (with_reducible refine (H0.out w').mono ?_; exact (fun e w'' h => ⟨h.1, hxw.trans h.2⟩)) | (with_reducible refine (H1.out w').mono ?_; exact (fun e w'' h => ⟨h.1, hxw.trans h.2⟩)) | (with_reducible refine (H2.out w').mono ?_; exact (fun e w'' h => ⟨h.1, hxw.trans h.2⟩)) | (with_reducible refine (H3.out w').mono ?_; exact (fun e w'' h => ⟨h.1, hxw.trans h.2⟩)) | (with_reducible refine (H4.out w').mono ?_; exact (fun e w'' h => ⟨h.1, hxw.trans h.2⟩))))
                                 simp only [Act.put, List.setIfInBounds_toArray, List.set_cons_zero, List.set_cons_succ]
                                 go_big_quiet_on)))
                        refine wpQuiet_nil ?_
                        intro w2 hx2
                        go_wp2_with fail
                        go_ret
                        exact ⟨congrArg (fun x => Ending.returned (.int .i64 x)) HR.out.symm, by (repeat (first | exact Ext.refl _ | (with_reducible assumption) | (with_reducible refine Ext.drew ?_) | (with_reducible refine Ext.alloc ?_ _) | (with_reducible refine Ext.drewN ?_ _) | (with_reducible refine Ext.setCell ?_ (by omega) _) | (with_reducible refine Ext.trans ?_ (by with_reducible assumption))))⟩
                      | true =>
                        cases g5 with
                        | false =>
                          have hfb := HFN'.out (HF.out.trans rfl)
                          have HR : Hid (r = 1) := Lib.hid (by rw [HE4.out, hfb]; rfl)
                          clear hfb
                          refine wp_region_quiet (C := Ext W2) (by kernel_rfl) (by kernel_rfl) (Ext.drew (by (repeat (first | exact Ext.refl _ | (with_reducible assumption) | (with_reducible refine Ext.drew ?_) | (with_reducible refine Ext.alloc ?_ _) | (with_reducible refine Ext.drewN ?_ _) | (with_reducible refine Ext.setCell ?_ (by omega) _) | (with_reducible refine Ext.trans ?_ (by with_reducible assumption)))))) ?_
                          rw [show ∀ (l : List Oper), l.toArray.toList = l from fun l => rfl]
                          repeat (first
                            | go_big_quiet_skip
                            | (go_big_quiet_want
                               first
                                | (go_big_quiet_op; go_big_quiet_on)
                                | (apply Exists.intro
                                   refine ⟨fun w' hxw => ?_, ?_⟩
                                   focus (obtain ⟨k0, k1, k2, k3, k4, k5, k6, k7, k8, r0, r1, r2, r3⟩ := HK.out w' hxw; go_simp; first | exact rfl | (first | (go_at_call 57; (with_reducible refine (HCR'.out w' (XX.trans hxw)).mono ?_; exact (fun e w'' h => ⟨h.1, hxw.trans h.2⟩))) | (with_reducible refine (H0.out w').mono ?_; exact (fun e w'' h => ⟨h.1, hxw.trans h.2⟩)) | (with_reducible refine (H1.out w').mono ?_; exact (fun e w'' h => ⟨h.1, hxw.trans h.2⟩)) | (with_reducible refine (H2.out w').mono ?_; exact (fun e w'' h => ⟨h.1, hxw.trans h.2⟩)) | (with_reducible refine (H3.out w').mono ?_; exact (fun e w'' h => ⟨h.1, hxw.trans h.2⟩)) | (with_reducible refine (H4.out w').mono ?_; exact (fun e w'' h => ⟨h.1, hxw.trans h.2⟩)) | (with_reducible refine (H5.out w').mono ?_; exact (fun e w'' h => ⟨h.1, hxw.trans h.2⟩))))
                                   simp only [Act.put, List.setIfInBounds_toArray, List.set_cons_zero, List.set_cons_succ]
                                   go_big_quiet_on)))
                          refine wpQuiet_nil ?_
                          intro w2 hx2
                          go_wp2_with fail
                          go_ret
                          exact ⟨congrArg (fun x => Ending.returned (.int .i64 x)) HR.out.symm, by (repeat (first | exact Ext.refl _ | (with_reducible assumption) | (with_reducible refine Ext.drew ?_) | (with_reducible refine Ext.alloc ?_ _) | (with_reducible refine Ext.drewN ?_ _) | (with_reducible refine Ext.setCell ?_ (by omega) _) | (with_reducible refine Ext.trans ?_ (by with_reducible assumption))))⟩
                        | true =>
                          have HY := Lib.hid (HFX.out (HF.out.trans rfl))
                          refine wp_region_quiet (C := Ext W2) (by kernel_rfl) (by kernel_rfl) (Ext.drew (by (repeat (first | exact Ext.refl _ | (with_reducible assumption) | (with_reducible refine Ext.drew ?_) | (with_reducible refine Ext.alloc ?_ _) | (with_reducible refine Ext.drewN ?_ _) | (with_reducible refine Ext.setCell ?_ (by omega) _) | (with_reducible refine Ext.trans ?_ (by with_reducible assumption)))))) ?_
                          rw [show ∀ (l : List Oper), l.toArray.toList = l from fun l => rfl]
                          repeat (first
                            | go_big_quiet_skip
                            | (go_big_quiet_want
                               first
                                | (go_big_quiet_op; go_big_quiet_on)
                                | (apply Exists.intro
                                   refine ⟨fun w' hxw => ?_, ?_⟩
                                   focus (obtain ⟨k0, k1, k2, k3, k4, k5, k6, k7, k8, r0, r1, r2, r3⟩ := HK.out w' hxw; go_simp; first | exact rfl | (first | (go_at_call 57; (with_reducible refine (HCR'.out w' (XX.trans hxw)).mono ?_; exact (fun e w'' h => ⟨h.1, hxw.trans h.2⟩))) | (with_reducible refine (H0.out w').mono ?_; exact (fun e w'' h => ⟨h.1, hxw.trans h.2⟩)) | (with_reducible refine (H1.out w').mono ?_; exact (fun e w'' h => ⟨h.1, hxw.trans h.2⟩)) | (with_reducible refine (H2.out w').mono ?_; exact (fun e w'' h => ⟨h.1, hxw.trans h.2⟩)) | (with_reducible refine (H3.out w').mono ?_; exact (fun e w'' h => ⟨h.1, hxw.trans h.2⟩)) | (with_reducible refine (H4.out w').mono ?_; exact (fun e w'' h => ⟨h.1, hxw.trans h.2⟩)) | (with_reducible refine (H5.out w').mono ?_; exact (fun e w'' h => ⟨h.1, hxw.trans h.2⟩))))
                                   simp only [Act.put, List.setIfInBounds_toArray, List.set_cons_zero, List.set_cons_succ]
                                   go_big_quiet_on)))
                          refine wpQuiet_nil ?_
                          intro w2 hx2
                          go_wp2_with fail
                          go_roundw
                          case rel => exact ⟨k + 1, by omega, by go_num, HY.out, by (repeat (first | exact Ext.refl _ | (with_reducible assumption) | (with_reducible refine Ext.drew ?_) | (with_reducible refine Ext.alloc ?_ _) | (with_reducible refine Ext.drewN ?_ _) | (with_reducible refine Ext.setCell ?_ (by omega) _) | (with_reducible refine Ext.trans ?_ (by with_reducible assumption))))⟩
                          case measure => simp [intOf]; omega
            · obtain rfl : k = n2 := by omega
              have hfb := HFY.out HI.out
              have HR : Hid (r = 0) := Lib.hid (by rw [HE4.out, hfb]; rfl)
              clear hfb
              go_wp2_with fail
              go_ret
              exact ⟨congrArg (fun x => Ending.returned (.int .i64 x)) HR.out.symm, by (repeat (first | exact Ext.refl _ | (with_reducible assumption) | (with_reducible refine Ext.drew ?_) | (with_reducible refine Ext.alloc ?_ _) | (with_reducible refine Ext.drewN ?_ _) | (with_reducible refine Ext.setCell ?_ (by omega) _) | (with_reducible refine Ext.trans ?_ (by with_reducible assumption))))⟩
  · have HR : Hid (r = ck) := Lib.hid (by rw [HE.out, if_pos h0])
    have hd : (ck != 0) = true := by simp [h0]
    clear HE HCT HCN
    go_wp2_with fail
    go_ret
    exact ⟨congrArg (fun x => Ending.returned (.int .i64 x)) HR.out.symm, by (repeat (first | exact Ext.refl _ | (with_reducible assumption) | (with_reducible refine Ext.drew ?_) | (with_reducible refine Ext.alloc ?_ _) | (with_reducible refine Ext.drewN ?_ _) | (with_reducible refine Ext.setCell ?_ (by omega) _) | (with_reducible refine Ext.trans ?_ (by with_reducible assumption))))⟩

set_option maxRecDepth 100000 in
theorem faultU_any (c : Cas) (v : Value) (w : World) (hv : CasV w v c) :
    Calls Tryz.prog 11 #[v] w fun e w' => e = .returned (.int .i64 (caseE c)) ∧ Ext w w' := by
  have HF : Hid (∀ W, Ext w W → Calls Tryz.prog 33 #[v] W fun e w' => e = .returned (.int .i64 (caseE c)) ∧ Ext W w') := Lib.hid (fun W hx => FaultU_any c v W (hv.ext hx))
  obtain ⟨a1, c1, a2, c2, rfl, -⟩ := hv.open
  generalize caseE c = r at *
  go_enter Tryz.func11, Tryz.ntmps11
  go_wp2_with fail
  (with_reducible refine (HF.out _ (by (repeat (first | exact Ext.refl _ | (with_reducible assumption) | (with_reducible refine Ext.drew ?_) | (with_reducible refine Ext.alloc ?_ _) | (with_reducible refine Ext.drewN ?_ _) | (with_reducible refine Ext.setCell ?_ (by omega) _) | (with_reducible refine Ext.trans ?_ (by with_reducible assumption)))))).mono ?_)
  rintro e w1 ⟨rfl, hx1⟩
  go_wp2_with fail
  go_ret
  exact ⟨rfl, by (repeat (first | exact Ext.refl _ | (with_reducible assumption) | (with_reducible refine Ext.drew ?_) | (with_reducible refine Ext.alloc ?_ _) | (with_reducible refine Ext.drewN ?_ _) | (with_reducible refine Ext.setCell ?_ (by omega) _) | (with_reducible refine Ext.trans ?_ (by with_reducible assumption))))⟩
end Go.Proofs.YtedblocbcjoolaaGreat

/- Thin: whether a list of tariffs is small. -/
namespace Go.Hs
open Go.RowKit
theorem thinB_no {l : List Tar} {k : Nat} (hk : k < l.length) (h : thinT (l.getD k default) = false) : thinB l = false := by
  rw [← Bool.not_eq_true]
  intro e
  simp only [thinB, Bool.and_eq_true, decide_eq_true_eq, allB_iff] at e
  rw [e.2 k hk] at h; cases h
theorem thinB_yes {l : List Tar} (h : l.length ≤ 5) (h' : ∀ m, m < l.length → thinT (l.getD m default) = true) : thinB l = true := by
  simp only [thinB, Bool.and_eq_true, decide_eq_true_eq, allB_iff]
  exact ⟨h, h'⟩
theorem thinT_no {t : Tar} (h : ¬ (t.weeks.length ≤ 7 ∧ t.counts.length ≤ 7 ∧ t.rates.length ≤ 5)) : thinT t = false := by
  rw [← Bool.not_eq_true]
  intro e
  simp only [thinT, Bool.and_eq_true, decide_eq_true_eq, allB_iff] at e
  exact h ⟨e.1.1.1, e.1.1.2, e.1.2⟩
theorem thinT_no2 {t : Tar} {c : Nat} (hc : c < t.rates.length) (h : thinC (t.rates.getD c []) = false) : thinT t = false := by
  rw [← Bool.not_eq_true]
  intro e
  simp only [thinT, Bool.and_eq_true, decide_eq_true_eq, allB_iff] at e
  rw [e.2 c hc] at h; cases h
theorem thinT_yes {t : Tar} (h : t.weeks.length ≤ 7 ∧ t.counts.length ≤ 7 ∧ t.rates.length ≤ 5) (h' : ∀ c, c < t.rates.length → thinC (t.rates.getD c []) = true) : thinT t = true := by
  simp only [thinT, Bool.and_eq_true, decide_eq_true_eq, allB_iff]
  exact ⟨⟨⟨h.1, h.2.1⟩, h.2.2⟩, h'⟩
theorem thinC_no {x : List (List Int)} (h : ¬ x.length ≤ 7) : thinC x = false := by
  rw [← Bool.not_eq_true]
  intro e
  simp only [thinC, Bool.and_eq_true, decide_eq_true_eq] at e
  exact h e.1
theorem thinC_no2 {x : List (List Int)} {j : Nat} (hj : j < x.length) (h : ¬ (x.getD j []).length ≤ 7) : thinC x = false := by
  rw [← Bool.not_eq_true]
  intro e
  simp only [thinC, Bool.and_eq_true, decide_eq_true_eq, allB_iff] at e
  exact h (e.2 j hj)
theorem thinC_yes {x : List (List Int)} (h : x.length ≤ 7) (h' : ∀ j, j < x.length → (x.getD j []).length ≤ 7) : thinC x = true := by
  simp only [thinC, Bool.and_eq_true, decide_eq_true_eq, allB_iff]
  exact ⟨h, h'⟩
theorem Ints3W.get {w : World} {a : Option Addr} {n c : Nat} {xs : List (List (List Int))} (h : Ints3W w (.slice a n c) xs) (i : Nat) (hi : i < xs.length) : ∃ b off a1 c1, a = some ⟨b, off, none⟩ ∧ w.cell? ⟨b, off + i, none⟩ = some (.slice a1 (xs.getD i []).length c1) ∧ Ints2W w (.slice a1 (xs.getD i []).length c1) (xs.getD i []) := by
  obtain ⟨a', c', he, -, -, hr⟩ := h
  cases he
  obtain ⟨b, off, he, v, hc, hv⟩ := hr i hi
  have hv' := hv
  obtain ⟨a1, c1, rfl, -⟩ := hv'
  have e : xs[i] = xs.getD i [] := by simp [hi]
  rw [← e]
  exact ⟨b, off, a1, c1, he, by simpa using hc, hv⟩
theorem Ints2W.get {w : World} {a : Option Addr} {n c : Nat} {xs : List (List Int)} (h : Ints2W w (.slice a n c) xs) (i : Nat) (hi : i < xs.length) : ∃ b off a1 c1, a = some ⟨b, off, none⟩ ∧ w.cell? ⟨b, off + i, none⟩ = some (.slice a1 (xs.getD i []).length c1) := by
  obtain ⟨a', c', he, -, -, hr⟩ := h
  cases he
  obtain ⟨b, off, he, v, hc, hv⟩ := hr i hi
  obtain ⟨a1, c1, rfl, -⟩ := hv
  have e : xs[i] = xs.getD i [] := by simp [hi]
  rw [← e]
  exact ⟨b, off, a1, c1, he, by simpa using hc⟩
end Go.Hs
namespace Go.Proofs.YtedblocbcjoolaaGreat
open Go.RowKit Go.Hs
set_option maxRecDepth 100000 in
set_option maxHeartbeats 2000000 in
theorem Thin_any (v : Value) (l : List Tar) (w : World) (hv : TarsW w v l) :
    Calls Tryz.prog 16 #[v] w fun e w' => e = .returned (.bool (thinB l)) ∧ w = w' := by
  obtain ⟨a, c, rfl, h1, h2, hr⟩ := hv
  by_cases h5 : l.length ≤ 5
  · have HR := Lib.hid hr
    clear hr h2
    have HY : Hid ((∀ m, m < l.length → thinT (l.getD m default) = true) → thinB l = true) := fun h => thinB_yes h5 h
    have HN : Hid (∀ m, m < l.length → thinT (l.getD m default) = false → thinB l = false) := fun m h h' => thinB_no h h'
    generalize thinB l = res at *
    go_enter Tryz.func16, Tryz.ntmps16
    go_wp2_with fail
    go_loop [3, 4, 5] (fun s3 _ _ => ∃ k : Nat, k ≤ l.length ∧ s3 = .int .i64 k ∧ Hid (∀ m, m < k → thinT (l.getD m default) = true)) (fun i _ _ => l.length - (intOf i).toNat)
    case atStart => exact ⟨0, Nat.zero_le _, rfl, fun m hm => absurd hm (Nat.not_lt_zero _)⟩
    case round =>
      obtain ⟨k, hk, rfl, HA⟩ := hrel
      by_cases hlt : k < l.length
      · obtain ⟨b, off, rfl, c3, c4, c5, m0, m1, m2, m3, m4, m5, mc⟩ := HR.out k hlt
        have e1 : l[k] = l.getD k default := by simp [hlt]
        rw [e1] at m0 m1 m2 mc
        have HNk : Hid (thinT (l.getD k default) = false → res = false) := HN.out k hlt
        have HNX : Hid (thinT (l.getD k default) = true → ∀ m, m < k + 1 → thinT (l.getD m default) = true) := fun h => upTo_next HA.out h
        clear e1
        generalize l.getD k default = t at *
        obtain ⟨-, -, ⟨a3, k3, rfl, -⟩, ⟨a4, k4, rfl, -⟩, h5w⟩ := mc
        have h5w' := h5w
        obtain ⟨a5, k5, rfl, -⟩ := h5w'
        have H5W := Lib.hid h5w
        clear h5w m0 m1 m2
        by_cases hsm : t.weeks.length ≤ 7 ∧ t.counts.length ≤ 7 ∧ t.rates.length ≤ 5
        · have HTY : Hid ((∀ c, c < t.rates.length → thinC (t.rates.getD c []) = true) → thinT t = true) := fun h => thinT_yes hsm h
          have HTN : Hid (∀ c, c < t.rates.length → thinC (t.rates.getD c []) = false → thinT t = false) := fun c h h' => thinT_no2 h h'
          obtain ⟨s1, s2, s3⟩ := hsm
          go_wp2_with fail
          go_loop [4, 5] (fun s4 _ => ∃ d : Nat, d ≤ t.rates.length ∧ s4 = .int .i64 d ∧ Hid (∀ m, m < d → thinC (t.rates.getD m []) = true)) (fun i _ => t.rates.length - (intOf i).toNat)
          case atStart => exact ⟨0, Nat.zero_le _, rfl, fun m hm => absurd hm (Nat.not_lt_zero _)⟩
          case round =>
            obtain ⟨d, hd, rfl, HD⟩ := hrel
            by_cases hdl : d < t.rates.length
            · obtain ⟨b5, o5, a6, k6, rfl, g5, i6⟩ := H5W.out.get d hdl
              have HTd : Hid (thinC (t.rates.getD d []) = false → thinT t = false) := HTN.out d hdl
              have HDX : Hid (thinC (t.rates.getD d []) = true → ∀ m, m < d + 1 → thinC (t.rates.getD m []) = true) := fun h => upTo_next HD.out h
              generalize t.rates.getD d [] = crop at *
              have HI6 := Lib.hid i6
              clear i6
              by_cases hc7 : crop.length ≤ 7
              · have HCY : Hid ((∀ j, j < crop.length → (crop.getD j []).length ≤ 7) → thinC crop = true) := fun h => thinC_yes hc7 h
                have HCN : Hid (∀ j, j < crop.length → ¬ (crop.getD j []).length ≤ 7 → thinC crop = false) := fun j h h' => thinC_no2 h h'
                go_wp2_with fail
                go_loop [5] (fun s5 => ∃ j : Nat, j ≤ crop.length ∧ s5 = .int .i64 j ∧ Hid (∀ m, m < j → (crop.getD m []).length ≤ 7)) (fun i => crop.length - (intOf i).toNat)
                case atStart => exact ⟨0, Nat.zero_le _, rfl, fun m hm => absurd hm (Nat.not_lt_zero _)⟩
                case round =>
                  obtain ⟨j, hj, rfl, HJ⟩ := hrel
                  by_cases hjl : j < crop.length
                  · obtain ⟨b6, o6, a7, k7, rfl, g6⟩ := HI6.out.get j hjl
                    have HJN : Hid (¬ (crop.getD j []).length ≤ 7 → thinC crop = false) := HCN.out j hjl
                    have HJX : Hid ((crop.getD j []).length ≤ 7 → ∀ m, m < j + 1 → (crop.getD m []).length ≤ 7) := fun h => upTo_next HJ.out h
                    generalize (crop.getD j []).length = nr at *
                    by_cases hn : nr ≤ 7
                    · go_wp2_with fail
                      go_round
                      case rel => exact ⟨j + 1, by omega, by go_num, HJX.out hn⟩
                      case measure => simp [intOf]; omega
                    · have HE := Lib.hid (HNk.out (HTd.out (HJN.out hn)))
                      go_wp2_with fail
                      go_ret
                      exact ⟨congrArg (fun x => Ending.returned (.bool x)) HE.out.symm, rfl⟩
                  · have e : j = crop.length := by omega
                    subst e
                    have HE := Lib.hid (HDX.out (HCY.out HJ.out))
                    go_wp2_with fail
                    go_round
                    case rel => exact ⟨d + 1, by omega, by go_num, HE.out⟩
                    case measure => simp [intOf]; omega
              · have HE := Lib.hid (HNk.out (HTd.out (thinC_no hc7)))
                go_wp2_with fail
                go_ret
                exact ⟨congrArg (fun x => Ending.returned (.bool x)) HE.out.symm, rfl⟩
            · have e : d = t.rates.length := by omega
              subst e
              have HE := Lib.hid (HNX.out (HTY.out HD.out))
              go_wp2_with fail
              go_round
              case rel => exact ⟨k + 1, by omega, by go_num, HE.out⟩
              case measure => simp [intOf]; omega
        · have HE := Lib.hid (HNk.out (thinT_no hsm))
          go_wp2_with fail
          all_goals go_ret
          all_goals exact ⟨congrArg (fun x => Ending.returned (.bool x)) HE.out.symm, rfl⟩
      · have e : k = l.length := by omega
        subst e
        have HE := Lib.hid (HY.out HA.out)
        go_wp2_with fail
        go_ret
        exact ⟨congrArg (fun x => Ending.returned (.bool x)) HE.out.symm, rfl⟩
  · have e : thinB l = false := by simp [thinB, h5]
    rw [e]
    clear hr e
    go_enter Tryz.func16, Tryz.ntmps16
    go_wp2_with fail
    go_ret
    exact ⟨rfl, rfl⟩
end Go.Proofs.YtedblocbcjoolaaGreat

/- Arguments that are a case, a list of three counts, or a list of bytes, opened. -/
namespace Go.Hs
open Go.RowKit
/-- The numbers of a field are int's. -/
structure FldI (f : Fld) : Prop where
  crop : i64ok f.crop
  value : i64ok f.value
  near : i64ok f.near
  alo : i64ok f.alo
  ahi : i64ok f.ahi
  blo : i64ok f.blo
  bhi : i64ok f.bhi
  ulo : i64ok f.ulo
  uhi : i64ok f.uhi
structure ThrI (x : Thr) : Prop where
  a : i64ok x.a
  b : i64ok x.b
  u : i64ok x.u
def FldAtW (w : World) (b o : Nat) (f : Fld) : Prop := Cell9 w b o f.c ∧ FldI f
def ThrAtW (w : World) (b o : Nat) (x : Thr) : Prop := Cell3 w b o x.c ∧ ThrI x
def U8At (w : World) (b o : Nat) (x : Int) : Prop := w.cell? ⟨b, o, none⟩ = some (.int .u8 x) ∧ 0 ≤ x ∧ x ≤ 255
def FldsW : World → Value → List Fld → Prop := SliceW FldAtW 9
def ThrsW : World → Value → List Thr → Prop := SliceW ThrAtW 3
def U8sW : World → Value → List Int → Prop := SliceW U8At 1
/-- A case that is an argument. -/
def CasW (w : World) (v : Value) (c : Cas) : Prop := ∃ vt vf, v = .agg #[vt, .int .i64 c.day, .int .i64 c.fee, vf] ∧ TarsW w vt c.tars ∧ FldsW w vf c.flds ∧ i64ok c.day ∧ i64ok c.fee
theorem FldsW.toV {w : World} {v : Value} {l : List Fld} (h : FldsW w v l) (hl : l.length ≤ 1000) : FldsV w v l := by
  obtain ⟨a, c, he, h1, -, hr⟩ := h
  refine ⟨a, c, he, h1, hl, fun i hi => ?_⟩
  have hi' : i < l.length := by simpa using hi
  obtain ⟨b, o, hb, hx, -⟩ := hr i hi'
  exact ⟨b, o, hb, by simpa using hx⟩
theorem FldsW.ok {w : World} {v : Value} {l : List Fld} (h : FldsW w v l) : ∀ f, f ∈ l → FldI f := fun f hf => by
  obtain ⟨a, k, -, -, -, hr⟩ := h
  obtain ⟨i, hi, rfl⟩ := List.getElem_of_mem hf
  obtain ⟨b, o, -, -, hx⟩ := hr i hi
  exact hx
theorem ThrsW.toV {w : World} {v : Value} {l : List Thr} (h : ThrsW w v l) (hl : l.length ≤ 1000) : ThrsV w v l := by
  obtain ⟨a, c, he, h1, -, hr⟩ := h
  refine ⟨a, c, he, h1, hl, fun i hi => ?_⟩
  have hi' : i < l.length := by simpa using hi
  obtain ⟨b, o, hb, hx, -⟩ := hr i hi'
  exact ⟨b, o, hb, by simpa using hx⟩
theorem ThrsW.ok {w : World} {v : Value} {l : List Thr} (h : ThrsW w v l) : ∀ f, f ∈ l → ThrI f := fun f hf => by
  obtain ⟨a, k, -, -, -, hr⟩ := h
  obtain ⟨i, hi, rfl⟩ := List.getElem_of_mem hf
  obtain ⟨b, o, -, -, hx⟩ := hr i hi
  exact hx
/-- A case is small: tariffs as the statements of layer 5, and at most 6 fields. -/
def thinCas (c : Cas) : Bool := thinB c.tars && decide (c.flds.length ≤ 6)
theorem CasW.toV {w : World} {v : Value} {c : Cas} (h : CasW w v c) (ht : thinCas c = true) : CasV w v c := by
  obtain ⟨vt, vf, he, h1, h2, -, -⟩ := h
  simp only [thinCas, Bool.and_eq_true, decide_eq_true_eq] at ht
  exact ⟨vt, vf, he, h1.toV ht.1, h2.toV (by omega)⟩
theorem SliceW.ext {α : Type} {R : World → Nat → Nat → α → Prop} {k : Nat} {w w' : World} (hR : ∀ b o x, R w b o x → R w' b o x) {v : Value} {xs : List α} (h : SliceW R k w v xs) : SliceW R k w' v xs := by
  obtain ⟨a, c, he, h1, h2, hr⟩ := h
  refine ⟨a, c, he, h1, h2, fun i hi => ?_⟩
  obtain ⟨b, o, hb, hx⟩ := hr i hi
  exact ⟨b, o, hb, hR _ _ _ hx⟩
theorem FldsW.ext {w w' : World} {v : Value} {l : List Fld} (h : Ext w w') (k : FldsW w v l) : FldsW w' v l := SliceW.ext (fun b o _ hx => ⟨hx.1.ext h b o _, hx.2⟩) k
theorem ThrsW.ext {w w' : World} {v : Value} {l : List Thr} (h : Ext w w') (k : ThrsW w v l) : ThrsW w' v l := SliceW.ext (fun b o _ hx => ⟨hx.1.ext h b o _, hx.2⟩) k
theorem U8sW.ext {w w' : World} {v : Value} {l : List Int} (h : Ext w w') (k : U8sW w v l) : U8sW w' v l := SliceW.ext (fun _ _ _ hx => ⟨h.keep hx.1, hx.2⟩) k
end Go.Hs
namespace Go.Proofs.YtedblocbcjoolaaGreat
open Go.ChangeShapes Go.WideShapes Go.ChangeAt Go.RowKit Go.Deep Go.Hs
section
variable {H : Type} {enc : TypeId × Value → H} {w : World} {base : Nat} {spare : Nat → Bool} {held : Bool}
theorem k_int : Tryz.prog.cellsOf 3 = 1 := by kernel_rfl
theorem k_range : Tryz.prog.cellsOf 44 = 2 := by kernel_rfl
theorem k_case : Tryz.prog.cellsOf 25 = 4 := by kernel_rfl
theorem k_tars : Tryz.prog.cellsOf 22 = 1 := by kernel_rfl
theorem k_flds : Tryz.prog.cellsOf 23 = 1 := by kernel_rfl
theorem get_some {α : Type} {l : List α} {i : Nat} (h : i < l.length) : ∃ y, l[i]? = some y := ⟨l[i], by simp [h]⟩
theorem int_cell {n : Nat} {v : Value} {y : DataW H × List MemPlace} (h : DataW.trod enc Tryz.prog w base spare held n 3 [v] = some y) : ∃ z, v = .int .i64 z ∧ i64ok z := by
  obtain ⟨z, he, -, hw⟩ := DataW.trod_int Tryz.underlying3 h
  simp at he
  exact ⟨z, he, bd_of_wf hw⟩
theorem range_cells {n : Nat} {a b : Value} {y : DataW H × List MemPlace} (h : DataW.trod enc Tryz.prog w base spare held n 44 [a, b] = some y) : ∃ x z, a = .int .i64 x ∧ b = .int .i64 z ∧ i64ok x ∧ i64ok z := by
  obtain ⟨xs, m, -, -, -, hl, hg⟩ := DataW.trod_struct Tryz.underlying44 h
  obtain ⟨y0, e0⟩ := get_some (l := xs) (i := 0) (by rw [hl]; decide)
  obtain ⟨y1, e1⟩ := get_some (l := xs) (i := 1) (by rw [hl]; decide)
  have g0 := hg 0 _ rfl
  have g1 := hg 1 _ rfl
  rw [e0] at g0
  rw [e1] at g1
  simp [k_int] at g0 g1
  obtain ⟨x, hx, ox⟩ := int_cell g0
  obtain ⟨z, hz, oz⟩ := int_cell g1
  exact ⟨x, z, hx, hz, ox, oz⟩
theorem field_cells {n : Nat} {c0 c1 c2 c3 c4 c5 c6 c7 c8 : Value} {y : DataW H × List MemPlace} (h : DataW.trod enc Tryz.prog w base spare held n 76 [c0, c1, c2, c3, c4, c5, c6, c7, c8] = some y) :
    ∃ f : Fld, c0 = .int .i64 f.crop ∧ c1 = .int .i64 f.value ∧ c2 = .int .i64 f.near ∧ c3 = .int .i64 f.alo ∧ c4 = .int .i64 f.ahi ∧ c5 = .int .i64 f.blo ∧ c6 = .int .i64 f.bhi ∧ c7 = .int .i64 f.ulo ∧ c8 = .int .i64 f.uhi ∧ FldI f := by
  obtain ⟨xs, m, -, -, -, hl, hg⟩ := DataW.trod_struct Tryz.underlying76 h
  obtain ⟨y0, e0⟩ := get_some (l := xs) (i := 0) (by rw [hl]; decide)
  obtain ⟨y1, e1⟩ := get_some (l := xs) (i := 1) (by rw [hl]; decide)
  obtain ⟨y2, e2⟩ := get_some (l := xs) (i := 2) (by rw [hl]; decide)
  obtain ⟨y3, e3⟩ := get_some (l := xs) (i := 3) (by rw [hl]; decide)
  obtain ⟨y4, e4⟩ := get_some (l := xs) (i := 4) (by rw [hl]; decide)
  obtain ⟨y5, e5⟩ := get_some (l := xs) (i := 5) (by rw [hl]; decide)
  have g0 := hg 0 _ rfl
  have g1 := hg 1 _ rfl
  have g2 := hg 2 _ rfl
  have g3 := hg 3 _ rfl
  have g4 := hg 4 _ rfl
  have g5 := hg 5 _ rfl
  rw [e0] at g0
  rw [e1] at g1
  rw [e2] at g2
  rw [e3] at g3
  rw [e4] at g4
  rw [e5] at g5
  simp [k_int, k_range] at g0 g1 g2 g3 g4 g5
  obtain ⟨x0, h0, o0⟩ := int_cell g0
  obtain ⟨x1, h1, o1⟩ := int_cell g1
  obtain ⟨x2, h2, o2⟩ := int_cell g2
  obtain ⟨x3, x4, h3, h4, o3, o4⟩ := range_cells g3
  obtain ⟨x5, x6, h5, h6, o5, o6⟩ := range_cells g4
  obtain ⟨x7, x8, h7, h8, o7, o8⟩ := range_cells g5
  exact ⟨⟨x0, x1, x2, x3, x4, x5, x6, x7, x8⟩, h0, h1, h2, h3, h4, h5, h6, h7, h8, o0, o1, o2, o3, o4, o5, o6, o7, o8⟩
theorem fld_open {b o : Nat} {cs : List Value} {n : Nat} {y : DataW H × List MemPlace} (hc : w.cells? base ⟨b, o, none⟩ (8 + 1) = some cs) (hd : DataW.trod enc Tryz.prog w base spare held n 76 cs = some y) : ∃ c, FldAtW w b o c := by
  obtain ⟨-, hl, hat⟩ := World.cells?_some hc
  match cs, hl with
  | [v0, v1, v2, v3, v4, v5, v6, v7, v8], _ =>
    obtain ⟨c, rfl, rfl, rfl, rfl, rfl, rfl, rfl, rfl, rfl, hok⟩ := field_cells hd
    have g0 := hat 0 (by omega)
    have g1 := hat 1 (by omega)
    have g2 := hat 2 (by omega)
    have g3 := hat 3 (by omega)
    have g4 := hat 4 (by omega)
    have g5 := hat 5 (by omega)
    have g6 := hat 6 (by omega)
    have g7 := hat 7 (by omega)
    have g8 := hat 8 (by omega)
    simp [add_none] at g0 g1 g2 g3 g4 g5 g6 g7 g8
    exact ⟨c, ⟨g0, g1, g2, g3, g4, g5, g6, g7, g8⟩, hok⟩
theorem flds_open {fuel : Nat} {v : Value} {x : DataW H × List MemPlace} (h : DataW.trod enc Tryz.prog w base spare held fuel 23 [v] = some x) : ∃ l, FldsW w v l :=
  slice_open (k := 8) Tryz.underlying23 (by kernel_rfl) (fun _ _ _ _ _ hc hd => fld_open hc hd) h
theorem open_agg_4 {P : Program} {r : Reach} {b0 : Nat} {t : TypeId} {fs : Array Field} {v : Value} {d : DataW H} {p : List MemPlace} (hs : P.underlying t = some (.struct fs)) (hC : P.cellsOf t = 4) (hv : Value.okWide P w r b0 t v) (h : DataW.Trod enc P w base spare held t v d p) :
    ∃ c0 c1 c2 c3 n y, v = .agg #[c0, c1, c2, c3] ∧ DataW.trod enc P w base spare held n t [c0, c1, c2, c3] = some y := by
  obtain ⟨cs, rfl, hsz⟩ := okWide_struct hs hv
  obtain ⟨l⟩ := cs
  match l, hsz.trans hC with
  | [c0, c1, c2, c3], _ =>
    obtain ⟨fuel, hf⟩ := h
    exact ⟨c0, c1, c2, c3, fuel, _, rfl, hf⟩
set_option maxRecDepth 100000 in
theorem case_open {r : Reach} {b0 : Nat} {v : Value} {d : DataW H} {p : List MemPlace} (hv : Value.okWide Tryz.prog w r b0 25 v) (h : DataW.Trod enc Tryz.prog w base spare held 25 v d p) :
    ∃ c : Cas, CasW w v c := by
  obtain ⟨c0, c1, c2, c3, n, y, rfl, hf⟩ := open_agg_4 Tryz.underlying25 k_case hv h
  obtain ⟨xs, m, -, -, -, hl, hg⟩ := DataW.trod_struct Tryz.underlying25 hf
  obtain ⟨y0, e0⟩ := get_some (l := xs) (i := 0) (by rw [hl]; decide)
  obtain ⟨y1, e1⟩ := get_some (l := xs) (i := 1) (by rw [hl]; decide)
  obtain ⟨y2, e2⟩ := get_some (l := xs) (i := 2) (by rw [hl]; decide)
  obtain ⟨y3, e3⟩ := get_some (l := xs) (i := 3) (by rw [hl]; decide)
  have g0 := hg 0 _ rfl
  have g1 := hg 1 _ rfl
  have g2 := hg 2 _ rfl
  have g3 := hg 3 _ rfl
  rw [e0] at g0
  rw [e1] at g1
  rw [e2] at g2
  rw [e3] at g3
  simp [k_int, k_tars, k_flds] at g0 g1 g2 g3
  obtain ⟨l, hl1⟩ := tars_open g0
  obtain ⟨day, rfl, o1⟩ := int_cell g1
  obtain ⟨fee, rfl, o2⟩ := int_cell g2
  obtain ⟨fs, hl3⟩ := flds_open g3
  exact ⟨⟨l, day, fee, fs⟩, _, _, rfl, hl1, hl3, o1, o2⟩
end
end Go.Proofs.YtedblocbcjoolaaGreat

/- Contracts of layer 7's law: whether a case is thin, and ready. -/
namespace Go.Hs
open Go.RowKit
theorem IntsW.ext {w w' : World} {v : Value} {xs : List Int} (h : Ext w w') (k : IntsW w v xs) : IntsW w' v xs := SliceW.ext (IntAt.ext h) k
theorem IntsAtW.ext {w w' : World} (h : Ext w w') (b o : Nat) (xs : List Int) (k : IntsAtW w b o xs) : IntsAtW w' b o xs := let ⟨v, h1, h2⟩ := k; ⟨v, h.keep h1, h2.ext h⟩
theorem Ints2W.ext {w w' : World} {v : Value} {xs : List (List Int)} (h : Ext w w') (k : Ints2W w v xs) : Ints2W w' v xs := SliceW.ext (IntsAtW.ext h) k
theorem Ints2AtW.ext {w w' : World} (h : Ext w w') (b o : Nat) (xs : List (List Int)) (k : Ints2AtW w b o xs) : Ints2AtW w' b o xs := let ⟨v, h1, h2⟩ := k; ⟨v, h.keep h1, h2.ext h⟩
theorem Ints3W.ext {w w' : World} {v : Value} {xs : List (List (List Int))} (h : Ext w w') (k : Ints3W w v xs) : Ints3W w' v xs := SliceW.ext (Ints2AtW.ext h) k
theorem TarAtW.ext {w w' : World} (h : Ext w w') (b o : Nat) (t : Tar) (k : TarAtW w b o t) : TarAtW w' b o t := by
  obtain ⟨c3, c4, c5, h0, h1, h2, h3, h4, h5, hc⟩ := k
  exact ⟨c3, c4, c5, h.keep h0, h.keep h1, h.keep h2, h.keep h3, h.keep h4, h.keep h5, hc.f, hc.l, hc.weeks.ext h, hc.counts.ext h, hc.rates.ext h⟩
theorem TarsW.ext {w w' : World} {v : Value} {xs : List Tar} (h : Ext w w') (k : TarsW w v xs) : TarsW w' v xs := SliceW.ext (TarAtW.ext h) k
theorem CasW.ext {w w' : World} {v : Value} {c : Cas} (hx : Ext w w') (h : CasW w v c) : CasW w' v c := by
  obtain ⟨vt, vf, he, h1, h2, h3⟩ := h
  exact ⟨vt, vf, he, TarsW.ext hx h1, FldsW.ext hx h2, h3⟩
end Go.Hs
namespace Go.Proofs.YtedblocbcjoolaaGreat
open Go.RowKit Go.Hs
attribute [local irreducible] World.setCell World.alloc
set_option maxRecDepth 100000 in
set_option maxHeartbeats 1000000 in
theorem ThinU_any (c : Cas) (v : Value) (w : World) (hv : CasW w v c) :
    Calls Tryz.prog 4 #[v] w fun e w' => e = .returned (.bool (thinCas c)) ∧ Ext w w' := by
  obtain ⟨vt, vf, rfl, ht, hf, -, -⟩ := hv
  obtain ⟨a1, c1, rfl, -, l1, -⟩ := id ht
  obtain ⟨a2, c2, rfl, -, l2, -⟩ := id hf
  have HT : Hid (∀ W, Ext w W → Calls Tryz.prog 16 #[.slice a1 c.tars.length c1] W fun e w' => e = .returned (.bool (thinB c.tars)) ∧ Ext W w') := Lib.hid (fun W hx => (Thin_any _ _ W (TarsW.ext hx ht)).mono (fun e w' h => ⟨h.1, h.2 ▸ Ext.refl _⟩))
  have HE : Hid (thinCas c = (thinB c.tars && decide (c.flds.length ≤ 6))) := rfl
  clear ht hf
  generalize thinCas c = r at *
  generalize thinB c.tars = tb at *
  generalize c.tars.length = n1 at *
  generalize c.flds.length = n2 at *
  generalize c.day = day at *
  generalize c.fee = fee at *
  go_enter Tryz.func4, Tryz.ntmps4
  go_wp2_with fail
  (with_reducible refine (HT.out _ (by (repeat (first | exact Ext.refl _ | (with_reducible assumption) | (with_reducible refine Ext.drew ?_) | (with_reducible refine Ext.alloc ?_ _) | (with_reducible refine Ext.drewN ?_ _) | (with_reducible refine Ext.setCell ?_ (by omega) _) | (with_reducible refine Ext.trans ?_ (by with_reducible assumption)))))).mono ?_)
  rintro e w1 ⟨rfl, hx1⟩
  have q3 := hx1.keep (k := w.heap.size) (o := 3) (v := .slice a2 n2 c2) (by simp [go_sem])
  have X : Ext w w1 := by (repeat (first | exact Ext.refl _ | (with_reducible assumption) | (with_reducible refine Ext.drew ?_) | (with_reducible refine Ext.alloc ?_ _) | (with_reducible refine Ext.drewN ?_ _) | (with_reducible refine Ext.setCell ?_ (by omega) _) | (with_reducible refine Ext.trans ?_ (by with_reducible assumption))))
  clear hx1 HT
  cases tb with
  | false =>
    have HR : Hid (r = false) := Lib.hid (by rw [HE.out]; rfl)
    clear HE
    go_wp2_with fail
    go_ret
    exact ⟨ret_bool HR.out.symm, X⟩
  | true =>
    by_cases h6 : n2 ≤ 6
    · have HR : Hid (r = true) := Lib.hid (by rw [HE.out]; simp [h6])
      have hd : decide ((n2 : Int) ≤ 6) = true := decide_eq_true (by omega)
      clear HE
      go_wp2_with fail
      go_ret
      exact ⟨ret_bool HR.out.symm, X⟩
    · have HR : Hid (r = false) := Lib.hid (by rw [HE.out]; simp; omega)
      have hd : decide ((n2 : Int) ≤ 6) = false := decide_eq_false (by omega)
      clear HE
      go_wp2_with fail
      go_ret
      exact ⟨ret_bool HR.out.symm, X⟩
end Go.Proofs.YtedblocbcjoolaaGreat

/- Plain laws of layer 7: the bounds, and what a greater fee does. -/
namespace Go.Hs
open Go.RowKit Go.Proofs.YtedblocbcjoolaaGreat
theorem feeA_bd {fee : Int} (h : 0 ≤ fee) (s : Sm) : 0 ≤ feeA fee s ∧ feeA fee s ≤ fee := by
  unfold feeA
  split
  · split
    · omega
    · split <;> omega
  · omega
theorem feeB_bd {fee : Int} (h : 0 ≤ fee) (s : Sm) : 0 ≤ feeB fee s ∧ feeB fee s ≤ fee := by
  unfold feeB
  split
  · split
    · omega
    · split <;> omega
  · omega
/-- The case with another fee. -/
def Cas.withFee (c : Cas) (x : Int) : Cas := { c with fee := x }
end Go.Hs

/- Lists of three or nine cells an element that are built by appending. -/
namespace Go.Hs
open Go.RowKit
abbrev V3.cs (u : V3) : List Value := [u.c0, u.c1, u.c2]
abbrev V9.cs (u : V9) : List Value := [u.c0, u.c1, u.c2, u.c3, u.c4, u.c5, u.c6, u.c7, u.c8]
theorem flat_at {α : Type} {C : α → List Value} {k : Nat} (hC : ∀ x, (C x).length = k) (xs : List α) (i j : Nat) (h : i < xs.length) (hj : j < k) : (xs.flatMap C)[i * k + j]? = (C xs[i])[j]? := by
  induction xs generalizing i with
  | nil => simp at h
  | cons x r ih =>
    cases i with
    | zero => rw [Nat.zero_mul, Nat.zero_add, List.flatMap_cons, List.getElem?_append_left (by rw [hC]; exact hj)]; rfl
    | succ i =>
      have e : (i + 1) * k = i * k + k := Nat.succ_mul i k
      rw [List.flatMap_cons, List.getElem?_append_right (by rw [hC]; omega), hC, show (i + 1) * k + j - k = i * k + j by omega, ih i (by simpa using h)]
      simp
/-- A list of structs of plain cells that is being built. -/
def Own {α : Type} (k : Nat) (C : α → List Value) (B e : Nat) (w : World) (v : Value) (xs : List α) : Prop := w.ownsRow B e k v xs.length (xs.flatMap C)
section
variable {α : Type} {k : Nat} {C : α → List Value} {B e : Nat} {w w' : World} {v v' : Value} {xs : List α}
theorem Own.nil (w : World) : Own k C B e w (.slice none 0 0) [] := World.ownsRow_nil _ _ _ _
theorem Own.keep (h : Own k C B e w v xs) (hk : ∀ g, v.ownBlock = some g → w'.heap[g]? = w.heap[g]?) : Own k C B e w' v xs := own_keep h hk
theorem Own.ext (h : Own k C B e w v xs) (hx : Ext w w') : Own k C B e w' v xs := own_keep h (fun _ hg => hx.heap (own_lt h hg).2)
theorem Own.next {y : α} {n : Nat} {us : List Value} (ho : w'.ownsRow B e k v' n us) (hn : n = xs.length + 1) (hu : us = xs.flatMap C ++ C y) : Own k C B e w' v' (xs ++ [y]) := by
  subst hn hu
  unfold Own
  simpa using ho
theorem Own.slice9 {U : α → V9} (h : Own 9 (fun x => (U x).cs) B e w v xs) (hl : xs.length ≤ 1000) : Slice9 U w v xs := by
  rcases own_open h with ⟨rfl, h0⟩ | ⟨g, cap, rfl, -, hg, hn, hc⟩
  · have e : xs = [] := List.eq_nil_of_length_eq_zero h0
    subst e
    exact ⟨none, 0, rfl, Nat.le_refl _, by simp, fun i h => absurd h (by simp)⟩
  · refine ⟨_, cap, rfl, hn, hl, fun i hi => ⟨g, 0, rfl, ?_⟩⟩
    have hi' : i < xs.length := by simpa using hi
    have f := fun j hj => flat_at (C := fun x => (U x).cs) (k := 9) (fun _ => rfl) xs i j hi' hj
    have e1 : (xs.map U)[i] = U xs[i] := by simp
    rw [e1]
    simp only [Nat.zero_add]
    exact ⟨hc _ _ (f 0 (by decide)), hc _ _ (f 1 (by decide)), hc _ _ (f 2 (by decide)), hc _ _ (f 3 (by decide)), hc _ _ (f 4 (by decide)), hc _ _ (f 5 (by decide)), hc _ _ (f 6 (by decide)), hc _ _ (f 7 (by decide)), hc _ _ (f 8 (by decide))⟩
end
end Go.Hs

/- The law's case: what 'Case' lays. -/
namespace Go.Hs
open Go.RowKit Go.Proofs.YtedblocbcjoolaaGreat
/-- One block, all from a number on, and all below one. -/
def capB (B T N : Nat) : Nat → Bool := fun k => (T == k) || (decide (N ≤ k) || decide (k < B))
theorem capB_no {B T N k : Nat} : capB B T N k = false ↔ T ≠ k ∧ k < N ∧ B ≤ k := by simp [capB]
theorem nine_in {W wa : World} {b : Nat} {u : V9} {t : TypeId} (h : Ext (W.alloc (.cells #[u.c0, u.c1, u.c2, u.c3, u.c4, u.c5, u.c6, u.c7, u.c8] t)) wa) (hb : b = W.heap.size) : ∀ j x, u.cs[j]? = some x → wa.cell? ((⟨b, 0, none⟩ : Addr).add j) = some x := by
  subst hb
  intro j x hj
  have e : ∀ j, (⟨W.heap.size, 0, none⟩ : Addr).add j = ⟨W.heap.size, j, none⟩ := fun j => by unfold Addr.add; split <;> simp_all
  rw [e]
  rcases j with _ | _ | _ | _ | _ | _ | _ | _ | _ | j
  all_goals first
    | (simp at hj; subst hj; exact h.keep (by simp [go_sem]))
    | (simp at hj)
theorem ext_gb {row : Option Nat} {w W W' : World} (hx : Ext w W) (hg : GB row W W') (hr : ∀ g, row = some g → w.heap.size ≤ g) : Ext w W' :=
  ⟨hg.os.trans hx.os, hg.tape.trans hx.tape, hg.output.trans hx.output, Nat.le_trans hx.size hg.size, fun k hk => (hg.block k (Nat.lt_of_lt_of_le hk hx.size) (fun e => by have := hr k e.symm; omega)).trans (hx.block k hk)⟩
theorem gb_kp {T : Nat} {row : Option Nat} {w w' : World} (h : GB row w w') : KP (fun k => k = T ∨ row = some k) w w' := ⟨h.os, h.tape, h.output, h.size, fun k hk hn => h.block k hk (fun e => hn (.inr e.symm))⟩
/-- The case that is being built: its box, and its fields so far. -/
structure CaseL (w : World) (N T : Nat) (c : Cas) (vt : Value) (k : Nat) (v : Value) (W : World) : Prop where
  ext : Ext w W
  tv : TarsV (mask (capB w.heap.size T N) W) vt c.tars
  t0 : W.cell? ⟨T, 0, none⟩ = some vt
  t1 : W.cell? ⟨T, 1, none⟩ = some (.int .i64 c.day)
  t2 : W.cell? ⟨T, 2, none⟩ = some (.int .i64 c.fee)
  t3 : W.cell? ⟨T, 3, none⟩ = some v
  fr : ∀ o, W.frozen? ⟨T, o, none⟩ = false
  own : Own 9 (fun x : Fld => x.c.cs) N 78 W v (c.flds.take k)
  n0 : w.heap.size ≤ T
  n1 : T < N
  n2 : N ≤ W.heap.size
section
variable {w W W' : World} {N T : Nat} {c : Cas} {vt : Value} {k : Nat} {v v' : Value}
theorem CaseL.grow (h : CaseL w N T c vt k v W) (hx : Ext W W') : CaseL w N T c vt k v W' :=
  ⟨h.ext.trans hx, h.tv.kc (hx.mask (fun _ _ h => h)), hx.keep h.t0, hx.keep h.t1, hx.keep h.t2, hx.keep h.t3, fun o => (hx.frozen (lt_of_cell h.t0)).trans (h.fr o), h.own.ext hx, h.n0, h.n1, Nat.le_trans h.n2 hx.size⟩
theorem CaseL.row (h : CaseL w N T c vt k v W) {b : Nat} (hb : b < N) : some b ≠ v.ownBlock := fun e => by
  have := (own_lt h.own e.symm).1; omega
theorem CaseL.app {f : Fld} (h : CaseL w N T c vt k v W) {n : Nat} {us : List Value} (hg : GB v.ownBlock W W') (ho : W'.ownsRow N 78 9 v' n us) (hn : n = (c.flds.take k).length + 1) (hu : us = (c.flds.take k).flatMap (fun x => x.c.cs) ++ f.c.cs) (hf : c.flds.take k ++ [f] = c.flds.take (k + 1)) :
    CaseL w N T c vt (k + 1) v' (W'.setCell ⟨T, 3, none⟩ v') := by
  have hT := h.n0
  have h1 := h.n1
  have h2 := h.n2
  have hrow : ∀ {b}, b < N → some b ≠ v.ownBlock := fun hb => h.row hb
  have kk : ∀ {o : Nat} {x : Value}, W.cell? ⟨T, o, none⟩ = some x → W'.cell? ⟨T, o, none⟩ = some x := fun hc => hg.keep (hrow h1) hc
  have ne : ∀ {o : Nat} {x : Value}, o ≠ 3 → W.cell? ⟨T, o, none⟩ = some x → (W'.setCell ⟨T, 3, none⟩ v').cell? ⟨T, o, none⟩ = some x := fun hn hc => sc_ne (.inr hn) (kk hc)
  have hown := Own.next (C := fun x : Fld => x.c.cs) ho hn hu
  rw [hf] at hown
  refine ⟨?_, h.tv.kc (mask_kc (fun _ _ h => h) (fun j hj hp => ?_)), ne (by decide) h.t0, ne (by decide) h.t1, ne (by decide) h.t2, sc_eq (kk h.t3), fun o => ?_, hown.keep (fun g hgg => Below.heap_setCell _ _ _ _ (show g ≠ T by have := (own_lt hown hgg).1; omega)), h.n0, h.n1, ?_⟩
  · exact (ext_gb h.ext hg (fun g hgg => by have := (own_lt h.own hgg).1; have := h.ext.size; omega)).setCell hT _
  · obtain ⟨p1, p2, -⟩ := capB_no.1 hp
    rw [Below.heap_setCell _ _ _ _ (show j ≠ T from fun e => p1 e.symm)]
    exact hg.block j hj (hrow p2)
  · rw [World.frozen?_setCell, hg.frozen (lt_of_cell h.t0) (hrow h1)]
    exact h.fr o
  · rw [World.size_setCell]
    exact Nat.le_trans h2 hg.size
theorem CaseL.out (h : CaseL w N T c vt c.flds.length v W) (hl : c.flds.length ≤ 1000) (hk : KP (fun k => k < w.heap.size) W W') : CasV W' (.agg #[vt, .int .i64 c.day, .int .i64 c.fee, v]) c := by
  have h0 := h.n0
  have h1 := h.n1
  refine ⟨vt, v, rfl, (h.tv.kc (mask_kc (q := capB w.heap.size T N) (w' := W') (fun _ _ h => h) (fun j hj hp => hk.block j hj (by have := (capB_no.1 hp).2.2; omega)))).kc (mask_kc0 _ _), ?_⟩
  have ho := h.own
  rw [List.take_length] at ho
  exact Own.slice9 (U := Fld.c) (ho.keep (fun g hg => by
    have := own_lt ho hg
    exact hk.block g this.2 (by omega))) hl
/-- The box laid behind the tariffs. -/
theorem CaseL.new {Wa w3 : World} {t : TypeId} (hv : TarsV (mask (oldB Wa) w3) vt c.tars) (hx : Ext w w3) (hw : w.heap.size ≤ Wa.heap.size) :
    CaseL w (w3.heap.size + 1) w3.heap.size c vt 0 (.slice none 0 0) (w3.alloc (.cells #[vt, .int .i64 c.day, .int .i64 c.fee, .slice none 0 0] t)) :=
  ⟨hx.alloc _, hv.kc (((Ext.refl w3).alloc _).mask (fun k hk hc => capB_no.2 ⟨by omega, by omega, by rw [oldB_lt] at hc; omega⟩)), by simp [go_sem], by simp [go_sem], by simp [go_sem], by simp [go_sem], fun o => by simp [go_sem], Own.nil _, hx.size, by omega, by simp⟩
/-- The box laid ahead of the tariffs. -/
theorem CaseL.set {Wa w3 : World} (hv : TarsV (mask (oldB Wa) w3) vt c.tars) (hx : Ext w w3) (hT : w.heap.size ≤ T) (hl : T < Wa.heap.size) (hz : ∀ o, o < 4 → ∃ x, w3.cell? ⟨T, o, none⟩ = some x) (hz3 : w3.cell? ⟨T, 3, none⟩ = some (.slice none 0 0)) (hf : ∀ o, w3.frozen? ⟨T, o, none⟩ = false) (hs : Wa.heap.size ≤ w3.heap.size) :
    CaseL w w3.heap.size T c vt 0 (.slice none 0 0) ((((w3.setCell ⟨T, 0, none⟩ vt).setCell ⟨T, 1, none⟩ (.int .i64 c.day)).setCell ⟨T, 2, none⟩ (.int .i64 c.fee)).setCell ⟨T, 3, none⟩ (.slice none 0 0)) := by
  obtain ⟨x0, h0⟩ := hz 0 (by decide)
  obtain ⟨x1, h1⟩ := hz 1 (by decide)
  obtain ⟨x2, h2⟩ := hz 2 (by decide)
  refine ⟨(((hx.setCell hT _).setCell hT _).setCell hT _).setCell hT _, hv.kc (mask_kc (fun k hk hc => ?_) (fun k hk hc => ?_)), sc_ne (.inr (by decide)) (sc_ne (.inr (by decide)) (sc_ne (.inr (by decide)) (sc_eq h0))), sc_ne (.inr (by decide)) (sc_ne (.inr (by decide)) (sc_eq (sc_ne (.inr (by decide)) h1))), sc_ne (.inr (by decide)) (sc_eq (sc_ne (.inr (by decide)) (sc_ne (.inr (by decide)) h2))), sc_eq (sc_ne (.inr (by decide)) (sc_ne (.inr (by decide)) (sc_ne (.inr (by decide)) hz3))), fun o => ?_, Own.nil _, hT, by omega, ?_⟩
  · rw [oldB_lt] at hc
    exact capB_no.2 ⟨by omega, hk, by omega⟩
  · rw [oldB_lt] at hc
    have e : k ≠ T := by omega
    rw [Below.heap_setCell _ _ _ _ e, Below.heap_setCell _ _ _ _ e, Below.heap_setCell _ _ _ _ e, Below.heap_setCell _ _ _ _ e]
  · simp only [World.frozen?_setCell]; exact hf o
  · simp only [World.size_setCell]; exact Nat.le_refl _
end
end Go.Hs
namespace Go.Proofs.YtedblocbcjoolaaGreat
open Go.RowKit Go.Hs
attribute [local irreducible] World.setCell World.alloc

theorem info_fld : (Tryz.prog.info? 78).map (fun i => (i.zero, i.size, i.bytes)) = some (some (.agg #[.int .i64 0, .int .i64 0, .int .i64 0, .int .i64 0, .int .i64 0, .int .i64 0, .int .i64 0, .int .i64 0, .int .i64 0]), 9, 72) := by kernel_rfl

set_option maxRecDepth 100000 in
theorem uto_any (a b : Int) (w : World) : Calls Tryz.prog 13 #[.agg #[.int .i64 a, .int .i64 b]] w fun e w' => e = .returned (.agg #[.int .i64 a, .int .i64 b]) ∧ Ext w w' := by
  go_enter Tryz.func13, Tryz.ntmps13
  go_wp2_with fail
  exact bodyPost_ret (v := .agg #[.int .i64 a, .int .i64 b]) (by simp [results, Tryz.results13, go_sem]) rfl ⟨rfl, by (repeat (first | exact Ext.refl _ | (with_reducible assumption) | (with_reducible refine Ext.drew ?_) | (with_reducible refine Ext.alloc ?_ _) | (with_reducible refine Ext.drewN ?_ _) | (with_reducible refine Ext.setCell ?_ (by omega) _) | (with_reducible refine Ext.trans ?_ (by with_reducible assumption))))⟩

set_option maxRecDepth 100000 in
set_option maxHeartbeats 8000000 in
theorem Case_any (c : Cas) (v : Value) (w : World) (hv : CasV w v c) (ht : thinB c.tars = true) :
    Calls Tryz.prog 7 #[v] w fun e w' => ∃ v', e = .returned v' ∧ CasV w' v' c ∧ Ext w w' := by
  obtain ⟨a1, c1, a2, c2, rfl, hvt, -, hcl, hl1, hl2⟩ := hv.open
  obtain ⟨i9, hi9, hz90, hz91, hz92⟩ := info_parts info_fld
  have HT : Hid (∀ W, Ext w W → Calls Tryz.prog 27 #[.slice a1 c.tars.length c1] W fun e w' => ∃ a q, e = .returned (.slice a c.tars.length q) ∧ TarsV (mask (oldB W) w') (.slice a c.tars.length q) c.tars ∧ Ext W w') := Lib.hid (fun W hx => (Tariffs_new _ _ W (hvt.ext hx) ht).mono (fun e w' ⟨v', h1, h2, h3⟩ => by
    obtain ⟨a, q, rfl, -⟩ := id h2
    exact ⟨a, q, h1, h2, h3⟩))
  have HTO := Lib.hid uto_any
  have HCL := Lib.hid hcl
  have HL := Lib.hid hl2
  clear hv hvt hcl hl1 hl2 ht
  unfold casV
  go_enter Tryz.func7, Tryz.ntmps7
  go_wp2_with fail
  have X : Ext w ((w.alloc (.cells #[.slice a1 c.tars.length c1, .int .i64 c.day, .int .i64 c.fee, .slice a2 c.flds.length c2] 25)).alloc (.cells #[.slice none 0 0, .int .i64 0, .int .i64 0, .slice none 0 0] 36)) := by (repeat (first | exact Ext.refl _ | (with_reducible assumption) | (with_reducible refine Ext.drew ?_) | (with_reducible refine Ext.alloc ?_ _) | (with_reducible refine Ext.drewN ?_ _) | (with_reducible refine Ext.setCell ?_ (by omega) _) | (with_reducible refine Ext.trans ?_ (by with_reducible assumption))))
  have HS : Hid (∀ w', Ext ((w.alloc (.cells #[.slice a1 c.tars.length c1, .int .i64 c.day, .int .i64 c.fee, .slice a2 c.flds.length c2] 25)).alloc (.cells #[.slice none 0 0, .int .i64 0, .int .i64 0, .slice none 0 0] 36)) w' → (w'.cell? ⟨w.heap.size, 0, none⟩ = some (.slice a1 c.tars.length c1) ∧ w'.cell? ⟨w.heap.size, 1, none⟩ = some (.int .i64 c.day) ∧ w'.cell? ⟨w.heap.size, 2, none⟩ = some (.int .i64 c.fee) ∧ w'.cell? ⟨w.heap.size, 3, none⟩ = some (.slice a2 c.flds.length c2) ∧ w'.cell? ⟨w.heap.size + 1, 0, none⟩ = some (.slice none 0 0) ∧ w'.cell? ⟨w.heap.size + 1, 1, none⟩ = some (.int .i64 0) ∧ w'.cell? ⟨w.heap.size + 1, 2, none⟩ = some (.int .i64 0) ∧ w'.cell? ⟨w.heap.size + 1, 3, none⟩ = some (.slice none 0 0)) ∧ Ext ((w.alloc (.cells #[.slice a1 c.tars.length c1, .int .i64 c.day, .int .i64 c.fee, .slice a2 c.flds.length c2] 25)).alloc (.cells #[.slice none 0 0, .int .i64 0, .int .i64 0, .slice none 0 0] 36)) w') := Lib.hid (fun w' hx => ⟨⟨hx.keep (by simp [go_sem]), hx.keep (by simp [go_sem]), hx.keep (by simp [go_sem]), hx.keep (by simp [go_sem]), hx.keep (by simp [go_sem]), hx.keep (by simp [go_sem]), hx.keep (by simp [go_sem]), hx.keep (by simp [go_sem])⟩, hx⟩)
  have HSf : Hid (∀ w', Ext ((w.alloc (.cells #[.slice a1 c.tars.length c1, .int .i64 c.day, .int .i64 c.fee, .slice a2 c.flds.length c2] 25)).alloc (.cells #[.slice none 0 0, .int .i64 0, .int .i64 0, .slice none 0 0] 36)) w' → ∀ o, w'.frozen? ⟨w.heap.size + 1, o, none⟩ = false) := Lib.hid (fun w' hx o => (hx.frozen (by simp)).trans (by simp [go_sem]))
  have HSz : w.heap.size + 1 + 1 ≤ ((w.alloc (.cells #[.slice a1 c.tars.length c1, .int .i64 c.day, .int .i64 c.fee, .slice a2 c.flds.length c2] 25)).alloc (.cells #[.slice none 0 0, .int .i64 0, .int .i64 0, .slice none 0 0] 36)).heap.size := by simp
  generalize ((w.alloc (.cells #[.slice a1 c.tars.length c1, .int .i64 c.day, .int .i64 c.fee, .slice a2 c.flds.length c2] 25)).alloc (.cells #[.slice none 0 0, .int .i64 0, .int .i64 0, .slice none 0 0] 36)) = W at *
  go_upto_region 1 with fail
  go_cut [3] from 6 to 13 (fun s3 wx => ∃ T N vt, s3 = .pointer (some ⟨T, 0, none⟩) ∧ CaseL W N T c vt 0 (.slice none 0 0) wx)
  case first =>
    go_region_held3 (fun w' => (w'.cell? ⟨w.heap.size, 0, none⟩ = some (.slice a1 c.tars.length c1) ∧ w'.cell? ⟨w.heap.size, 1, none⟩ = some (.int .i64 c.day) ∧ w'.cell? ⟨w.heap.size, 2, none⟩ = some (.int .i64 c.fee) ∧ w'.cell? ⟨w.heap.size, 3, none⟩ = some (.slice a2 c.flds.length c2) ∧ w'.cell? ⟨w.heap.size + 1, 0, none⟩ = some (.slice none 0 0) ∧ w'.cell? ⟨w.heap.size + 1, 1, none⟩ = some (.int .i64 0) ∧ w'.cell? ⟨w.heap.size + 1, 2, none⟩ = some (.int .i64 0) ∧ w'.cell? ⟨w.heap.size + 1, 3, none⟩ = some (.slice none 0 0)) ∧ Ext W w')
      ((refine HS.out _ ?_; (repeat (first | exact Ext.refl _ | (with_reducible assumption) | (with_reducible refine Ext.drew ?_) | (with_reducible refine Ext.alloc ?_ _) | (with_reducible refine Ext.drewN ?_ _) | (with_reducible refine Ext.setCell ?_ (by omega) _) | (with_reducible refine Ext.trans ?_ (by with_reducible assumption))))))
      (first
        | (go_at_call 27; (refine (HT.out _ (X.trans (by (repeat (first | exact Ext.refl _ | (with_reducible assumption) | (with_reducible refine Ext.drew ?_) | (with_reducible refine Ext.alloc ?_ _) | (with_reducible refine Ext.drewN ?_ _) | (with_reducible refine Ext.setCell ?_ (by omega) _) | (with_reducible refine Ext.trans ?_ (by with_reducible assumption))))))).mono ?_); rintro e w3 ⟨av, qv, rfl, hvt, hx3⟩; have s3 := hx3.size; (try simp at s3); (first | have Z := BoxN.zero (W := W) (zs := [.slice none 0 0, .int .i64 0, .int .i64 0, .slice none 0 0]) (by (repeat (first | exact Ext.refl _ | (with_reducible assumption) | (with_reducible refine Ext.drew ?_) | (with_reducible refine Ext.alloc ?_ _) | (with_reducible refine Ext.drewN ?_ _) | (with_reducible refine Ext.setCell ?_ (by omega) _) | (with_reducible refine Ext.trans ?_ (by with_reducible assumption))))) hx3 | have Z := BoxN.zerod (W := W) (zs := [.slice none 0 0, .int .i64 0, .int .i64 0, .slice none 0 0]) (by (repeat (first | exact Ext.refl _ | (with_reducible assumption) | (with_reducible refine Ext.drew ?_) | (with_reducible refine Ext.alloc ?_ _) | (with_reducible refine Ext.drewN ?_ _) | (with_reducible refine Ext.setCell ?_ (by omega) _) | (with_reducible refine Ext.trans ?_ (by with_reducible assumption))))) hx3 | skip); (first | (have z0 := Z.cells 0 _ rfl; have z1 := Z.cells 1 _ rfl; have z2 := Z.cells 2 _ rfl; have z3 := Z.cells 3 _ rfl; have zf := Z.fr) | skip)))
    all_goals
      go_wp2_with fail
      go_meet
      first
        | exact ⟨_, _, _, rfl, CaseL.new hvt (by (repeat (first | exact Ext.refl _ | (with_reducible assumption) | (with_reducible refine Ext.drew ?_) | (with_reducible refine Ext.alloc ?_ _) | (with_reducible refine Ext.drewN ?_ _) | (with_reducible refine Ext.setCell ?_ (by omega) _) | (with_reducible refine Ext.trans ?_ (by with_reducible assumption))))) (Ext.size (by (repeat (first | exact Ext.refl _ | (with_reducible assumption) | (with_reducible refine Ext.drew ?_) | (with_reducible refine Ext.alloc ?_ _) | (with_reducible refine Ext.drewN ?_ _) | (with_reducible refine Ext.setCell ?_ (by omega) _) | (with_reducible refine Ext.trans ?_ (by with_reducible assumption))))))⟩
        | exact ⟨_, _, _, rfl, CaseL.set hvt (by (repeat (first | exact Ext.refl _ | (with_reducible assumption) | (with_reducible refine Ext.drew ?_) | (with_reducible refine Ext.alloc ?_ _) | (with_reducible refine Ext.drewN ?_ _) | (with_reducible refine Ext.setCell ?_ (by omega) _) | (with_reducible refine Ext.trans ?_ (by with_reducible assumption))))) Z.ge (by simp) (fun o ho => Z.has o ho) z3 zf (Ext.size (by (repeat (first | exact Ext.refl _ | (with_reducible assumption) | (with_reducible refine Ext.drew ?_) | (with_reducible refine Ext.alloc ?_ _) | (with_reducible refine Ext.drewN ?_ _) | (with_reducible refine Ext.setCell ?_ (by omega) _) | (with_reducible refine Ext.trans ?_ (by with_reducible assumption))))))⟩
  case rest =>
    obtain ⟨T, N, vt, rfl, hcl⟩ := hcut
    obtain ⟨wb, rfl⟩ : ∃ x, x = wc := ⟨_, rfl⟩
    have HL0 := Lib.hid hcl
    have HSF := Lib.hid (HSf.out W (Ext.refl _))
    clear hcl HT HSf
    go_wp2_with fail
    go_loopw [4] (fun s4 wr => ∃ (k : Nat) (a5 : Option Addr) (q5 : Nat), k ≤ c.flds.length ∧ s4 = .int .i64 k ∧ Hid (CaseL W N T c vt k (.slice a5 k q5) wr)) (fun s _ => c.flds.length - (intOf s).toNat)
    case atStart => exact ⟨0, none, 0, Nat.zero_le _, rfl, HL0⟩
    case round =>
      obtain ⟨k, a5, q5, hk, rfl, HP⟩ := hrel
      obtain ⟨wo, rfl⟩ : ∃ x, x = wr := ⟨_, rfl⟩
      have HX := HP.out.ext
      obtain ⟨⟨q0, q1, q2, q3, r0, r1, r2, r3⟩, -⟩ := HS.out wo HX
      by_cases hlt : k < c.flds.length
      · obtain ⟨b, off, rfl, hce⟩ := HCL.out k (by simpa using hlt)
        have hce := hce.ext (X.trans HX)
        have e1 : (c.flds.map Fld.c)[k]'(by simpa using hlt) = (c.flds[k]).c := by simp
        rw [e1] at hce
        have HTK := Lib.hid (List.take_succ_eq_append_getElem hlt)
        generalize c.flds[k] = f at *
        have HEF : Hid (f.c.cs = [.int .i64 f.crop, .int .i64 f.value, .int .i64 f.near, .int .i64 f.alo, .int .i64 f.ahi, .int .i64 f.blo, .int .i64 f.bhi, .int .i64 f.ulo, .int .i64 f.uhi]) := rfl
        obtain ⟨m0, m1, m2, m3, m4, m5, m6, m7, m8⟩ := hce
        simp only [Fld.c] at m0 m1 m2 m3 m4 m5 m6 m7 m8
        clear e1
        go_upto_region 6 with fail
        have HW2 := Lib.hid (HP.out.grow ((Ext.refl wo).alloc (.cells #[.int .i64 f.crop, .int .i64 f.value, .int .i64 f.near, .int .i64 f.alo, .int .i64 f.ahi, .int .i64 f.blo, .int .i64 f.bhi, .int .i64 f.ulo, .int .i64 f.uhi] 76)))
        have g0 : ∀ i x, ([.int .i64 f.crop, .int .i64 f.value, .int .i64 f.near, .int .i64 f.alo, .int .i64 f.ahi, .int .i64 f.blo, .int .i64 f.bhi, .int .i64 f.ulo, .int .i64 f.uhi] : List Value)[i]? = some x → (wo.alloc (.cells #[.int .i64 f.crop, .int .i64 f.value, .int .i64 f.near, .int .i64 f.alo, .int .i64 f.ahi, .int .i64 f.blo, .int .i64 f.bhi, .int .i64 f.ulo, .int .i64 f.uhi] 76)).cell? ⟨wo.heap.size, i, none⟩ = some x := (BoxN.made (Ext.refl wo)).cells
        have hrow : ∀ g, (Value.slice a5 k q5).ownBlock = some g → N ≤ g ∧ g < wo.heap.size := fun g hg => own_lt HP.out.own hg
        have hT0 := HP.out.n0
        have hT1 := HP.out.n1
        have hT2 := HP.out.n2
        have hlen : (c.flds.take k).length = k := by simp; omega
        have HLEN := Lib.hid hlen
        clear HCL hlen m0 m1 m2 m3 m4 m5 m6 m7 m8 q0 q1 q2 q3 r0 r1 r2 r3 HX HS HP HL0
        generalize hW2 : wo.alloc (.cells #[.int .i64 f.crop, .int .i64 f.value, .int .i64 f.near, .int .i64 f.alo, .int .i64 f.ahi, .int .i64 f.blo, .int .i64 f.bhi, .int .i64 f.ulo, .int .i64 f.uhi] 76) = W2 at *
        have hsz : W2.heap.size = wo.heap.size + 1 := by rw [← hW2]; simp
        clear hW2
        have HP0 : Hid (¬ (wo.heap.size = T ∨ (Value.slice a5 k q5).ownBlock = some wo.heap.size)) := Lib.hid (by
          rintro (h | h)
          · omega
          · have := hrow _ h; omega)
        have hSn : ∀ w', KP (fun j => j = T ∨ (Value.slice a5 k q5).ownBlock = some j) W2 w' → (w'.cell? ⟨wo.heap.size, 0, none⟩ = some (.int .i64 f.crop) ∧ w'.cell? ⟨wo.heap.size, 1, none⟩ = some (.int .i64 f.value) ∧ w'.cell? ⟨wo.heap.size, 2, none⟩ = some (.int .i64 f.near) ∧ w'.cell? ⟨wo.heap.size, 3, none⟩ = some (.int .i64 f.alo) ∧ w'.cell? ⟨wo.heap.size, 4, none⟩ = some (.int .i64 f.ahi) ∧ w'.cell? ⟨wo.heap.size, 5, none⟩ = some (.int .i64 f.blo) ∧ w'.cell? ⟨wo.heap.size, 6, none⟩ = some (.int .i64 f.bhi) ∧ w'.cell? ⟨wo.heap.size, 7, none⟩ = some (.int .i64 f.ulo) ∧ w'.cell? ⟨wo.heap.size, 8, none⟩ = some (.int .i64 f.uhi)) := fun w' hx =>
          ⟨hx.keep HP0.out (g0 0 _ rfl), hx.keep HP0.out (g0 1 _ rfl), hx.keep HP0.out (g0 2 _ rfl), hx.keep HP0.out (g0 3 _ rfl), hx.keep HP0.out (g0 4 _ rfl), hx.keep HP0.out (g0 5 _ rfl), hx.keep HP0.out (g0 6 _ rfl), hx.keep HP0.out (g0 7 _ rfl), hx.keep HP0.out (g0 8 _ rfl)⟩
        have HSN := Lib.hid hSn
        have HTC : Hid (∀ w', GB (Value.slice a5 k q5).ownBlock W2 w' → w'.cell? ⟨T, 3, none⟩ = some (.slice a5 k q5) ∧ w'.frozen? ⟨T, 3, none⟩ = false) := Lib.hid (fun w' hx => ⟨hx.keep (HW2.out.row hT1) HW2.out.t3, (hx.frozen (lt_of_cell HW2.out.t3) (HW2.out.row hT1)).trans (HW2.out.fr 3)⟩)
        clear g0 hSn
        have HONE : Hid (∀ u ∈ ([.int .i64 f.crop, .int .i64 f.value, .int .i64 f.near, .int .i64 f.alo, .int .i64 f.ahi, .int .i64 f.blo, .int .i64 f.bhi, .int .i64 f.ulo, .int .i64 f.uhi] : List Value), u.oneCell' = true) := Lib.hid (by
          intro u hu
          simp only [List.mem_cons, List.not_mem_nil, or_false] at hu
          rcases hu with rfl | rfl | rfl | rfl | rfl | rfl | rfl | rfl | rfl <;> rfl)
        have HF1 : Hid (k + 1 ≤ maxLen) := Lib.hid (by have := HL.out; simp only [maxLen]; omega)
        have HF2 : Hid ((k + 1) * 72 ≤ 140737488355328) := Lib.hid (by have := HL.out; omega)
        have HF3 : Hid (N ≤ W2.heap.size) := Lib.hid HW2.out.n2
        have HOWN : Hid (W2.ownsRow N 78 9 (.slice a5 k q5) k ((c.flds.take k).flatMap (fun x => x.c.cs))) := Lib.hid (by
          have h : W2.ownsRow N 78 9 (.slice a5 k q5) (c.flds.take k).length ((c.flds.take k).flatMap (fun x => x.c.cs)) := HW2.out.own
          rw [HLEN.out] at h
          exact h)
        have HSS : Hid (∀ w', KP (fun j => j = T ∨ (Value.slice a5 k q5).ownBlock = some j) W2 w' → w'.cell? ⟨T, 3, none⟩ = some (curV w' ⟨T, 3, none⟩) ∧ w'.frozen? ⟨T, 3, none⟩ = false → ((w'.cell? ⟨T, 3, none⟩ = some (curV w' ⟨T, 3, none⟩) ∧ w'.frozen? ⟨T, 3, none⟩ = false) ∧ (w'.cell? ⟨wo.heap.size, 0, none⟩ = some (.int .i64 f.crop) ∧ w'.cell? ⟨wo.heap.size, 1, none⟩ = some (.int .i64 f.value) ∧ w'.cell? ⟨wo.heap.size, 2, none⟩ = some (.int .i64 f.near) ∧ w'.cell? ⟨wo.heap.size, 3, none⟩ = some (.int .i64 f.alo) ∧ w'.cell? ⟨wo.heap.size, 4, none⟩ = some (.int .i64 f.ahi) ∧ w'.cell? ⟨wo.heap.size, 5, none⟩ = some (.int .i64 f.blo) ∧ w'.cell? ⟨wo.heap.size, 6, none⟩ = some (.int .i64 f.bhi) ∧ w'.cell? ⟨wo.heap.size, 7, none⟩ = some (.int .i64 f.ulo) ∧ w'.cell? ⟨wo.heap.size, 8, none⟩ = some (.int .i64 f.uhi))) ∧ KP (fun j => j = T ∨ (Value.slice a5 k q5).ownBlock = some j) W2 w') := Lib.hid (fun w' hx h => ⟨⟨h, HSN.out w' hx⟩, hx⟩)
        have HCUR : Hid (∀ w', GB (Value.slice a5 k q5).ownBlock W2 w' → w'.cell? ⟨T, 3, none⟩ = some (curV w' ⟨T, 3, none⟩) ∧ w'.frozen? ⟨T, 3, none⟩ = false) := Lib.hid (fun w' hx => ⟨cur_self (HTC.out w' hx).1, (HTC.out w' hx).2⟩)
        have HCUS : Hid (∀ w' x, GB (Value.slice a5 k q5).ownBlock W2 w' → (w'.setCell ⟨T, 3, none⟩ x).cell? ⟨T, 3, none⟩ = some (curV (w'.setCell ⟨T, 3, none⟩ x) ⟨T, 3, none⟩) ∧ (w'.setCell ⟨T, 3, none⟩ x).frozen? ⟨T, 3, none⟩ = false) := Lib.hid (fun w' x hx => ⟨cur_self (sc_eq (HTC.out w' hx).1), by rw [World.frozen?_setCell]; exact (HTC.out w' hx).2⟩)
        have HCV : Hid (∀ w', Ext W2 w' → curV w' ⟨T, 3, none⟩ = .slice a5 k q5) := Lib.hid (fun w' hx => cur_val (HTC.out w' hx.gb).1)
        refine wp_region_held_drew (S := (fun w' => ((w'.cell? ⟨T, 3, none⟩ = some (curV w' ⟨T, 3, none⟩) ∧ w'.frozen? ⟨T, 3, none⟩ = false) ∧ (w'.cell? ⟨wo.heap.size, 0, none⟩ = some (.int .i64 f.crop) ∧ w'.cell? ⟨wo.heap.size, 1, none⟩ = some (.int .i64 f.value) ∧ w'.cell? ⟨wo.heap.size, 2, none⟩ = some (.int .i64 f.near) ∧ w'.cell? ⟨wo.heap.size, 3, none⟩ = some (.int .i64 f.alo) ∧ w'.cell? ⟨wo.heap.size, 4, none⟩ = some (.int .i64 f.ahi) ∧ w'.cell? ⟨wo.heap.size, 5, none⟩ = some (.int .i64 f.blo) ∧ w'.cell? ⟨wo.heap.size, 6, none⟩ = some (.int .i64 f.bhi) ∧ w'.cell? ⟨wo.heap.size, 7, none⟩ = some (.int .i64 f.ulo) ∧ w'.cell? ⟨wo.heap.size, 8, none⟩ = some (.int .i64 f.uhi))) ∧ KP (fun j => j = T ∨ (Value.slice a5 k q5).ownBlock = some j) W2 w')) (by kernel_rfl) ?_ (fun hHeld => ?_)
        focus ((try dsimp only); (refine HSS.out _ ?_ ?_; (repeat (first | exact KP.refl _ | (with_reducible assumption) | (with_reducible refine KP.drew ?_) | (with_reducible refine KP.alloc ?_ _) | (with_reducible refine KP.setCell ?_ (Or.inl rfl) _) | (with_reducible refine KP.ext ?_ (by with_reducible assumption)) | (with_reducible refine KP.trans ?_ (by with_reducible assumption)) | (with_reducible refine Ext.kp (by with_reducible assumption)))); (first | (refine HCUR.out _ ?_; with_reducible assumption) | (refine HCUS.out _ _ ?_; with_reducible assumption) | (refine HCUR.out _ (Ext.gb ?_); ((repeat (first | exact Ext.refl _ | (with_reducible assumption) | (with_reducible refine Ext.drew ?_) | (with_reducible refine Ext.alloc ?_ _) | (with_reducible refine Ext.drewN ?_ _) | (with_reducible refine Ext.setCell ?_ (by omega) _) | (with_reducible refine Ext.trans ?_ (by with_reducible assumption)))); done)))))
        refine wpAnyH_take (i := 0) (v := ?_) rfl (by kernel_rfl) (by decide +kernel) (by decide +kernel) (fun _ _ _ h => h) (Or.inl ⟨by rfl, ?_⟩) (by assumption) ?_
        rotate_left
        focus (intro w hSw; (try dsimp only at hSw); go_simp; try (first | (with_reducible rfl) | (with_reducible exact rfl)))
        (try simp only [Act.put, List.getElem_toArray, List.getElem_cons_succ, List.getElem_cons_zero, List.setIfInBounds_toArray, List.set_cons_zero, List.set_cons_succ])
        refine wpAnyH_take (i := 2) (v := ?_) rfl (by kernel_rfl) (by decide +kernel) (by decide +kernel) (fun _ _ _ h => h) (Or.inl ⟨by rfl, ?_⟩) (by assumption) ?_
        rotate_left
        focus (intro w hSw; (try dsimp only at hSw); go_simp; try (first | (with_reducible rfl) | (with_reducible exact rfl)))
        (try simp only [Act.put, List.getElem_toArray, List.getElem_cons_succ, List.getElem_cons_zero, List.setIfInBounds_toArray, List.set_cons_zero, List.set_cons_succ])
        refine wpAnyH_take (i := 3) (v := ?_) rfl (by kernel_rfl) (by decide +kernel) (by decide +kernel) (fun _ _ _ h => h) (Or.inl ⟨by rfl, ?_⟩) (by assumption) ?_
        rotate_left
        focus (intro w hSw; (try dsimp only at hSw); go_simp; try (first | (with_reducible rfl) | (with_reducible exact rfl)))
        (try simp only [Act.put, List.getElem_toArray, List.getElem_cons_succ, List.getElem_cons_zero, List.setIfInBounds_toArray, List.set_cons_zero, List.set_cons_succ])
        refine wpAnyH_take (i := 4) (v := ?_) rfl (by kernel_rfl) (by decide +kernel) (by decide +kernel) (fun _ _ _ h => h) (Or.inl ⟨by rfl, ?_⟩) (by assumption) ?_
        rotate_left
        focus (intro w hSw; (try dsimp only at hSw); go_simp; try (first | (with_reducible rfl) | (with_reducible exact rfl)))
        (try simp only [Act.put, List.getElem_toArray, List.getElem_cons_succ, List.getElem_cons_zero, List.setIfInBounds_toArray, List.set_cons_zero, List.set_cons_succ])
        refine wpAnyH_take (i := 5) (v := ?_) rfl (by kernel_rfl) (by decide +kernel) (by decide +kernel) (fun _ _ _ h => h) (Or.inl ⟨by rfl, ?_⟩) (by assumption) ?_
        rotate_left
        focus (intro w hSw; (try dsimp only at hSw); go_simp; try (first | (with_reducible rfl) | (with_reducible exact rfl)))
        (try simp only [Act.put, List.getElem_toArray, List.getElem_cons_succ, List.getElem_cons_zero, List.setIfInBounds_toArray, List.set_cons_zero, List.set_cons_succ])
        refine wpAnyH_take (i := 6) (v := ?_) rfl (by kernel_rfl) (by decide +kernel) (by decide +kernel) (fun _ _ _ h => h) (Or.inl ⟨by rfl, ?_⟩) (by assumption) ?_
        rotate_left
        focus (intro w hSw; (try dsimp only at hSw); go_simp; try (first | (with_reducible rfl) | (with_reducible exact rfl)))
        (try simp only [Act.put, List.getElem_toArray, List.getElem_cons_succ, List.getElem_cons_zero, List.setIfInBounds_toArray, List.set_cons_zero, List.set_cons_succ])
        refine wpAnyH_take (i := 7) (v := ?_) rfl (by kernel_rfl) (by decide +kernel) (by decide +kernel) (fun _ _ _ h => h) (Or.inl ⟨by rfl, ?_⟩) (by assumption) ?_
        rotate_left
        focus (intro w hSw; (try dsimp only at hSw); go_simp; try (first | (with_reducible rfl) | (with_reducible exact rfl)))
        (try simp only [Act.put, List.getElem_toArray, List.getElem_cons_succ, List.getElem_cons_zero, List.setIfInBounds_toArray, List.set_cons_zero, List.set_cons_succ])
        refine wpAnyH_take (i := 8) (v := ?_) rfl (by kernel_rfl) (by decide +kernel) (by decide +kernel) (fun _ _ _ h => h) (Or.inl ⟨by rfl, ?_⟩) (by assumption) ?_
        rotate_left
        focus (intro w hSw; (try dsimp only at hSw); go_simp; try (first | (with_reducible rfl) | (with_reducible exact rfl)))
        (try simp only [Act.put, List.getElem_toArray, List.getElem_cons_succ, List.getElem_cons_zero, List.setIfInBounds_toArray, List.set_cons_zero, List.set_cons_succ])
        refine wpAnyH_take (i := 9) (v := ?_) rfl (by kernel_rfl) (by decide +kernel) (by decide +kernel) (fun _ _ _ h => h) (Or.inl ⟨by rfl, ?_⟩) (by assumption) ?_
        rotate_left
        focus (intro w hSw; (try dsimp only at hSw); go_simp; try (first | (with_reducible rfl) | (with_reducible exact rfl)))
        (try simp only [Act.put, List.getElem_toArray, List.getElem_cons_succ, List.getElem_cons_zero, List.setIfInBounds_toArray, List.set_cons_zero, List.set_cons_succ])
        refine wpAnyH_take (i := 11) (v := ?_) rfl (by kernel_rfl) (by decide +kernel) (by decide +kernel) (fun _ _ _ h => h) (Or.inl ⟨by rfl, ?_⟩) (by assumption) ?_
        rotate_left
        focus (intro w hSw; (try dsimp only at hSw); go_simp; try (first | (with_reducible rfl) | (with_reducible exact rfl)))
        (try simp only [Act.put, List.getElem_toArray, List.getElem_cons_succ, List.getElem_cons_zero, List.setIfInBounds_toArray, List.set_cons_zero, List.set_cons_succ])
        refine wpAnyH_take (i := 12) (v := ?_) rfl (by kernel_rfl) (by decide +kernel) (by decide +kernel) (fun _ _ _ h => h) (Or.inl ⟨by rfl, ?_⟩) (by assumption) ?_
        rotate_left
        focus (intro w hSw; (try dsimp only at hSw); go_simp; try (first | (with_reducible rfl) | (with_reducible exact rfl)))
        (try simp only [Act.put, List.getElem_toArray, List.getElem_cons_succ, List.getElem_cons_zero, List.setIfInBounds_toArray, List.set_cons_zero, List.set_cons_succ])
        refine wpAnyH_take (i := 14) (v := ?_) rfl (by kernel_rfl) (by decide +kernel) (by decide +kernel) (fun _ _ _ h => h) (Or.inl ⟨by rfl, ?_⟩) (by assumption) ?_
        rotate_left
        focus (intro w hSw; (try dsimp only at hSw); go_simp; try (first | (with_reducible rfl) | (with_reducible exact rfl)))
        (try simp only [Act.put, List.getElem_toArray, List.getElem_cons_succ, List.getElem_cons_zero, List.setIfInBounds_toArray, List.set_cons_zero, List.set_cons_succ])
        refine wpAnyH_take (i := 15) (v := ?_) rfl (by kernel_rfl) (by decide +kernel) (by decide +kernel) (fun _ _ _ h => h) (Or.inl ⟨by rfl, ?_⟩) (by assumption) ?_
        rotate_left
        focus (intro w hSw; (try dsimp only at hSw); go_simp; try (first | (with_reducible rfl) | (with_reducible exact rfl)))
        (try simp only [Act.put, List.getElem_toArray, List.getElem_cons_succ, List.getElem_cons_zero, List.setIfInBounds_toArray, List.set_cons_zero, List.set_cons_succ])
        repeat' (first
          | (refine wpAnyH_take (i := 17) (v := ?_) rfl (by kernel_rfl) (by decide +kernel) (by decide +kernel) (fun _ _ _ h => h) (Or.inl ⟨by rfl, ?_⟩) (by assumption) ?_
             rotate_left
             focus (intro w hSw; (try dsimp only at hSw); go_simp; try (first | (with_reducible rfl) | (with_reducible exact rfl)))
             (try simp only [Act.put, List.getElem_toArray, List.getElem_cons_succ, List.getElem_cons_zero, List.setIfInBounds_toArray, List.set_cons_zero, List.set_cons_succ]))
          | (refine wpAnyH_take (i := 20) (v := ?_) rfl (by kernel_rfl) (by decide +kernel) (by decide +kernel) (fun _ _ _ h => h) (Or.inl ⟨by rfl, ?_⟩) (by assumption) ?_
             rotate_left
             focus (intro w hSw; (try dsimp only at hSw); go_simp; try (first | (with_reducible rfl) | (with_reducible exact rfl)))
             (try simp only [Act.put, List.getElem_toArray, List.getElem_cons_succ, List.getElem_cons_zero, List.setIfInBounds_toArray, List.set_cons_zero, List.set_cons_succ]))
          | (refine wpAnyH_ready (rs := [1, 10]) (by decide +kernel) (by simp) ?_
             refine AllReadyH.cons rfl (fun K hK => ?_) ?_
             focus
               go_simp
               refine hK.out _ _ ?_ (fun hNew => ?_)
               focus ((try dsimp only); (refine HSS.out _ ?_ ?_; (repeat (first | exact KP.refl _ | (with_reducible assumption) | (with_reducible refine KP.drew ?_) | (with_reducible refine KP.alloc ?_ _) | (with_reducible refine KP.setCell ?_ (Or.inl rfl) _) | (with_reducible refine KP.ext ?_ (by with_reducible assumption)) | (with_reducible refine KP.trans ?_ (by with_reducible assumption)) | (with_reducible refine Ext.kp (by with_reducible assumption)))); (first | (refine HCUR.out _ ?_; with_reducible assumption) | (refine HCUS.out _ _ ?_; with_reducible assumption) | (refine HCUR.out _ (Ext.gb ?_); ((repeat (first | exact Ext.refl _ | (with_reducible assumption) | (with_reducible refine Ext.drew ?_) | (with_reducible refine Ext.alloc ?_ _) | (with_reducible refine Ext.drewN ?_ _) | (with_reducible refine Ext.setCell ?_ (by omega) _) | (with_reducible refine Ext.trans ?_ (by with_reducible assumption)))); done)))))
               clear hK K hHeld
               have hHeld := hNew
               clear hNew
               (try simp only [Act.put, List.getElem_toArray, List.getElem_cons_succ, List.getElem_cons_zero, List.setIfInBounds_toArray, List.set_cons_zero, List.set_cons_succ])
             rotate_left
             refine AllReadyH.cons rfl (fun K hK => ?_) ?_
             focus
               (go_simp; ((go_at_call 13; (refine (HTO.out _ _ _).mono ?_); rintro e w3 ⟨rfl, hx3⟩)); go_wp2_with fail)
               refine hK.out _ _ ?_ (fun hNew => ?_)
               focus ((try dsimp only); (refine HSS.out _ ?_ ?_; (repeat (first | exact KP.refl _ | (with_reducible assumption) | (with_reducible refine KP.drew ?_) | (with_reducible refine KP.alloc ?_ _) | (with_reducible refine KP.setCell ?_ (Or.inl rfl) _) | (with_reducible refine KP.ext ?_ (by with_reducible assumption)) | (with_reducible refine KP.trans ?_ (by with_reducible assumption)) | (with_reducible refine Ext.kp (by with_reducible assumption)))); (first | (refine HCUR.out _ ?_; with_reducible assumption) | (refine HCUS.out _ _ ?_; with_reducible assumption) | (refine HCUR.out _ (Ext.gb ?_); ((repeat (first | exact Ext.refl _ | (with_reducible assumption) | (with_reducible refine Ext.drew ?_) | (with_reducible refine Ext.alloc ?_ _) | (with_reducible refine Ext.drewN ?_ _) | (with_reducible refine Ext.setCell ?_ (by omega) _) | (with_reducible refine Ext.trans ?_ (by with_reducible assumption)))); done)))))
               clear hK K hHeld
               have hHeld := hNew
               clear hNew
               (try simp only [Act.put, List.getElem_toArray, List.getElem_cons_succ, List.getElem_cons_zero, List.setIfInBounds_toArray, List.set_cons_zero, List.set_cons_succ])
             rotate_left
             exact AllReadyH.nil)
          | (refine wpAnyH_ready (rs := [10]) (by decide +kernel) (by simp) ?_
             refine AllReadyH.cons rfl (fun K hK => ?_) ?_
             focus
               (go_simp; ((go_at_call 13; (refine (HTO.out _ _ _).mono ?_); rintro e w3 ⟨rfl, hx3⟩)); go_wp2_with fail)
               refine hK.out _ _ ?_ (fun hNew => ?_)
               focus ((try dsimp only); (refine HSS.out _ ?_ ?_; (repeat (first | exact KP.refl _ | (with_reducible assumption) | (with_reducible refine KP.drew ?_) | (with_reducible refine KP.alloc ?_ _) | (with_reducible refine KP.setCell ?_ (Or.inl rfl) _) | (with_reducible refine KP.ext ?_ (by with_reducible assumption)) | (with_reducible refine KP.trans ?_ (by with_reducible assumption)) | (with_reducible refine Ext.kp (by with_reducible assumption)))); (first | (refine HCUR.out _ ?_; with_reducible assumption) | (refine HCUS.out _ _ ?_; with_reducible assumption) | (refine HCUR.out _ (Ext.gb ?_); ((repeat (first | exact Ext.refl _ | (with_reducible assumption) | (with_reducible refine Ext.drew ?_) | (with_reducible refine Ext.alloc ?_ _) | (with_reducible refine Ext.drewN ?_ _) | (with_reducible refine Ext.setCell ?_ (by omega) _) | (with_reducible refine Ext.trans ?_ (by with_reducible assumption)))); done)))))
               clear hK K hHeld
               have hHeld := hNew
               clear hNew
               (try simp only [Act.put, List.getElem_toArray, List.getElem_cons_succ, List.getElem_cons_zero, List.setIfInBounds_toArray, List.set_cons_zero, List.set_cons_succ])
             rotate_left
             exact AllReadyH.nil)
          | (refine wpAnyH_ready (rs := [1, 13]) (by decide +kernel) (by simp) ?_
             refine AllReadyH.cons rfl (fun K hK => ?_) ?_
             focus
               go_simp
               refine hK.out _ _ ?_ (fun hNew => ?_)
               focus ((try dsimp only); (refine HSS.out _ ?_ ?_; (repeat (first | exact KP.refl _ | (with_reducible assumption) | (with_reducible refine KP.drew ?_) | (with_reducible refine KP.alloc ?_ _) | (with_reducible refine KP.setCell ?_ (Or.inl rfl) _) | (with_reducible refine KP.ext ?_ (by with_reducible assumption)) | (with_reducible refine KP.trans ?_ (by with_reducible assumption)) | (with_reducible refine Ext.kp (by with_reducible assumption)))); (first | (refine HCUR.out _ ?_; with_reducible assumption) | (refine HCUS.out _ _ ?_; with_reducible assumption) | (refine HCUR.out _ (Ext.gb ?_); ((repeat (first | exact Ext.refl _ | (with_reducible assumption) | (with_reducible refine Ext.drew ?_) | (with_reducible refine Ext.alloc ?_ _) | (with_reducible refine Ext.drewN ?_ _) | (with_reducible refine Ext.setCell ?_ (by omega) _) | (with_reducible refine Ext.trans ?_ (by with_reducible assumption)))); done)))))
               clear hK K hHeld
               have hHeld := hNew
               clear hNew
               (try simp only [Act.put, List.getElem_toArray, List.getElem_cons_succ, List.getElem_cons_zero, List.setIfInBounds_toArray, List.set_cons_zero, List.set_cons_succ])
             rotate_left
             refine AllReadyH.cons rfl (fun K hK => ?_) ?_
             focus
               (go_simp; ((go_at_call 13; (refine (HTO.out _ _ _).mono ?_); rintro e w3 ⟨rfl, hx3⟩)); go_wp2_with fail)
               refine hK.out _ _ ?_ (fun hNew => ?_)
               focus ((try dsimp only); (refine HSS.out _ ?_ ?_; (repeat (first | exact KP.refl _ | (with_reducible assumption) | (with_reducible refine KP.drew ?_) | (with_reducible refine KP.alloc ?_ _) | (with_reducible refine KP.setCell ?_ (Or.inl rfl) _) | (with_reducible refine KP.ext ?_ (by with_reducible assumption)) | (with_reducible refine KP.trans ?_ (by with_reducible assumption)) | (with_reducible refine Ext.kp (by with_reducible assumption)))); (first | (refine HCUR.out _ ?_; with_reducible assumption) | (refine HCUS.out _ _ ?_; with_reducible assumption) | (refine HCUR.out _ (Ext.gb ?_); ((repeat (first | exact Ext.refl _ | (with_reducible assumption) | (with_reducible refine Ext.drew ?_) | (with_reducible refine Ext.alloc ?_ _) | (with_reducible refine Ext.drewN ?_ _) | (with_reducible refine Ext.setCell ?_ (by omega) _) | (with_reducible refine Ext.trans ?_ (by with_reducible assumption)))); done)))))
               clear hK K hHeld
               have hHeld := hNew
               clear hNew
               (try simp only [Act.put, List.getElem_toArray, List.getElem_cons_succ, List.getElem_cons_zero, List.setIfInBounds_toArray, List.set_cons_zero, List.set_cons_succ])
             rotate_left
             exact AllReadyH.nil)
          | (refine wpAnyH_ready (rs := [13]) (by decide +kernel) (by simp) ?_
             refine AllReadyH.cons rfl (fun K hK => ?_) ?_
             focus
               (go_simp; ((go_at_call 13; (refine (HTO.out _ _ _).mono ?_); rintro e w3 ⟨rfl, hx3⟩)); go_wp2_with fail)
               refine hK.out _ _ ?_ (fun hNew => ?_)
               focus ((try dsimp only); (refine HSS.out _ ?_ ?_; (repeat (first | exact KP.refl _ | (with_reducible assumption) | (with_reducible refine KP.drew ?_) | (with_reducible refine KP.alloc ?_ _) | (with_reducible refine KP.setCell ?_ (Or.inl rfl) _) | (with_reducible refine KP.ext ?_ (by with_reducible assumption)) | (with_reducible refine KP.trans ?_ (by with_reducible assumption)) | (with_reducible refine Ext.kp (by with_reducible assumption)))); (first | (refine HCUR.out _ ?_; with_reducible assumption) | (refine HCUS.out _ _ ?_; with_reducible assumption) | (refine HCUR.out _ (Ext.gb ?_); ((repeat (first | exact Ext.refl _ | (with_reducible assumption) | (with_reducible refine Ext.drew ?_) | (with_reducible refine Ext.alloc ?_ _) | (with_reducible refine Ext.drewN ?_ _) | (with_reducible refine Ext.setCell ?_ (by omega) _) | (with_reducible refine Ext.trans ?_ (by with_reducible assumption)))); done)))))
               clear hK K hHeld
               have hHeld := hNew
               clear hNew
               (try simp only [Act.put, List.getElem_toArray, List.getElem_cons_succ, List.getElem_cons_zero, List.setIfInBounds_toArray, List.set_cons_zero, List.set_cons_succ])
             rotate_left
             exact AllReadyH.nil)
          | (refine wpAnyH_ready (rs := [1, 16]) (by decide +kernel) (by simp) ?_
             refine AllReadyH.cons rfl (fun K hK => ?_) ?_
             focus
               go_simp
               refine hK.out _ _ ?_ (fun hNew => ?_)
               focus ((try dsimp only); (refine HSS.out _ ?_ ?_; (repeat (first | exact KP.refl _ | (with_reducible assumption) | (with_reducible refine KP.drew ?_) | (with_reducible refine KP.alloc ?_ _) | (with_reducible refine KP.setCell ?_ (Or.inl rfl) _) | (with_reducible refine KP.ext ?_ (by with_reducible assumption)) | (with_reducible refine KP.trans ?_ (by with_reducible assumption)) | (with_reducible refine Ext.kp (by with_reducible assumption)))); (first | (refine HCUR.out _ ?_; with_reducible assumption) | (refine HCUS.out _ _ ?_; with_reducible assumption) | (refine HCUR.out _ (Ext.gb ?_); ((repeat (first | exact Ext.refl _ | (with_reducible assumption) | (with_reducible refine Ext.drew ?_) | (with_reducible refine Ext.alloc ?_ _) | (with_reducible refine Ext.drewN ?_ _) | (with_reducible refine Ext.setCell ?_ (by omega) _) | (with_reducible refine Ext.trans ?_ (by with_reducible assumption)))); done)))))
               clear hK K hHeld
               have hHeld := hNew
               clear hNew
               (try simp only [Act.put, List.getElem_toArray, List.getElem_cons_succ, List.getElem_cons_zero, List.setIfInBounds_toArray, List.set_cons_zero, List.set_cons_succ])
             rotate_left
             refine AllReadyH.cons rfl (fun K hK => ?_) ?_
             focus
               (go_simp; ((go_at_call 13; (refine (HTO.out _ _ _).mono ?_); rintro e w3 ⟨rfl, hx3⟩)); go_wp2_with fail)
               refine hK.out _ _ ?_ (fun hNew => ?_)
               focus ((try dsimp only); (refine HSS.out _ ?_ ?_; (repeat (first | exact KP.refl _ | (with_reducible assumption) | (with_reducible refine KP.drew ?_) | (with_reducible refine KP.alloc ?_ _) | (with_reducible refine KP.setCell ?_ (Or.inl rfl) _) | (with_reducible refine KP.ext ?_ (by with_reducible assumption)) | (with_reducible refine KP.trans ?_ (by with_reducible assumption)) | (with_reducible refine Ext.kp (by with_reducible assumption)))); (first | (refine HCUR.out _ ?_; with_reducible assumption) | (refine HCUS.out _ _ ?_; with_reducible assumption) | (refine HCUR.out _ (Ext.gb ?_); ((repeat (first | exact Ext.refl _ | (with_reducible assumption) | (with_reducible refine Ext.drew ?_) | (with_reducible refine Ext.alloc ?_ _) | (with_reducible refine Ext.drewN ?_ _) | (with_reducible refine Ext.setCell ?_ (by omega) _) | (with_reducible refine Ext.trans ?_ (by with_reducible assumption)))); done)))))
               clear hK K hHeld
               have hHeld := hNew
               clear hNew
               (try simp only [Act.put, List.getElem_toArray, List.getElem_cons_succ, List.getElem_cons_zero, List.setIfInBounds_toArray, List.set_cons_zero, List.set_cons_succ])
             rotate_left
             exact AllReadyH.nil)
          | (refine wpAnyH_ready (rs := [16]) (by decide +kernel) (by simp) ?_
             refine AllReadyH.cons rfl (fun K hK => ?_) ?_
             focus
               (go_simp; ((go_at_call 13; (refine (HTO.out _ _ _).mono ?_); rintro e w3 ⟨rfl, hx3⟩)); go_wp2_with fail)
               refine hK.out _ _ ?_ (fun hNew => ?_)
               focus ((try dsimp only); (refine HSS.out _ ?_ ?_; (repeat (first | exact KP.refl _ | (with_reducible assumption) | (with_reducible refine KP.drew ?_) | (with_reducible refine KP.alloc ?_ _) | (with_reducible refine KP.setCell ?_ (Or.inl rfl) _) | (with_reducible refine KP.ext ?_ (by with_reducible assumption)) | (with_reducible refine KP.trans ?_ (by with_reducible assumption)) | (with_reducible refine Ext.kp (by with_reducible assumption)))); (first | (refine HCUR.out _ ?_; with_reducible assumption) | (refine HCUS.out _ _ ?_; with_reducible assumption) | (refine HCUR.out _ (Ext.gb ?_); ((repeat (first | exact Ext.refl _ | (with_reducible assumption) | (with_reducible refine Ext.drew ?_) | (with_reducible refine Ext.alloc ?_ _) | (with_reducible refine Ext.drewN ?_ _) | (with_reducible refine Ext.setCell ?_ (by omega) _) | (with_reducible refine Ext.trans ?_ (by with_reducible assumption)))); done)))))
               clear hK K hHeld
               have hHeld := hNew
               clear hNew
               (try simp only [Act.put, List.getElem_toArray, List.getElem_cons_succ, List.getElem_cons_zero, List.setIfInBounds_toArray, List.set_cons_zero, List.set_cons_succ])
             rotate_left
             exact AllReadyH.nil)
          | (refine wpAnyH_ready (rs := [1, 18]) (by decide +kernel) (by simp) ?_
             refine AllReadyH.cons rfl (fun K hK => ?_) ?_
             focus
               go_simp
               refine hK.out _ _ ?_ (fun hNew => ?_)
               focus ((try dsimp only); (refine HSS.out _ ?_ ?_; (repeat (first | exact KP.refl _ | (with_reducible assumption) | (with_reducible refine KP.drew ?_) | (with_reducible refine KP.alloc ?_ _) | (with_reducible refine KP.setCell ?_ (Or.inl rfl) _) | (with_reducible refine KP.ext ?_ (by with_reducible assumption)) | (with_reducible refine KP.trans ?_ (by with_reducible assumption)) | (with_reducible refine Ext.kp (by with_reducible assumption)))); (first | (refine HCUR.out _ ?_; with_reducible assumption) | (refine HCUS.out _ _ ?_; with_reducible assumption) | (refine HCUR.out _ (Ext.gb ?_); ((repeat (first | exact Ext.refl _ | (with_reducible assumption) | (with_reducible refine Ext.drew ?_) | (with_reducible refine Ext.alloc ?_ _) | (with_reducible refine Ext.drewN ?_ _) | (with_reducible refine Ext.setCell ?_ (by omega) _) | (with_reducible refine Ext.trans ?_ (by with_reducible assumption)))); done)))))
               clear hK K hHeld
               have hHeld := hNew
               clear hNew
               (try simp only [Act.put, List.getElem_toArray, List.getElem_cons_succ, List.getElem_cons_zero, List.setIfInBounds_toArray, List.set_cons_zero, List.set_cons_succ])
             rotate_left
             refine AllReadyH.cons rfl (fun K hK => ?_) ?_
             focus
               go_simp
               refine hK.out _ _ ?_ (fun hNew => ?_)
               focus ((try dsimp only); (refine HSS.out _ ?_ ?_; (repeat (first | exact KP.refl _ | (with_reducible assumption) | (with_reducible refine KP.drew ?_) | (with_reducible refine KP.alloc ?_ _) | (with_reducible refine KP.setCell ?_ (Or.inl rfl) _) | (with_reducible refine KP.ext ?_ (by with_reducible assumption)) | (with_reducible refine KP.trans ?_ (by with_reducible assumption)) | (with_reducible refine Ext.kp (by with_reducible assumption)))); (first | (refine HCUR.out _ ?_; with_reducible assumption) | (refine HCUS.out _ _ ?_; with_reducible assumption) | (refine HCUR.out _ (Ext.gb ?_); ((repeat (first | exact Ext.refl _ | (with_reducible assumption) | (with_reducible refine Ext.drew ?_) | (with_reducible refine Ext.alloc ?_ _) | (with_reducible refine Ext.drewN ?_ _) | (with_reducible refine Ext.setCell ?_ (by omega) _) | (with_reducible refine Ext.trans ?_ (by with_reducible assumption)))); done)))))
               clear hK K hHeld
               have hHeld := hNew
               clear hNew
               (try simp only [Act.put, List.getElem_toArray, List.getElem_cons_succ, List.getElem_cons_zero, List.setIfInBounds_toArray, List.set_cons_zero, List.set_cons_succ])
             rotate_left
             exact AllReadyH.nil)
          | (refine wpAnyH_ready (rs := [18]) (by decide +kernel) (by simp) ?_
             refine AllReadyH.cons rfl (fun K hK => ?_) ?_
             focus
               go_simp
               refine hK.out _ _ ?_ (fun hNew => ?_)
               focus ((try dsimp only); (refine HSS.out _ ?_ ?_; (repeat (first | exact KP.refl _ | (with_reducible assumption) | (with_reducible refine KP.drew ?_) | (with_reducible refine KP.alloc ?_ _) | (with_reducible refine KP.setCell ?_ (Or.inl rfl) _) | (with_reducible refine KP.ext ?_ (by with_reducible assumption)) | (with_reducible refine KP.trans ?_ (by with_reducible assumption)) | (with_reducible refine Ext.kp (by with_reducible assumption)))); (first | (refine HCUR.out _ ?_; with_reducible assumption) | (refine HCUS.out _ _ ?_; with_reducible assumption) | (refine HCUR.out _ (Ext.gb ?_); ((repeat (first | exact Ext.refl _ | (with_reducible assumption) | (with_reducible refine Ext.drew ?_) | (with_reducible refine Ext.alloc ?_ _) | (with_reducible refine Ext.drewN ?_ _) | (with_reducible refine Ext.setCell ?_ (by omega) _) | (with_reducible refine Ext.trans ?_ (by with_reducible assumption)))); done)))))
               clear hK K hHeld
               have hHeld := hNew
               clear hNew
               (try simp only [Act.put, List.getElem_toArray, List.getElem_cons_succ, List.getElem_cons_zero, List.setIfInBounds_toArray, List.set_cons_zero, List.set_cons_succ])
             rotate_left
             exact AllReadyH.nil)
          | (refine wpAnyH_ready (rs := [1]) (by decide +kernel) (by simp) ?_
             refine AllReadyH.cons rfl (fun K hK => ?_) ?_
             focus
               go_simp
               refine hK.out _ _ ?_ (fun hNew => ?_)
               focus ((try dsimp only); (refine HSS.out _ ?_ ?_; (repeat (first | exact KP.refl _ | (with_reducible assumption) | (with_reducible refine KP.drew ?_) | (with_reducible refine KP.alloc ?_ _) | (with_reducible refine KP.setCell ?_ (Or.inl rfl) _) | (with_reducible refine KP.ext ?_ (by with_reducible assumption)) | (with_reducible refine KP.trans ?_ (by with_reducible assumption)) | (with_reducible refine Ext.kp (by with_reducible assumption)))); (first | (refine HCUR.out _ ?_; with_reducible assumption) | (refine HCUS.out _ _ ?_; with_reducible assumption) | (refine HCUR.out _ (Ext.gb ?_); ((repeat (first | exact Ext.refl _ | (with_reducible assumption) | (with_reducible refine Ext.drew ?_) | (with_reducible refine Ext.alloc ?_ _) | (with_reducible refine Ext.drewN ?_ _) | (with_reducible refine Ext.setCell ?_ (by omega) _) | (with_reducible refine Ext.trans ?_ (by with_reducible assumption)))); done)))))
               clear hK K hHeld
               have hHeld := hNew
               clear hNew
               (try simp only [Act.put, List.getElem_toArray, List.getElem_cons_succ, List.getElem_cons_zero, List.setIfInBounds_toArray, List.set_cons_zero, List.set_cons_succ])
             rotate_left
             exact AllReadyH.nil)
          | (refine wpAnyH_ready (rs := [19]) (by decide +kernel) (by simp) ?_
             refine AllReadyH.cons rfl (fun K hK => ?_) ?_
             focus
               (((refine step_is_app _ _ 34 rfl ?_); (refine step_append_lies _ (by rfl) _ _ 34 (by rfl) N 78 i9 (.agg #[.int .i64 0, .int .i64 0, .int .i64 0, .int .i64 0, .int .i64 0, .int .i64 0, .int .i64 0, .int .i64 0, .int .i64 0]) 9 72 Tryz.underlying34 hi9 hz90 hz91 hz92 rfl (by decide) (.slice a5 k q5) k ((c.flds.take k).flatMap (fun x => x.c.cs)) (by exact HCV.out _ (by (repeat (first | exact Ext.refl _ | (with_reducible assumption) | (with_reducible refine Ext.drew ?_) | (with_reducible refine Ext.alloc ?_ _) | (with_reducible refine Ext.drewN ?_ _) | (with_reducible refine Ext.setCell ?_ (by omega) _) | (with_reducible refine Ext.trans ?_ (by with_reducible assumption)))))) (own_ext HOWN.out (by (repeat (first | exact Ext.refl _ | (with_reducible assumption) | (with_reducible refine Ext.drew ?_) | (with_reducible refine Ext.alloc ?_ _) | (with_reducible refine Ext.drewN ?_ _) | (with_reducible refine Ext.setCell ?_ (by omega) _) | (with_reducible refine Ext.trans ?_ (by with_reducible assumption)))))) ⟨_, 0, none⟩ 1 1 [.int .i64 f.crop, .int .i64 f.value, .int .i64 f.near, .int .i64 f.alo, .int .i64 f.ahi, .int .i64 f.blo, .int .i64 f.bhi, .int .i64 f.ulo, .int .i64 f.uhi] (by rfl) rfl (nine_in (u := f.c) (by (repeat (first | exact Ext.refl _ | (with_reducible assumption) | (with_reducible refine Ext.drew ?_) | (with_reducible refine Ext.alloc ?_ _) | (with_reducible refine Ext.drewN ?_ _) | (with_reducible refine Ext.setCell ?_ (by omega) _) | (with_reducible refine Ext.trans ?_ (by with_reducible assumption))))) (by first | rfl | simp)) HONE.out (by decide) HF1.out HF2.out (le_ext HF3.out (by (repeat (first | exact Ext.refl _ | (with_reducible assumption) | (with_reducible refine Ext.drew ?_) | (with_reducible refine Ext.alloc ?_ _) | (with_reducible refine Ext.drewN ?_ _) | (with_reducible refine Ext.setCell ?_ (by omega) _) | (with_reducible refine Ext.trans ?_ (by with_reducible assumption)))))) _ rfl ?_); intro g cap w4 hown4 hgrow hat hlt4; have hg4 : GB (Value.slice a5 k q5).ownBlock W2 w4 := gb_own (by (repeat (first | exact Ext.refl _ | (with_reducible assumption) | (with_reducible refine Ext.drew ?_) | (with_reducible refine Ext.alloc ?_ _) | (with_reducible refine Ext.drewN ?_ _) | (with_reducible refine Ext.setCell ?_ (by omega) _) | (with_reducible refine Ext.trans ?_ (by with_reducible assumption))))) hgrow; have hk4 : KP (fun j => j = T ∨ (Value.slice a5 k q5).ownBlock = some j) W2 w4 := gb_kp hg4))
               refine hK.out _ _ ?_ (fun hNew => ?_)
               focus ((try dsimp only); (refine HSS.out _ ?_ ?_; (repeat (first | exact KP.refl _ | (with_reducible assumption) | (with_reducible refine KP.drew ?_) | (with_reducible refine KP.alloc ?_ _) | (with_reducible refine KP.setCell ?_ (Or.inl rfl) _) | (with_reducible refine KP.ext ?_ (by with_reducible assumption)) | (with_reducible refine KP.trans ?_ (by with_reducible assumption)) | (with_reducible refine Ext.kp (by with_reducible assumption)))); (first | (refine HCUR.out _ ?_; with_reducible assumption) | (refine HCUS.out _ _ ?_; with_reducible assumption) | (refine HCUR.out _ (Ext.gb ?_); ((repeat (first | exact Ext.refl _ | (with_reducible assumption) | (with_reducible refine Ext.drew ?_) | (with_reducible refine Ext.alloc ?_ _) | (with_reducible refine Ext.drewN ?_ _) | (with_reducible refine Ext.setCell ?_ (by omega) _) | (with_reducible refine Ext.trans ?_ (by with_reducible assumption)))); done)))))
               clear hK K hHeld
               have hHeld := hNew
               clear hNew
               (try simp only [Act.put, List.getElem_toArray, List.getElem_cons_succ, List.getElem_cons_zero, List.setIfInBounds_toArray, List.set_cons_zero, List.set_cons_succ])
             rotate_left
             exact AllReadyH.nil)
          | (refine wpAnyH_ready (rs := [21]) (by decide +kernel) (by simp) ?_
             refine AllReadyH.cons rfl (fun K hK => ?_) ?_
             focus
               go_simp
               refine hK.out _ _ ?_ (fun hNew => ?_)
               focus ((try dsimp only); (refine HSS.out _ ?_ ?_; (repeat (first | exact KP.refl _ | (with_reducible assumption) | (with_reducible refine KP.drew ?_) | (with_reducible refine KP.alloc ?_ _) | (with_reducible refine KP.setCell ?_ (Or.inl rfl) _) | (with_reducible refine KP.ext ?_ (by with_reducible assumption)) | (with_reducible refine KP.trans ?_ (by with_reducible assumption)) | (with_reducible refine Ext.kp (by with_reducible assumption)))); (first | (refine HCUR.out _ ?_; with_reducible assumption) | (refine HCUS.out _ _ ?_; with_reducible assumption) | (refine HCUR.out _ (Ext.gb ?_); ((repeat (first | exact Ext.refl _ | (with_reducible assumption) | (with_reducible refine Ext.drew ?_) | (with_reducible refine Ext.alloc ?_ _) | (with_reducible refine Ext.drewN ?_ _) | (with_reducible refine Ext.setCell ?_ (by omega) _) | (with_reducible refine Ext.trans ?_ (by with_reducible assumption)))); done)))))
               clear hK K hHeld
               have hHeld := hNew
               clear hNew
               (try simp only [Act.put, List.getElem_toArray, List.getElem_cons_succ, List.getElem_cons_zero, List.setIfInBounds_toArray, List.set_cons_zero, List.set_cons_succ])
             rotate_left
             exact AllReadyH.nil)
          | (refine wpAnyH_done (by decide +kernel) ?_ _)
          | fail)
        all_goals
          have hb1000 := HL.out
          have HAP := Lib.hid (HW2.out.app (f := f) (v' := .slice (some ⟨g, 0, none⟩) (k + 1) cap) hg4 hown4 (by rw [HLEN.out]) (by rw [HEF.out]) HTK.out.symm)
          go_wp2_with fail
          go_roundw
          case rel => exact ⟨k + 1, _, cap, by omega, by go_num, HAP⟩
          case measure => simp [intOf]; omega
      · obtain rfl : k = c.flds.length := by omega
        have HZ := fun o => (HX.frozen (k := w.heap.size + 1) (o := o) (by omega)).trans (HSF.out o)
        have t0 := HP.out.t0
        have t1 := HP.out.t1
        have t2 := HP.out.t2
        have t3 := HP.out.t3
        have hT0 := HP.out.n0
        have XX := X.trans HX
        have hT : w.heap.size + 1 ≠ T := by omega
        have hT' : T ≠ w.heap.size + 1 := by omega
        obtain ⟨av, qv, rfl, -⟩ := id HP.out.tv
        clear HCL HX HS HTO
        have HPH := HP
        clear HP
        go_wp2_with fail
        refine bodyPost_ret (v := .agg #[.slice av c.tars.length qv, .int .i64 c.day, .int .i64 c.fee, .slice a5 c.flds.length q5]) (by simp [results, Tryz.results7, go_sem, r0, r1, r2, r3]) rfl ⟨_, rfl, HPH.out.out HL.out ?_, ?_⟩
        · have hlt' : w.heap.size + 1 < W.heap.size := by omega
          exact KP.setCell (p := fun k => k < W.heap.size) (KP.setCell (p := fun k => k < W.heap.size) (KP.setCell (p := fun k => k < W.heap.size) (KP.setCell (p := fun k => k < W.heap.size) (KP.refl _) hlt' _) hlt' _) hlt' _) hlt' _
        · (repeat (first | exact Ext.refl _ | (with_reducible assumption) | (with_reducible refine Ext.drew ?_) | (with_reducible refine Ext.alloc ?_ _) | (with_reducible refine Ext.drewN ?_ _) | (with_reducible refine Ext.setCell ?_ (by omega) _) | (with_reducible refine Ext.trans ?_ (by with_reducible assumption))))
end Go.Proofs.YtedblocbcjoolaaGreat
