/- The walk of TariffNames. -/
import Derived.Test.YtfjecbfcnngacaaDA
import Derived.Test.YtfjecbfcnngacaaDB
import Derived.Test.YtfjecbfcnngacaaDC
import Derived.Test.YtfjecbfcnngacaaBE
import Derived.Test.YtfjecbfcnngacaaAE
import Derived.RegionTactic
import Derived.BigRegion
import Derived.Deep.CutRange
import Derived.Deep.DeepCutAuto
namespace Go.Proofs.Ytfjecbfcnngacaa
open Go.RowKit Go.Hs
attribute [local irreducible] World.setCell World.alloc

theorem nm3 : payN twoL oneC 12 25 = 126 ∧ payE twoL oneC 12 25 = 0 ∧ payE twoL oneC 13 25 = 2 ∧ payN twoL oneC 13 25 = 0 := by decide +kernel
theorem nm7 : totE twoL [oneC, oneC] = 0 ∧ totLo twoL [oneC, oneC] = 210 ∧ totHi twoL [oneC, oneC] = 420 := by decide +kernel
theorem nm6 : misB wrongL 0 0 0 = true ∧ misS (ratesS wrongL 0 0 0) = some [1] ∧ misB twoL 1 0 1 = false := by decide +kernel
theorem info_ints2' : (Try.prog.info? 66).map (fun i => (i.zero, i.size, i.bytes)) = some (some (.slice none 0 0), 1, 24) := by kernel_rfl
theorem nil_tars (w : World) : TarsV w (.slice none 0 0) [] := ⟨none, 0, rfl, Nat.le_refl _, by simp, fun i h => absurd h (Nat.not_lt_zero _)⟩
theorem two_claims {w : World} {B : Nat} {u v : V6} (h0 : Cell6 w B 0 u) (h1 : Cell6 w B 6 v) {c d : Cla} (hu : u = c.u) (hv : v = d.u) : ClasV Cla.u w (.slice (some ⟨B, 0, none⟩) 2 2) [c, d] := by
  subst hu hv
  refine ⟨_, 2, rfl, by simp, by simp, fun i hi => ⟨B, 0, rfl, ?_⟩⟩
  rcases i with _ | _ | i
  · exact h0
  · exact h1
  · simp at hi; omega

theorem one_ints (W : World) (t : TypeId) : IntsV (W.alloc (.cells #[.int .i64 1] t)) (.slice (some ⟨W.heap.size, 0, none⟩) 1 1) (ints [1]) :=
  ints_mk [1] rfl (by decide) (fun i hi => by
    rcases i with _ | i
    · exact alloc_at rfl rfl
    · simp at hi) (by decide)

set_option maxRecDepth 100000 in
set_option maxHeartbeats 8000000 in
theorem walk_TariffNames (w : World) : Calls Try.prog 17 #[] w fun e w' => e = .returned (.bool true) ∧ Ext w w' := by
  have HAW : Hid (∀ W, Calls Try.prog 19 #[] W fun e w' => e = .returned (.bool true) ∧ Ext W w') := awake_any
  have HTW : Hid (∀ W, Calls Try.prog 56 #[] W fun e w' => ∃ v, e = .returned v ∧ TarsV w' v twoL ∧ Ext W w') := two_any
  have HTX : Hid (∀ W, Calls Try.prog 56 #[] W fun e w' => e = .returned (.slice (some ⟨W.heap.size + 11, 0, none⟩) 2 2) ∧ TXE 12 W.heap.size w' ∧ Ext W w' ∧ w'.heap.size = W.heap.size + 12 ∧ w'.heap[W.heap.size + 10]? = some (.cells #[.slice (some ⟨W.heap.size + 9, 0, none⟩) 1 1] 66)) := two_x
  have HON : Hid (∀ W, Calls Try.prog 57 #[] W fun e w' => e = .returned (.agg #[.int .i64 0, .int .i64 1050, .int .i64 9, .int .i64 12, .int .i64 20, .int .i64 25]) ∧ Ext W w') := one_any
  have HBT : Hid (∀ a b W, Calls Try.prog 44 #[.int .i64 a, .int .i64 b] W fun e w' => e = .returned (.agg #[.int .i64 a, .int .i64 b]) ∧ Ext W w') := between_any
  have P1 : Hid (∀ v W, TarsV W v twoL → Calls Try.prog 20 #[v, .int .i64 0, .int .i64 5, .int .i64 9] W fun e w' => e = .returned (.tuple #[.int .i64 0, .int .i64 0]) ∧ Ext W w') := fun v W h => nm1 ▸ Part_any v twoL 0 5 9 W h
  have P2 : Hid (∀ v W, TarsV W v twoL → Calls Try.prog 20 #[v, .int .i64 0, .int .i64 12, .int .i64 25] W fun e w' => e = .returned (.tuple #[.int .i64 12, .int .i64 0]) ∧ Ext W w') := fun v W h => nm2 ▸ Part_any v twoL 0 12 25 W h
  have P3 : Hid (∀ v W, TarsV W v twoL → Calls Try.prog 43 #[v, .agg #[.int .i64 0, .int .i64 1050, .int .i64 9, .int .i64 12, .int .i64 20, .int .i64 25], .agg #[.int .i64 12, .int .i64 25]] W fun e w' => e = .returned (.tuple #[.int .i64 126, .int .i64 0]) ∧ Ext W w') := fun v W h => by
    have := Pay_any v twoL oneC 12 25 W h
    rw [nm3.1, nm3.2.1] at this; exact this
  have P4 : Hid (∀ v W, TarsV W v twoL → Calls Try.prog 29 #[v, .agg #[.int .i64 0, .int .i64 1050, .int .i64 9, .int .i64 12, .int .i64 20, .int .i64 25], .bool true] W fun e w' => e = .returned (.tuple #[.agg #[.int .i64 9, .int .i64 25], .int .i64 0]) ∧ Ext W w') := fun v W h => nm4 ▸ Show_any v twoL oneC true W h
  have P5 : Hid (∀ v W, TarsV W v twoL → Calls Try.prog 40 #[v, .int .i64 0, .int .i64 12] W fun e w' => e = .returned (.tuple #[.int .i64 16, .int .i64 0]) ∧ Ext W w') := fun v W h => nm5 ▸ Least_any v twoL 0 12 W h
  have P6 : Hid (∀ v W, TarsV W v wrongL → Calls Try.prog 51 #[v, .int .i64 0, .int .i64 0, .int .i64 0] W fun e w' => ∃ vx, e = .returned (.tuple #[vx, .int .i64 0]) ∧ IntsV w' vx (ints [1]) ∧ Ext W w') := fun v W h => Mis_good v wrongL 0 0 0 [1] W h nm16.2.2.2.2.2.2.2.2.2 nm6.1 nm6.2.1
  have P7 : Hid (∀ v vc W, TarsV W v twoL → ClasV Cla.u W vc [oneC, oneC] → Calls Try.prog 48 #[v, vc] W fun e w' => e = .returned (.tuple #[.agg #[.int .i64 210, .int .i64 420], .int .i64 0]) ∧ Ext W w') := fun v vc W h hc => by
    have := Total_any v vc twoL [oneC, oneC] W h hc
    rw [nm7.1, nm7.2.1, nm7.2.2] at this; exact this
  have P8 : Hid (∀ (x : Int) v W, TarsV W v twoL → Calls Try.prog 45 #[v, .agg #[.int .i64 0, .int .i64 1050, .int .i64 9, .int .i64 12, .int .i64 20, .int .i64 25], .agg #[.int .i64 12, .int .i64 25], .int .i64 x] W fun e w' => e = .returned (.bool ((126 : Int) == x)) ∧ Ext W w') := fun x v W h => by
    have := ProvePay_any v twoL oneC 12 25 x W h
    rw [nm3.1, nm3.2.1] at this; exact this
  have P10 : Hid (∀ v W, TarsV W v twoL → Calls Try.prog 20 #[v, .int .i64 1, .int .i64 0, .int .i64 0] W fun e w' => e = .returned (.tuple #[.int .i64 0, .int .i64 2]) ∧ Ext W w') := fun v W h => nm9 ▸ Part_any v twoL 1 0 0 W h
  have P11 : Hid (∀ v W, TarsV W v twoL → Calls Try.prog 20 #[v, .int .i64 0, .int .i64 121, .int .i64 0] W fun e w' => e = .returned (.tuple #[.int .i64 0, .int .i64 2]) ∧ Ext W w') := fun v W h => nm10 ▸ Part_any v twoL 0 121 0 W h
  have P12 : Hid (∀ v W, TarsV W v twoL → Calls Try.prog 43 #[v, .agg #[.int .i64 0, .int .i64 1050, .int .i64 9, .int .i64 12, .int .i64 20, .int .i64 25], .agg #[.int .i64 13, .int .i64 25]] W fun e w' => e = .returned (.tuple #[.int .i64 0, .int .i64 2]) ∧ Ext W w') := fun v W h => by
    have := Pay_any v twoL oneC 13 25 W h
    rw [nm3.2.2.1, nm3.2.2.2] at this; exact this
  have P13 : Hid (∀ v W, TarsV W v twoL → Calls Try.prog 27 #[v, .agg #[.int .i64 0, .int .i64 1050, .int .i64 0, .int .i64 11, .int .i64 20, .int .i64 25]] W fun e w' => e = .returned (.tuple #[.agg #[.int .i64 0, .int .i64 0], .int .i64 2]) ∧ Ext W w') := fun v W h => nm12 ▸ Bounds_any v twoL wideC W h
  have P14 : Hid (∀ v W, TarsV W v wrongL → Calls Try.prog 40 #[v, .int .i64 0, .int .i64 20] W fun e w' => e = .returned (.tuple #[.int .i64 0, .int .i64 7]) ∧ Ext W w') := fun v W h => nm13 ▸ Least_any v wrongL 0 20 W h
  have P15 : Hid (∀ v W, TarsV W v twoL → Calls Try.prog 51 #[v, .int .i64 1, .int .i64 0, .int .i64 1] W fun e w' => e = .returned (.tuple #[.slice none 0 0, .int .i64 2]) ∧ Ext W w') := fun v W h => Mis_no v twoL 1 0 1 W h nm16.2.2.2.2.2.2.2.2.1 nm6.2.2
  have P16 : Hid (∀ v a W, TarsV W v twoL → Calls Try.prog 48 #[v, .slice a 6 6] W fun e w' => e = .returned (.tuple #[.agg #[.int .i64 0, .int .i64 0], .int .i64 3]) ∧ Ext W w') := fun v a W h => Total_many v a 6 6 twoL W h nm16.2.2.2.2.2.2.2.2.1 (by decide) (by decide)
  have HCK : Hid (∀ v l W, TarsV W v l → Calls Try.prog 23 #[v] W fun e w' => e = .returned (.int .i64 (checkS l)) ∧ Ext W w') := Lib.hid (fun v l W h => check_any v l W h)
  have HSA : Hid (∀ v1 v2 W, IntsV W v1 (ints [1]) → IntsV W v2 (ints [1]) → Calls Try.prog 52 #[v1, v2] W fun e w' => e = .returned (.bool true) ∧ Ext W w') := Lib.hid (fun v1 v2 W h1 h2 => Same_any v1 v2 [1] [1] W h1 h2 (by decide) (by decide))
  obtain ⟨i2, hi2, hz20, hz21, hz22⟩ := info_parts info_ints2'
  have HTL : Hid (∀ W v, TarsV W v twoL → TarsV W v twoL) := Lib.hid (fun _ _ h => h)
  have hmk6 : ∀ w, (Instr.makeSlice 83 (.int .i64 6) (.int .i64 6)).run Try.prog w = .ok (.slice (some ⟨w.heap.size, 0, none⟩) 6 6) (w.alloc (.cells #[.int .i64 0, .int .i64 0, .int .i64 0, .int .i64 0, .int .i64 0, .int .i64 0, .int .i64 0, .int .i64 0, .int .i64 0, .int .i64 0, .int .i64 0, .int .i64 0, .int .i64 0, .int .i64 0, .int .i64 0, .int .i64 0, .int .i64 0, .int .i64 0, .int .i64 0, .int .i64 0, .int .i64 0, .int .i64 0, .int .i64 0, .int .i64 0, .int .i64 0, .int .i64 0, .int .i64 0, .int .i64 0, .int .i64 0, .int .i64 0, .int .i64 0, .int .i64 0, .int .i64 0, .int .i64 0, .int .i64 0, .int .i64 0] 44)) := fun _ => by kernel_rfl
  have hmk5 : ∀ w, (Instr.makeSlice 59 (.int .i64 5) (.int .i64 5)).run Try.prog w = .ok (.slice (some ⟨w.heap.size, 0, none⟩) 5 5) (w.alloc (.cells #[.int .i64 0, .int .i64 0, .int .i64 0, .int .i64 0, .int .i64 0] 3)) := fun _ => by kernel_rfl
  obtain ⟨tw, htw⟩ : ∃ x, x = twoL := ⟨_, rfl⟩
  rw [← htw] at HTW P1 P2 P3 P4 P5 P7 P8 P10 P11 P12 P13 P15 P16
  clear htw HTL
  go_enter Try.func17, Try.ntmps17
  go_wp2_with fail
  (with_reducible refine (HTW.out _).mono ?_)
  rintro e a1 ⟨v1, rfl, hv1, hy⟩
  go_wp2_with fail
  (with_reducible refine (P1.out _ _ hv1).mono ?_)
  rintro e w1 ⟨rfl, hu⟩
  have Y1 := hy.trans hu
  clear hy hu hv1
  have X1 : Ext w w1 := Y1
  clear Y1
  go_wp2_with fail
  (with_reducible refine (HTW.out _).mono ?_)
  rintro e a2 ⟨v2, rfl, hv2, hy⟩
  go_wp2_with fail
  (with_reducible refine (P2.out _ _ hv2).mono ?_)
  rintro e w2 ⟨rfl, hu⟩
  have Y2 := hy.trans hu
  clear hy hu hv2
  have X2 : Ext w w2 := X1.trans Y2
  clear Y2
  go_wp2_with fail
  (with_reducible refine (HTW.out _).mono ?_)
  rintro e a3 ⟨v3, rfl, hv3, hy⟩
  go_wp2_with fail
  (with_reducible refine (HON.out _).mono ?_)
  rintro e b3 ⟨rfl, hz⟩
  go_wp2_with fail
  (with_reducible refine (P3.out _ _ (hv3.ext hz)).mono ?_)
  rintro e w3 ⟨rfl, hu⟩
  have Y3 := hy.trans (hz.trans hu)
  clear hy hz hu hv3
  have X3 : Ext w w3 := X2.trans Y3
  clear Y3
  go_wp2_with fail
  (with_reducible refine (HTW.out _).mono ?_)
  rintro e a4 ⟨v4, rfl, hv4, hy⟩
  go_wp2_with fail
  (with_reducible refine (HON.out _).mono ?_)
  rintro e b4 ⟨rfl, hz⟩
  go_wp2_with fail
  (with_reducible refine (P4.out _ _ (hv4.ext hz)).mono ?_)
  rintro e w4 ⟨rfl, hu⟩
  have Y4 := hy.trans (hz.trans hu)
  clear hy hz hu hv4
  have X4 : Ext w w4 := X3.trans Y4
  clear Y4
  go_wp2_with fail
  obtain ⟨A4, hA4⟩ : ∃ x, x = w4.alloc (.cells #[.int .i64 9, .int .i64 25] 47) := ⟨_, rfl⟩
  have y0 : A4.cell? ⟨w4.heap.size, 0, none⟩ = some (.int .i64 9) := by rw [hA4]; simp
  have y1 : A4.cell? ⟨w4.heap.size, 1, none⟩ = some (.int .i64 25) := by rw [hA4]; simp
  have Z4 : Ext w A4 := by rw [hA4]; exact X4.alloc _
  rw [← hA4]
  clear hA4 X4
  generalize w4.heap.size = RX at *
  (with_reducible refine (HTW.out _).mono ?_)
  rintro e a5 ⟨v5, rfl, hv5, hy⟩
  go_wp2_with fail
  (with_reducible refine (P5.out _ _ hv5).mono ?_)
  rintro e w5 ⟨rfl, hu⟩
  have Y5 := hy.trans hu
  replace y0 := Y5.keep y0
  replace y1 := Y5.keep y1
  have X5 : Ext w w5 := Z4.trans Y5
  clear hy hu hv5 Y5 Z4
  go_wp2_with fail
  have hRb : RX < w5.heap.size := lt_of_cell y0
  (with_reducible refine (HTX.out _).mono ?_)
  rintro e w6 ⟨rfl, htx, hx6, hs6, -⟩
  replace y0 := hx6.keep y0
  replace y1 := hx6.keep y1
  have X6 : Ext w w6 := X5.trans hx6
  clear hx6
  have hwb := X5.size
  generalize w5.heap.size = bW at *
  have HTX6 := Lib.hid htx
  have q4 : w6.cell? ⟨bW + 11, 4, none⟩ = some (.slice (some ⟨bW + 1, 0, none⟩) 3 3) := htx.cell 11 4 _ (by decide) (by decide) rfl
  have q5 : w6.cell? ⟨bW + 11, 5, none⟩ = some (.slice (some ⟨bW + 5, 0, none⟩) 1 1) := htx.cell 11 5 _ (by decide) (by decide) rfl
  have f4 := htx.fz 11 4 (by decide)
  have f5 := htx.fz 11 5 (by decide)
  clear htx
  go_upto_region 9 with fail
  obtain ⟨WF, hWF⟩ : ∃ x, x = ((((((w6.setCell ⟨bW + 11, 4, none⟩ (.slice (some ⟨bW + 12, 0, none⟩) 5 5)).setCell ⟨bW + 11, 5, none⟩ (.slice (some ⟨bW + 12 + 1 + 1 + 1 + 1, 0, none⟩) 1 1)).alloc (.cells #[.int .i64 0, .int .i64 20, .int .i64 40, .int .i64 60, .int .i64 100] 3)).alloc (.cells #[.int .i64 0, .int .i64 40, .int .i64 30, .int .i64 35, .int .i64 50] 3)).alloc (.cells #[.int .i64 0, .int .i64 0, .int .i64 0, .int .i64 0, .int .i64 0] 3)).alloc
      (.cells #[.slice (some ⟨bW + 12 + 1, 0, none⟩) 5 5, .slice (some ⟨bW + 12 + 1 + 1, 0, none⟩) 5 5] 59)).alloc (.cells #[.slice (some ⟨bW + 12 + 1 + 1 + 1, 0, none⟩) 2 2] 66) := ⟨_, rfl⟩
  rw [← hWF]
  have hwr : TarsV WF (.slice (some ⟨bW + 11, 0, none⟩) 2 2) wrongL := by rw [hWF]; exact mut_wrong HTX6.out hs6
  have XC : Ext w WF := by rw [hWF]; exact (((((((X6.setCell (by omega) _).setCell (by omega) _).alloc _).alloc _).alloc _).alloc _).alloc _)
  have gF : EG (bW + 11) (bW + 12) w6 WF := by rw [hWF]; exact ((((((((EG.refl w6).setIn (T := bW + 11) (by omega) (by omega) _).setIn (T := bW + 11) (by omega) (by omega) _).alloc _).alloc _).alloc _).alloc _).alloc _)
  replace y0 := gF.keep (.inl (by omega)) y0
  replace y1 := gF.keep (.inl (by omega)) y1
  have HWR := Lib.hid hwr
  clear hWF hwr gF q4 q5 f4 f5 X5 X6 HTX6 hs6
  go_wp2_with fail
  (with_reducible refine (P6.out _ _ HWR.out).mono ?_)
  rintro e w7 ⟨vx, rfl, hvx, hx7⟩
  replace y0 := hx7.keep y0
  replace y1 := hx7.keep y1
  replace XC := XC.trans hx7
  replace HWR := Lib.hid (HWR.out.ext hx7)
  have HVX := Lib.hid hvx
  clear hx7 hvx P6
  go_wp2_with fail
  (with_reducible refine (HTW.out _).mono ?_)
  rintro e w8 ⟨v8, rfl, hv8, h8⟩
  go_wp2_with fail
  (with_reducible refine (HON.out _).mono ?_)
  rintro e w9 ⟨rfl, h9⟩
  go_wp2_with fail
  (with_reducible refine (HON.out _).mono ?_)
  rintro e w10 ⟨rfl, h10⟩
  go_wp2_with fail
  have hc : ClasV Cla.u (w10.alloc (.cells #[.int .i64 0, .int .i64 1050, .int .i64 9, .int .i64 12, .int .i64 20, .int .i64 25, .int .i64 0, .int .i64 1050, .int .i64 9, .int .i64 12, .int .i64 20, .int .i64 25] 44)) (.slice (some ⟨w10.heap.size, 0, none⟩) 2 2) [oneC, oneC] := two_claims (u := oneC.u) (v := oneC.u) (by simp [Cell6, oneC]) (by simp [Cell6, oneC]) rfl rfl
  (with_reducible refine (P7.out _ _ _ (hv8.ext (by (repeat (first | exact Ext.refl _ | (with_reducible assumption) | (with_reducible refine Ext.drew ?_) | (with_reducible refine Ext.alloc ?_ _) | (with_reducible refine Ext.drewN ?_ _) | (with_reducible refine Ext.setCell ?_ (by omega) _) | (with_reducible refine Ext.trans ?_ (by with_reducible assumption)))))) hc).mono ?_)
  rintro e w11 ⟨rfl, h11⟩
  have hy : Ext w7 w11 := by (repeat (first | exact Ext.refl _ | (with_reducible assumption) | (with_reducible refine Ext.drew ?_) | (with_reducible refine Ext.alloc ?_ _) | (with_reducible refine Ext.drewN ?_ _) | (with_reducible refine Ext.setCell ?_ (by omega) _) | (with_reducible refine Ext.trans ?_ (by with_reducible assumption))))
  replace y0 := hy.keep y0
  replace y1 := hy.keep y1
  replace XC := XC.trans hy
  replace HWR := Lib.hid (HWR.out.ext hy)
  replace HVX := Lib.hid (HVX.out.ext hy)
  clear hv8 h8 h9 h10 h11 hy hc P7
  go_upto_region 11 with fail
  obtain ⟨A11, hA11⟩ : ∃ x, x = w11.alloc (.cells #[.int .i64 210, .int .i64 420] 40) := ⟨_, rfl⟩
  rw [← hA11]
  have z0 : A11.cell? ⟨w11.heap.size, 0, none⟩ = some (.int .i64 210) := by rw [hA11]; simp
  have z1 : A11.cell? ⟨w11.heap.size, 1, none⟩ = some (.int .i64 420) := by rw [hA11]; simp
  have hy : Ext w11 A11 := by rw [hA11]; exact (Ext.refl _).alloc _
  replace y0 := hy.keep y0
  replace y1 := hy.keep y1
  replace XC := XC.trans hy
  replace HWR := Lib.hid (HWR.out.ext hy)
  replace HVX := Lib.hid (HVX.out.ext hy)
  clear hA11 hy
  generalize w11.heap.size = RT at *
  have HS : Hid (∀ w', Ext A11 w' → (w'.cell? ⟨RX, 0, none⟩ = some (.int .i64 9) ∧ w'.cell? ⟨RX, 1, none⟩ = some (.int .i64 25) ∧ w'.cell? ⟨RT, 0, none⟩ = some (.int .i64 210) ∧ w'.cell? ⟨RT, 1, none⟩ = some (.int .i64 420)) ∧ Ext A11 w') := fun w' hx => ⟨⟨hx.keep y0, hx.keep y1, hx.keep z0, hx.keep z1⟩, hx⟩
  clear y0 y1 z0 z1
  go_cut [147] from 77 to 147 (fun s147 wx => s147 = .bool false ∧ Ext A11 wx)
  case first =>
    simp only [List.append]
    go_region_held3 (fun w' => (w'.cell? ⟨RX, 0, none⟩ = some (.int .i64 9) ∧ w'.cell? ⟨RX, 1, none⟩ = some (.int .i64 25) ∧ w'.cell? ⟨RT, 0, none⟩ = some (.int .i64 210) ∧ w'.cell? ⟨RT, 1, none⟩ = some (.int .i64 420)) ∧ Ext A11 w')
      ((refine HS.out _ ?_; (repeat (first | exact Ext.refl _ | (with_reducible assumption) | (with_reducible refine Ext.drew ?_) | (with_reducible refine Ext.alloc ?_ _) | (with_reducible refine Ext.drewN ?_ _) | (with_reducible refine Ext.setCell ?_ (by omega) _) | (with_reducible refine Ext.trans ?_ (by with_reducible assumption))))))
      (first
        | (go_at_call 52; (refine (HSA.out _ _ _ (HVX.out.ext (by (repeat (first | exact Ext.refl _ | (with_reducible assumption) | (with_reducible refine Ext.drew ?_) | (with_reducible refine Ext.alloc ?_ _) | (with_reducible refine Ext.drewN ?_ _) | (with_reducible refine Ext.setCell ?_ (by omega) _) | (with_reducible refine Ext.trans ?_ (by with_reducible assumption)))))) (by first | exact one_ints _ _ | exact (one_ints _ _).ext (by (repeat (first | exact Ext.refl _ | (with_reducible assumption) | (with_reducible refine Ext.drew ?_) | (with_reducible refine Ext.alloc ?_ _) | (with_reducible refine Ext.drewN ?_ _) | (with_reducible refine Ext.setCell ?_ (by omega) _) | (with_reducible refine Ext.trans ?_ (by with_reducible assumption))))))).mono ?_); rintro e w12 ⟨rfl, h12⟩)
        | (go_at_call 44; (refine (HBT.out _ _ _).mono ?_); rintro e w13 ⟨rfl, h13⟩)
        | (go_at_call 56; (refine (HTW.out _).mono ?_); rintro e w14 ⟨v14, rfl, hv14, h14⟩)
        | (go_at_call 57; (refine (HON.out _).mono ?_); rintro e w15 ⟨rfl, h15⟩)
        | (go_at_call 45; (refine (P8.out _ _ _ (hv14.ext (by (repeat (first | exact Ext.refl _ | (with_reducible assumption) | (with_reducible refine Ext.drew ?_) | (with_reducible refine Ext.alloc ?_ _) | (with_reducible refine Ext.drewN ?_ _) | (with_reducible refine Ext.setCell ?_ (by omega) _) | (with_reducible refine Ext.trans ?_ (by with_reducible assumption))))))).mono ?_); rintro e w16 ⟨rfl, h16⟩))
    go_wp2_with fail
    go_meet
    exact ⟨rfl, by (repeat (first | exact Ext.refl _ | (with_reducible assumption) | (with_reducible refine Ext.drew ?_) | (with_reducible refine Ext.alloc ?_ _) | (with_reducible refine Ext.drewN ?_ _) | (with_reducible refine Ext.setCell ?_ (by omega) _) | (with_reducible refine Ext.trans ?_ (by with_reducible assumption))))⟩
  case rest =>
    obtain ⟨rfl, hy⟩ := hcut
    obtain ⟨w19, rfl⟩ : ∃ x, x = wc := ⟨_, rfl⟩
    replace XC := XC.trans hy
    replace HWR := Lib.hid (HWR.out.ext hy)
    clear hy P8 HS HVX HSA
    go_wp2_with fail
    (with_reducible refine (HON.out _).mono ?_)
    rintro e w20 ⟨rfl, h20⟩
    go_wp2_with fail
    (with_reducible refine (HBT.out _ _ _).mono ?_)
    rintro e w21 ⟨rfl, h21⟩
    have c0 := h21.keep (k := w20.heap.size) (o := 0) (v := .int .i64 0) (by simp)
    have c1 := h21.keep (k := w20.heap.size) (o := 1) (v := .int .i64 1050) (by simp)
    have c2 := h21.keep (k := w20.heap.size) (o := 2) (v := .int .i64 9) (by simp)
    have c3 := h21.keep (k := w20.heap.size) (o := 3) (v := .int .i64 12) (by simp)
    have c4 := h21.keep (k := w20.heap.size) (o := 4) (v := .int .i64 20) (by simp)
    have c5 := h21.keep (k := w20.heap.size) (o := 5) (v := .int .i64 25) (by simp)
    have fz2 : w21.frozen? ⟨w20.heap.size, 2, none⟩ = false := (h21.frozen (by simp)).trans (by simp)
    have fz3 : w21.frozen? ⟨w20.heap.size, 3, none⟩ = false := (h21.frozen (by simp)).trans (by simp)
    go_upto_region 15 with fail
    obtain ⟨A, hA⟩ : ∃ x, x = (w21.setCell ⟨w20.heap.size, 2, none⟩ (.int .i64 0)).setCell ⟨w20.heap.size, 3, none⟩ (.int .i64 11) := ⟨_, rfl⟩
    rw [← hA]
    have hy : Ext w19 A := by
      rw [hA]
      have hx : Ext w19 w21 := by (repeat (first | exact Ext.refl _ | (with_reducible assumption) | (with_reducible refine Ext.drew ?_) | (with_reducible refine Ext.alloc ?_ _) | (with_reducible refine Ext.drewN ?_ _) | (with_reducible refine Ext.setCell ?_ (by omega) _) | (with_reducible refine Ext.trans ?_ (by with_reducible assumption))))
      have := h20.size
      exact (hx.setCell (by omega) _).setCell (by omega) _
    replace c0 : A.cell? ⟨w20.heap.size, 0, none⟩ = some (.int .i64 0) := by rw [hA]; exact set_off (by decide) (set_off (by decide) c0)
    replace c1 : A.cell? ⟨w20.heap.size, 1, none⟩ = some (.int .i64 1050) := by rw [hA]; exact set_off (by decide) (set_off (by decide) c1)
    replace c2 : A.cell? ⟨w20.heap.size, 2, none⟩ = some (.int .i64 0) := by rw [hA]; exact set_off (by decide) (set_same c2)
    replace c3 : A.cell? ⟨w20.heap.size, 3, none⟩ = some (.int .i64 11) := by rw [hA]; exact set_same (set_off (by decide) c3)
    replace c4 : A.cell? ⟨w20.heap.size, 4, none⟩ = some (.int .i64 20) := by rw [hA]; exact set_off (by decide) (set_off (by decide) c4)
    replace c5 : A.cell? ⟨w20.heap.size, 5, none⟩ = some (.int .i64 25) := by rw [hA]; exact set_off (by decide) (set_off (by decide) c5)
    replace XC := XC.trans hy
    replace HWR := Lib.hid (HWR.out.ext hy)
    clear fz2 fz3 hA h20 h21 hy
    generalize w20.heap.size = WD at *
    go_wp2_with fail
    (with_reducible refine (HTW.out _).mono ?_)
    rintro e w23 ⟨v23, rfl, hv23, h23⟩
    go_wp2_with fail
    (with_reducible refine (P10.out _ _ hv23).mono ?_)
    rintro e w24 ⟨rfl, h24⟩
    go_wp2_with fail
    (with_reducible refine (HTW.out _).mono ?_)
    rintro e w25 ⟨v25, rfl, hv25, h25⟩
    go_wp2_with fail
    (with_reducible refine (P11.out _ _ hv25).mono ?_)
    rintro e w26 ⟨rfl, h26⟩
    go_wp2_with fail
    (with_reducible refine (HTW.out _).mono ?_)
    rintro e w27 ⟨v27, rfl, hv27, h27⟩
    go_wp2_with fail
    (with_reducible refine (HON.out _).mono ?_)
    rintro e w28 ⟨rfl, h28⟩
    go_wp2_with fail
    (with_reducible refine (P12.out _ _ (hv27.ext h28)).mono ?_)
    rintro e w29 ⟨rfl, h29⟩
    have hy : Ext A w29 := by (repeat (first | exact Ext.refl _ | (with_reducible assumption) | (with_reducible refine Ext.drew ?_) | (with_reducible refine Ext.alloc ?_ _) | (with_reducible refine Ext.drewN ?_ _) | (with_reducible refine Ext.setCell ?_ (by omega) _) | (with_reducible refine Ext.trans ?_ (by with_reducible assumption))))
    replace XC := XC.trans hy
    replace HWR := Lib.hid (HWR.out.ext hy)
    replace c0 := hy.keep c0
    replace c1 := hy.keep c1
    replace c2 := hy.keep c2
    replace c3 := hy.keep c3
    replace c4 := hy.keep c4
    replace c5 := hy.keep c5
    clear hv23 hv25 hv27 h23 h24 h25 h26 h27 h28 h29 hy P10 P11 P12 P1 P2 P3 P4 P5
    have HS : Hid (∀ w', Ext w29 w' → (w'.cell? ⟨WD, 0, none⟩ = some (.int .i64 0) ∧ w'.cell? ⟨WD, 1, none⟩ = some (.int .i64 1050) ∧ w'.cell? ⟨WD, 2, none⟩ = some (.int .i64 0) ∧ w'.cell? ⟨WD, 3, none⟩ = some (.int .i64 11) ∧ w'.cell? ⟨WD, 4, none⟩ = some (.int .i64 20) ∧ w'.cell? ⟨WD, 5, none⟩ = some (.int .i64 25)) ∧ Ext w29 w') := fun w' hx => ⟨⟨hx.keep c0, hx.keep c1, hx.keep c2, hx.keep c3, hx.keep c4, hx.keep c5⟩, hx⟩
    clear c0 c1 c2 c3 c4 c5
    go_upto_region 18 with fail
    go_region_held3 (fun w' => (w'.cell? ⟨WD, 0, none⟩ = some (.int .i64 0) ∧ w'.cell? ⟨WD, 1, none⟩ = some (.int .i64 1050) ∧ w'.cell? ⟨WD, 2, none⟩ = some (.int .i64 0) ∧ w'.cell? ⟨WD, 3, none⟩ = some (.int .i64 11) ∧ w'.cell? ⟨WD, 4, none⟩ = some (.int .i64 20) ∧ w'.cell? ⟨WD, 5, none⟩ = some (.int .i64 25)) ∧ Ext w29 w')
      ((refine HS.out _ ?_; (repeat (first | exact Ext.refl _ | (with_reducible assumption) | (with_reducible refine Ext.drew ?_) | (with_reducible refine Ext.alloc ?_ _) | (with_reducible refine Ext.drewN ?_ _) | (with_reducible refine Ext.setCell ?_ (by omega) _) | (with_reducible refine Ext.trans ?_ (by with_reducible assumption))))))
      (first
        | (go_at_call 56; (refine (HTW.out _).mono ?_); rintro e w30 ⟨v30, rfl, hv30, h30⟩)
        | (go_at_call 27; (refine (P13.out _ _ (hv30.ext (by (repeat (first | exact Ext.refl _ | (with_reducible assumption) | (with_reducible refine Ext.drew ?_) | (with_reducible refine Ext.alloc ?_ _) | (with_reducible refine Ext.drewN ?_ _) | (with_reducible refine Ext.setCell ?_ (by omega) _) | (with_reducible refine Ext.trans ?_ (by with_reducible assumption))))))).mono ?_); rintro e w31 ⟨rfl, h31⟩))
    have hy : Ext w29 w31 := by (repeat (first | exact Ext.refl _ | (with_reducible assumption) | (with_reducible refine Ext.drew ?_) | (with_reducible refine Ext.alloc ?_ _) | (with_reducible refine Ext.drewN ?_ _) | (with_reducible refine Ext.setCell ?_ (by omega) _) | (with_reducible refine Ext.trans ?_ (by with_reducible assumption))))
    replace XC := XC.trans hy
    replace HWR := Lib.hid (HWR.out.ext hy)
    clear hv30 h30 h31 hy HS P13
    obtain ⟨wa, rfl⟩ : ∃ x, x = w31 := ⟨_, rfl⟩
    go_wp2_with fail
    (with_reducible refine (P14.out _ _ HWR.out).mono ?_)
    rintro e w32 ⟨rfl, h32⟩
    go_wp2_with fail
    (with_reducible refine (HTW.out _).mono ?_)
    rintro e w33 ⟨v33, rfl, hv33, h33⟩
    go_wp2_with fail
    (with_reducible refine (P15.out _ _ hv33).mono ?_)
    rintro e w34 ⟨rfl, h34⟩
    have hy : Ext wa w34 := by (repeat (first | exact Ext.refl _ | (with_reducible assumption) | (with_reducible refine Ext.drew ?_) | (with_reducible refine Ext.alloc ?_ _) | (with_reducible refine Ext.drewN ?_ _) | (with_reducible refine Ext.setCell ?_ (by omega) _) | (with_reducible refine Ext.trans ?_ (by with_reducible assumption))))
    replace XC := XC.trans hy
    clear hv33 h32 h33 h34 hy P14 P15 HWR
    go_upto_region 21 with fail
    go_cut [15] from 184 to 189 (fun s15 wx => s15 = .int .i64 3 ∧ Ext w34 wx)
    case first =>
      have HSE : Hid (∀ w', Ext w34 w' → Ext w34 w') := Lib.hid (fun _ h => h)
      go_region_held3 (fun w' => Ext w34 w')
        ((refine HSE.out _ ?_; (repeat (first | exact Ext.refl _ | (with_reducible assumption) | (with_reducible refine Ext.drew ?_) | (with_reducible refine Ext.alloc ?_ _) | (with_reducible refine Ext.drewN ?_ _) | (with_reducible refine Ext.setCell ?_ (by omega) _) | (with_reducible refine Ext.trans ?_ (by with_reducible assumption))))))
        (first
          | (go_at_call 56; (refine (HTW.out _).mono ?_); rintro e w35 ⟨v35, rfl, hv35, h35⟩)
          | (go_at_call 48; (refine (P16.out _ _ _ (hv35.ext (by (repeat (first | exact Ext.refl _ | (with_reducible assumption) | (with_reducible refine Ext.drew ?_) | (with_reducible refine Ext.alloc ?_ _) | (with_reducible refine Ext.drewN ?_ _) | (with_reducible refine Ext.setCell ?_ (by omega) _) | (with_reducible refine Ext.trans ?_ (by with_reducible assumption))))))).mono ?_); rintro e w36 ⟨rfl, h36⟩))
      all_goals
        go_wp2_with fail
        go_meet
        exact ⟨rfl, by (repeat (first | exact Ext.refl _ | (with_reducible assumption) | (with_reducible refine Ext.drew ?_) | (with_reducible refine Ext.alloc ?_ _) | (with_reducible refine Ext.drewN ?_ _) | (with_reducible refine Ext.setCell ?_ (by omega) _) | (with_reducible refine Ext.trans ?_ (by with_reducible assumption))))⟩
    case rest =>
      obtain ⟨rfl, hcx⟩ := hcut
      obtain ⟨w37, rfl⟩ : ∃ x, x = wc := ⟨_, rfl⟩
      replace XC := XC.trans hcx
      clear hcx P16 HTW
      go_wp2_with fail
      have XS := Lib.hid XC.size
      (with_reducible refine (HTX.out _).mono ?_)
      rintro e d1 ⟨rfl, t1, e1, s1, o1⟩
      have T1 := Lib.hid t1
      have O1 := Lib.hid o1
      have E1 := Lib.hid e1
      have S1 := Lib.hid s1
      clear t1 e1 s1 o1
      generalize w37.heap.size = b1 at *
      go_wp2_with fail
      (with_reducible refine (HTX.out _).mono ?_)
      rintro e d2 ⟨rfl, t2, e2, s2, o2⟩
      have T2 := Lib.hid t2
      have O2 := Lib.hid o2
      have E2 := Lib.hid e2
      have S2 := Lib.hid s2
      clear t2 e2 s2 o2
      generalize d1.heap.size = b2 at *
      go_wp2_with fail
      (with_reducible refine (HTX.out _).mono ?_)
      rintro e d3 ⟨rfl, t3, e3, s3, o3⟩
      have T3 := Lib.hid t3
      have O3 := Lib.hid o3
      have E3 := Lib.hid e3
      have S3 := Lib.hid s3
      clear t3 e3 s3 o3
      generalize d2.heap.size = b3 at *
      go_wp2_with fail
      (with_reducible refine (HTX.out _).mono ?_)
      rintro e d4 ⟨rfl, t4, e4, s4, o4⟩
      have T4 := Lib.hid t4
      have O4 := Lib.hid o4
      have E4 := Lib.hid e4
      have S4 := Lib.hid s4
      clear t4 e4 s4 o4
      generalize d3.heap.size = b4 at *
      go_wp2_with fail
      (with_reducible refine (HTX.out _).mono ?_)
      rintro e d5 ⟨rfl, t5, e5, s5, o5⟩
      have T5 := Lib.hid t5
      have O5 := Lib.hid o5
      have E5 := Lib.hid e5
      have S5 := Lib.hid s5
      clear t5 e5 s5 o5
      generalize d4.heap.size = b5 at *
      go_wp2_with fail
      (with_reducible refine (HTX.out _).mono ?_)
      rintro e d6 ⟨rfl, t6, e6, s6, o6⟩
      have T6 := Lib.hid t6
      have O6 := Lib.hid o6
      have E6 := Lib.hid e6
      have S6 := Lib.hid s6
      clear t6 e6 s6 o6
      generalize d5.heap.size = b6 at *
      go_wp2_with fail
      (with_reducible refine (HTX.out _).mono ?_)
      rintro e d7 ⟨rfl, t7, e7, s7, o7⟩
      have T7 := Lib.hid t7
      have O7 := Lib.hid o7
      have E7 := Lib.hid e7
      have S7 := Lib.hid s7
      clear t7 e7 s7 o7
      generalize d6.heap.size = b7 at *
      have K1 : b2 = b1 + 12 := S1.out
      have K2 : b3 = b2 + 12 := S2.out
      have K3 : b4 = b3 + 12 := S3.out
      have K4 : b5 = b4 + 12 := S4.out
      have K5 : b6 = b5 + 12 := S5.out
      have K6 : b7 = b6 + 12 := S6.out
      have K0 := XS.out
      obtain ⟨NN, hNN⟩ : ∃ x, x = d7.heap.size := ⟨_, rfl⟩
      have K7 : NN = b7 + 12 := by rw [hNN]; exact S7.out
      have x17 : Ext d1 d7 := E2.out.trans (E3.out.trans (E4.out.trans (E5.out.trans (E6.out.trans E7.out))))
      have x27 : Ext d2 d7 := E3.out.trans (E4.out.trans (E5.out.trans (E6.out.trans E7.out)))
      have x37 : Ext d3 d7 := E4.out.trans (E5.out.trans (E6.out.trans E7.out))
      have x47 : Ext d4 d7 := E5.out.trans (E6.out.trans E7.out)
      have x57 : Ext d5 d7 := E6.out.trans E7.out
      have x67 : Ext d6 d7 := E7.out
      replace T1 := Lib.hid (T1.out.ext x17)
      replace T2 := Lib.hid (T2.out.ext x27)
      replace T3 := Lib.hid (T3.out.ext x37)
      replace T4 := Lib.hid (T4.out.ext x47)
      replace T5 := Lib.hid (T5.out.ext x57)
      replace T6 := Lib.hid (T6.out.ext x67)
      have O6' := Lib.hid ((x67.heap (by have := (Array.getElem?_eq_some_iff.1 O6.out).1; exact this)).trans O6.out)
      replace XC : Ext w d7 := XC.trans (E1.out.trans x17)
      have HK := Lib.hid (And.intro K0 (And.intro K1 (And.intro K2 (And.intro K3 (And.intro K4 (And.intro K5 (And.intro K6 K7)))))))
      clear x17 x27 x37 x47 x57 x67 E1 E2 E3 E4 E5 E6 E7 S1 S2 S3 S4 S5 S6 S7 O1 O2 O3 O4 O5 O6 O7 XS K0 K1 K2 K3 K4 K5 K6 K7 HTX HON HBT
      have XN := Lib.hid XC
      have q := T1.out.cell 11 6 _ (by decide) (by decide) rfl
      have f := T1.out.fz 11 6 (by decide)
      unfold it at q
      clear XC
      have SZ : NN ≤ d7.heap.size := Nat.le_of_eq hNN
      clear hNN
      go_upto_region 24 with fail
      obtain ⟨m1, hm⟩ : ∃ x, x = d7.setCell ⟨b1 + 11, 6, none⟩ (.int .i64 0) := ⟨_, rfl⟩
      rw [← hm]
      obtain ⟨K0, K1, K2, K3, K4, K5, K6, K7⟩ := HK.out
      have L1 := Lib.hid (show TarsV (mask (wq b1 NN) m1) (sl (b1 + 11) 2) fromL by rw [hm]; exact mut_from T1.out)
      have g : EG b1 (b1 + 12) d7 m1 := by rw [hm]; exact eg_store (i0 := 11) (by decide)
      have SZo := SZ
      replace SZ : NN ≤ m1.heap.size := Nat.le_trans SZ g.size
      replace XN := Lib.hid (show Ext w m1 by rw [hm]; exact XN.out.setCell (by omega) _)
      replace T2 := Lib.hid (T2.out.eg g (by omega))
      replace T3 := Lib.hid (T3.out.eg g (by omega))
      replace T4 := Lib.hid (T4.out.eg g (by omega))
      replace T5 := Lib.hid (T5.out.eg g (by omega))
      replace T6 := Lib.hid (T6.out.eg g (by omega))
      replace T7 := Lib.hid (T7.out.eg g (by omega))
      replace O6' := Lib.hid ((g.block (b6 + 10) (by omega) (by omega)).trans O6'.out)
      clear SZo hm g q f K0 K1 K2 K3 K4 K5 K6 K7
      have q : m1.cell? ⟨b2 + 11, 2, none⟩ = some (.int .i64 8) := T2.out.cell 11 2 _ (by decide) (by decide) rfl
      have f := T2.out.fz 11 2 (by decide)
      go_upto_region 25 with fail
      obtain ⟨m2, hm⟩ : ∃ x, x = m1.setCell ⟨b2 + 11, 2, none⟩ (.int .i64 101) := ⟨_, rfl⟩
      rw [← hm]
      obtain ⟨K0, K1, K2, K3, K4, K5, K6, K7⟩ := HK.out
      have L2 := Lib.hid (show TarsV (mask (wq b2 NN) m2) (sl (b2 + 11) 2) leastXL by rw [hm]; exact mut_least T2.out)
      have g : EG b2 (b2 + 12) m1 m2 := by rw [hm]; exact eg_store (i0 := 11) (by decide)
      have SZo := SZ
      replace SZ : NN ≤ m2.heap.size := Nat.le_trans SZ g.size
      replace XN := Lib.hid (show Ext w m2 by rw [hm]; exact XN.out.setCell (by omega) _)
      replace L1 := Lib.hid (L1.out.kc (wq_eg g (by omega) (by omega)))
      replace T3 := Lib.hid (T3.out.eg g (by omega))
      replace T4 := Lib.hid (T4.out.eg g (by omega))
      replace T5 := Lib.hid (T5.out.eg g (by omega))
      replace T6 := Lib.hid (T6.out.eg g (by omega))
      replace T7 := Lib.hid (T7.out.eg g (by omega))
      replace O6' := Lib.hid ((g.block (b6 + 10) (by omega) (by omega)).trans O6'.out)
      clear SZo hm g q f K0 K1 K2 K3 K4 K5 K6 K7
      have q : m2.cell? ⟨b3 + 11, 3, none⟩ = some (.slice (some ⟨b3, 0, none⟩) 2 2) := T3.out.cell 11 3 _ (by decide) (by decide) rfl
      have f := T3.out.fz 11 3 (by decide)
      have hl : b3 + 11 < m2.heap.size := by obtain ⟨K0, K1, K2, K3, K4, K5, K6, K7⟩ := HK.out; omega
      have hl' : ¬ b3 + 11 = m2.heap.size := by omega
      go_upto_region 26 with fail
      clear hl hl'
      obtain ⟨m3, hm⟩ : ∃ x, x = (m2.setCell ⟨b3 + 11, 3, none⟩ (.slice (some ⟨m2.heap.size, 0, none⟩) 2 2)).alloc (.cells #[.int .i64 1, .int .i64 10] 3) := ⟨_, rfl⟩
      rw [← hm]
      obtain ⟨K0, K1, K2, K3, K4, K5, K6, K7⟩ := HK.out
      have hw := mut_weeks (N := NN) (t := 3) (cs := #[.int .i64 1, .int .i64 10]) (xs := [1, 10]) (v := .slice (some ⟨m2.heap.size, 0, none⟩) 2 2) T3.out SZ (by omega) rfl (by decide) (by decide) rfl
      have L3 := Lib.hid (show TarsV (mask (wq b3 NN) m3) (sl (b3 + 11) 2) weeksL by rw [hm]; exact hw.1)
      have g : EG b3 (b3 + 12) m2 m3 := by rw [hm]; exact hw.2
      have SZo := SZ
      replace SZ : NN ≤ m3.heap.size := Nat.le_trans SZ g.size
      replace XN := Lib.hid (show Ext w m3 by rw [hm]; exact (XN.out.setCell (by omega) _).alloc _)
      replace L1 := Lib.hid (L1.out.kc (wq_eg g (by omega) (by omega)))
      replace L2 := Lib.hid (L2.out.kc (wq_eg g (by omega) (by omega)))
      replace T4 := Lib.hid (T4.out.eg g (by omega))
      replace T5 := Lib.hid (T5.out.eg g (by omega))
      replace T6 := Lib.hid (T6.out.eg g (by omega))
      replace T7 := Lib.hid (T7.out.eg g (by omega))
      replace O6' := Lib.hid ((g.block (b6 + 10) (by omega) (by omega)).trans O6'.out)
      clear SZo hm hw g q f K0 K1 K2 K3 K4 K5 K6 K7
      have q : m3.cell? ⟨b4 + 11, 4, none⟩ = some (.slice (some ⟨b4 + 1, 0, none⟩) 3 3) := T4.out.cell 11 4 _ (by decide) (by decide) rfl
      have f := T4.out.fz 11 4 (by decide)
      have hl : b4 + 11 < m3.heap.size := by obtain ⟨K0, K1, K2, K3, K4, K5, K6, K7⟩ := HK.out; omega
      have hl' : ¬ b4 + 11 = m3.heap.size := by omega
      go_upto_region 27 with fail
      clear hl hl'
      obtain ⟨m4, hm⟩ : ∃ x, x = (m3.setCell ⟨b4 + 11, 4, none⟩ (.slice (some ⟨m3.heap.size, 0, none⟩) 3 3)).alloc (.cells #[.int .i64 0, .int .i64 50, .int .i64 99] 3) := ⟨_, rfl⟩
      rw [← hm]
      obtain ⟨K0, K1, K2, K3, K4, K5, K6, K7⟩ := HK.out
      have hw := mut_counts (N := NN) (t := 3) (cs := #[.int .i64 0, .int .i64 50, .int .i64 99]) (xs := [0, 50, 99]) (v := .slice (some ⟨m3.heap.size, 0, none⟩) 3 3) T4.out SZ (by omega) rfl (by decide) (by decide) rfl
      have L4 := Lib.hid (show TarsV (mask (wq b4 NN) m4) (sl (b4 + 11) 2) countsL by rw [hm]; exact hw.1)
      have g : EG b4 (b4 + 12) m3 m4 := by rw [hm]; exact hw.2
      have SZo := SZ
      replace SZ : NN ≤ m4.heap.size := Nat.le_trans SZ g.size
      replace XN := Lib.hid (show Ext w m4 by rw [hm]; exact (XN.out.setCell (by omega) _).alloc _)
      replace L1 := Lib.hid (L1.out.kc (wq_eg g (by omega) (by omega)))
      replace L2 := Lib.hid (L2.out.kc (wq_eg g (by omega) (by omega)))
      replace L3 := Lib.hid (L3.out.kc (wq_eg g (by omega) (by omega)))
      replace T5 := Lib.hid (T5.out.eg g (by omega))
      replace T6 := Lib.hid (T6.out.eg g (by omega))
      replace T7 := Lib.hid (T7.out.eg g (by omega))
      replace O6' := Lib.hid ((g.block (b6 + 10) (by omega) (by omega)).trans O6'.out)
      clear SZo hm hw g q f K0 K1 K2 K3 K4 K5 K6 K7
      have q : m4.cell? ⟨b5 + 11, 5, none⟩ = some (.slice (some ⟨b5 + 5, 0, none⟩) 1 1) := T5.out.cell 11 5 _ (by decide) (by decide) rfl
      have q2 : m4.cell? ⟨b5 + 5, 0, none⟩ = some (.slice (some ⟨b5 + 4, 0, none⟩) 2 2) := T5.out.cell 5 0 _ (by decide) (by decide) rfl
      have q3 : m4.cell? ⟨b5 + 4, 1, none⟩ = some (.slice (some ⟨b5 + 3, 0, none⟩) 3 3) := T5.out.cell 4 1 _ (by decide) (by decide) rfl
      have q4 : m4.cell? ⟨b5 + 3, 2, none⟩ = some (.int .i64 100) := T5.out.cell 3 2 _ (by decide) (by decide) rfl
      have f := T5.out.fz 3 2 (by decide)
      go_upto_region 28 with fail
      obtain ⟨m5, hm⟩ : ∃ x, x = m4.setCell ⟨b5 + 3, 2, none⟩ (.int .i64 101) := ⟨_, rfl⟩
      rw [← hm]
      obtain ⟨K0, K1, K2, K3, K4, K5, K6, K7⟩ := HK.out
      have L5 := Lib.hid (show TarsV (mask (wq b5 NN) m5) (sl (b5 + 11) 2) ratesL by rw [hm]; exact mut_rates T5.out)
      have g : EG b5 (b5 + 12) m4 m5 := by rw [hm]; exact eg_store (i0 := 3) (by decide)
      have SZo := SZ
      replace SZ : NN ≤ m5.heap.size := Nat.le_trans SZ g.size
      replace XN := Lib.hid (show Ext w m5 by rw [hm]; exact XN.out.setCell (by omega) _)
      replace L1 := Lib.hid (L1.out.kc (wq_eg g (by omega) (by omega)))
      replace L2 := Lib.hid (L2.out.kc (wq_eg g (by omega) (by omega)))
      replace L3 := Lib.hid (L3.out.kc (wq_eg g (by omega) (by omega)))
      replace L4 := Lib.hid (L4.out.kc (wq_eg g (by omega) (by omega)))
      replace T6 := Lib.hid (T6.out.eg g (by omega))
      replace T7 := Lib.hid (T7.out.eg g (by omega))
      replace O6' := Lib.hid ((g.block (b6 + 10) (by omega) (by omega)).trans O6'.out)
      clear SZo hm g q q2 q3 q4 f K0 K1 K2 K3 K4 K5 K6 K7
      have q : m5.cell? ⟨b6 + 11, 11, none⟩ = some (.slice (some ⟨b6 + 10, 0, none⟩) 1 1) := T6.out.cell 11 11 _ (by decide) (by decide) rfl
      have f := T6.out.fz 11 11 (by decide)
      have OWN : Hid (m5.ownsRow (b6 + 10) 66 1 (.slice (some ⟨b6 + 10, 0, none⟩) 1 1) 1 [.slice (some ⟨b6 + 9, 0, none⟩) 1 1]) := Lib.hid ⟨rfl, .inr ⟨_, _, _, rfl, Nat.le_refl _, O6'.out, Nat.le_refl _, by simp only [maxLen]; omega, rfl, rfl⟩⟩
      go_wp2_with (at_builtin; refine wpList_append_own_at _ rfl _ _ 60 rfl (b6 + 10) 66 i2 (.slice none 0 0) 1 24 Try.underlying60 hi2 hz20 hz21 hz22 rfl (by decide) (.slice (some ⟨b6 + 10, 0, none⟩) 1 1) 1 [.slice (some ⟨b6 + 9, 0, none⟩) 1 1] rfl ?own ⟨m5.heap.size + 1 + 1, 0, none⟩ 1 1 [.slice (some ⟨m5.heap.size + 1, 0, none⟩) 1 1] rfl rfl (one_in (Ext.refl _) (by simp)) ?one ?fit1 ?fit2 ?fit3 ?next)
      case own => exact own_keep OWN.out (fun g hg => ((((Ext.refl m5).alloc _).alloc _).alloc _).heap (own_lt OWN.out hg).2)
      case one =>
        intro u hu
        simp only [List.mem_cons, List.not_mem_nil, or_false] at hu
        rw [hu]; rfl
      case fit1 => simp only [maxLen]; omega
      case fit2 => omega
      case fit3 => obtain ⟨K0, K1, K2, K3, K4, K5, K6, K7⟩ := HK.out; simp; omega
      case next =>
      intro v' w3 hown hgrow hnil hat
      obtain ⟨K0, K1, K2, K3, K4, K5, K6, K7⟩ := HK.out
      have mc := mut_crops (b := b6) (N := NN) (W := m5) (M := m5.heap.size + 1) (M' := m5.heap.size) T6.out SZ (by omega) (by (repeat (first | exact Ext.refl _ | (with_reducible assumption) | (with_reducible refine Ext.drew ?_) | (with_reducible refine Ext.alloc ?_ _) | (with_reducible refine Ext.drewN ?_ _) | (with_reducible refine Ext.setCell ?_ (by omega) _) | (with_reducible refine Ext.trans ?_ (by with_reducible assumption))))) hgrow hown (hat.imp_right (fun h => h.trans (by simp))) (by omega) (Nat.le_refl _)
        (((Ext.refl _).alloc _).keep (alloc_at (by simp) rfl)) ((((Ext.refl _).alloc _).alloc _).keep (alloc_at rfl rfl)) ((((Ext.refl _).alloc _).alloc _).keep (alloc_at rfl rfl))
      have hlt6 : b6 + 11 < m5.heap.size := by omega
      have q3 : w3.cell? ⟨b6 + 11, 11, none⟩ = some (.slice (some ⟨b6 + 10, 0, none⟩) 1 1) := hgrow.cell (((((Ext.refl m5).alloc _).alloc _).alloc _).keep q) (fun e => by have h9 : b6 + 11 = b6 + 10 := Option.some.inj e; omega)
      have f3 : w3.frozen? ⟨b6 + 11, 11, none⟩ = false := (World.frozen?_of_block (hgrow.block (b6 + 11) (by simp; omega) (fun e => by have h9 : b6 + 11 = b6 + 10 := Option.some.inj e; omega))).trans ((((((Ext.refl m5).alloc _).alloc _).alloc _).frozen hlt6).trans f)
      rcases own_open hown with ⟨-, h0⟩ | ⟨g', cap, rfl, -, -, -, -⟩
      · omega
      · clear q f OWN hown hgrow hnil hat K0 K1 K2 K3 K4 K5 K6 K7 hlt6
        have MC := Lib.hid mc
        clear mc
        go_upto_region 29 with fail
        obtain ⟨m6, hm⟩ : ∃ x, x = w3.setCell ⟨b6 + 11, 11, none⟩ (.slice (some ⟨g', 0, none⟩) (1 + 1) cap) := ⟨_, rfl⟩
        rw [← hm]
        obtain ⟨K0, K1, K2, K3, K4, K5, K6, K7⟩ := HK.out
        have L6 := Lib.hid (show TarsV (mask (wq b6 NN) m6) (sl (b6 + 11) 2) cropsL by rw [hm]; exact MC.out.1)
        have g : EG b6 (b6 + 12) m5 m6 := by rw [hm]; exact MC.out.2
        replace SZ : NN ≤ m6.heap.size := Nat.le_trans SZ g.size
        replace XN := Lib.hid (show Ext w m6 from EG.over XN.out (by omega) g)
        replace L1 := Lib.hid (L1.out.kc (wq_eg g (by omega) (by omega)))
        replace L2 := Lib.hid (L2.out.kc (wq_eg g (by omega) (by omega)))
        replace L3 := Lib.hid (L3.out.kc (wq_eg g (by omega) (by omega)))
        replace L4 := Lib.hid (L4.out.kc (wq_eg g (by omega) (by omega)))
        replace L5 := Lib.hid (L5.out.kc (wq_eg g (by omega) (by omega)))
        replace T7 := Lib.hid (T7.out.eg g (by omega))
        clear hm g q3 f3 MC
        have q : m6.cell? ⟨b7 + 11, 3, none⟩ = some (.slice (some ⟨b7, 0, none⟩) 2 2) := T7.out.cell 11 3 _ (by decide) (by decide) rfl
        have f := T7.out.fz 11 3 (by decide)
        have hl : b7 + 11 < m6.heap.size := by omega
        have hl' : ¬ b7 + 11 = m6.heap.size := by omega
        clear K0 K1 K2 K3 K4 K5 K6 K7
        go_upto_region 30 with fail
        clear hl hl'
        obtain ⟨m7, hm⟩ : ∃ x, x = (m6.setCell ⟨b7 + 11, 3, none⟩ (.slice (some ⟨m6.heap.size, 0, none⟩) 5 5)).alloc (.cells #[.int .i64 0, .int .i64 0, .int .i64 0, .int .i64 0, .int .i64 0] 3) := ⟨_, rfl⟩
        rw [← hm]
        obtain ⟨K0, K1, K2, K3, K4, K5, K6, K7⟩ := HK.out
        have hw := mut_weeks (N := NN) (t := 3) (cs := #[.int .i64 0, .int .i64 0, .int .i64 0, .int .i64 0, .int .i64 0]) (xs := [0, 0, 0, 0, 0]) (v := .slice (some ⟨m6.heap.size, 0, none⟩) 5 5) T7.out SZ (by omega) rfl (by decide) (by decide) rfl
        have L7 := Lib.hid (show TarsV (mask (wq b7 NN) m7) (sl (b7 + 11) 2) manyL by rw [hm]; exact hw.1)
        have g : EG b7 (b7 + 12) m6 m7 := by rw [hm]; exact hw.2
        replace XN := Lib.hid (show Ext w m7 from EG.over XN.out (by omega) g)
        replace L1 := Lib.hid (L1.out.kc (wq_eg g (by omega) (by omega)))
        replace L2 := Lib.hid (L2.out.kc (wq_eg g (by omega) (by omega)))
        replace L3 := Lib.hid (L3.out.kc (wq_eg g (by omega) (by omega)))
        replace L4 := Lib.hid (L4.out.kc (wq_eg g (by omega) (by omega)))
        replace L5 := Lib.hid (L5.out.kc (wq_eg g (by omega) (by omega)))
        replace L6 := Lib.hid (L6.out.kc (wq_eg g (by omega) (by omega)))
        clear hm hw g q f K0 K1 K2 K3 K4 K5 K6 K7 HK SZ T1 T2 T3 T4 T5 T6 T7 O6' hmk5 hmk6 i2 hi2 hz20 hz21 hz22
        have C1 : Hid (∀ w', Ext m7 w' → Calls Try.prog 23 #[.slice (some ⟨b1 + 11, 0, none⟩) 2 2] w' fun e w'' => e = .returned (.int .i64 1) ∧ Ext w' w'') := Lib.hid (fun w' hx => by
          have := HCK.out _ _ w' ((L1.out.kc (mask_kc0 _ _)).ext hx)
          rw [nm16.1] at this; exact this)
        have C2 : Hid (∀ w', Ext m7 w' → Calls Try.prog 23 #[.slice (some ⟨b2 + 11, 0, none⟩) 2 2] w' fun e w'' => e = .returned (.int .i64 1) ∧ Ext w' w'') := Lib.hid (fun w' hx => by
          have := HCK.out _ _ w' ((L2.out.kc (mask_kc0 _ _)).ext hx)
          rw [nm16.2.1] at this; exact this)
        have C3 : Hid (∀ w', Ext m7 w' → Calls Try.prog 23 #[.slice (some ⟨b3 + 11, 0, none⟩) 2 2] w' fun e w'' => e = .returned (.int .i64 1) ∧ Ext w' w'') := Lib.hid (fun w' hx => by
          have := HCK.out _ _ w' ((L3.out.kc (mask_kc0 _ _)).ext hx)
          rw [nm16.2.2.1] at this; exact this)
        have C4 : Hid (∀ w', Ext m7 w' → Calls Try.prog 23 #[.slice (some ⟨b4 + 11, 0, none⟩) 2 2] w' fun e w'' => e = .returned (.int .i64 1) ∧ Ext w' w'') := Lib.hid (fun w' hx => by
          have := HCK.out _ _ w' ((L4.out.kc (mask_kc0 _ _)).ext hx)
          rw [nm16.2.2.2.1] at this; exact this)
        have C5 : Hid (∀ w', Ext m7 w' → Calls Try.prog 23 #[.slice (some ⟨b5 + 11, 0, none⟩) 2 2] w' fun e w'' => e = .returned (.int .i64 1) ∧ Ext w' w'') := Lib.hid (fun w' hx => by
          have := HCK.out _ _ w' ((L5.out.kc (mask_kc0 _ _)).ext hx)
          rw [nm16.2.2.2.2.1] at this; exact this)
        have C6 : Hid (∀ w', Ext m7 w' → Calls Try.prog 23 #[.slice (some ⟨b6 + 11, 0, none⟩) 2 2] w' fun e w'' => e = .returned (.int .i64 1) ∧ Ext w' w'') := Lib.hid (fun w' hx => by
          have := HCK.out _ _ w' ((L6.out.kc (mask_kc0 _ _)).ext hx)
          rw [nm16.2.2.2.2.2.1] at this; exact this)
        have C7 : Hid (∀ w', Ext m7 w' → Calls Try.prog 23 #[.slice (some ⟨b7 + 11, 0, none⟩) 2 2] w' fun e w'' => e = .returned (.int .i64 3) ∧ Ext w' w'') := Lib.hid (fun w' hx => by
          have := HCK.out _ _ w' ((L7.out.kc (mask_kc0 _ _)).ext hx)
          rw [nm16.2.2.2.2.2.2.1] at this; exact this)
        have C8 : Hid (∀ w', Ext m7 w' → Calls Try.prog 23 #[.slice none 0 0] w' fun e w'' => e = .returned (.int .i64 1) ∧ Ext w' w'') := Lib.hid (fun w' hx => by
          have := HCK.out _ _ w' (nil_tars w')
          rw [nm16.2.2.2.2.2.2.2.1] at this; exact this)
        clear HCK L1 L2 L3 L4 L5 L6 L7
        simp only [List.append]
        go_wp2_with fail
        (with_reducible refine (C1.out _ (Ext.refl _)).mono ?_)
        rintro e n1 ⟨rfl, h1⟩
        go_wp2_with fail
        (with_reducible refine (C2.out _ (h1)).mono ?_)
        rintro e n2 ⟨rfl, h2⟩
        replace h1 := h1.trans h2
        clear h2
        go_wp2_with fail
        (with_reducible refine (C3.out _ (h1)).mono ?_)
        rintro e n2 ⟨rfl, h2⟩
        replace h1 := h1.trans h2
        clear h2
        go_wp2_with fail
        (with_reducible refine (C4.out _ (h1)).mono ?_)
        rintro e n2 ⟨rfl, h2⟩
        replace h1 := h1.trans h2
        clear h2
        go_wp2_with fail
        (with_reducible refine (C5.out _ (h1)).mono ?_)
        rintro e n2 ⟨rfl, h2⟩
        replace h1 := h1.trans h2
        clear h2
        go_wp2_with fail
        (with_reducible refine (C6.out _ (h1)).mono ?_)
        rintro e n2 ⟨rfl, h2⟩
        replace h1 := h1.trans h2
        clear h2
        go_wp2_with fail
        (with_reducible refine (C7.out _ (h1)).mono ?_)
        rintro e n2 ⟨rfl, h2⟩
        replace h1 := h1.trans h2
        clear h2
        go_wp2_with fail
        (with_reducible refine (C8.out _ (h1)).mono ?_)
        rintro e n2 ⟨rfl, h2⟩
        replace h1 := h1.trans h2
        clear h2
        go_wp2_with fail
        (with_reducible refine (HAW.out _).mono ?_)
        rintro e n9 ⟨h3, h2⟩
        subst h3
        go_wp2_with fail
        go_ret
        exact ⟨rfl, XN.out.trans (h1.trans h2)⟩
end Go.Proofs.Ytfjecbfcnngacaa
