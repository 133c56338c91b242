/- The examples of the document: what 'awake' reports. -/
import Derived.Test.YtfjecbfcnngacaaAD
import Derived.KernelRfl
namespace Go.Proofs.Ytfjecbfcnngacaa
open Go.RowKit Go.Hs
attribute [local irreducible] World.setCell World.alloc

theorem ex1 : partR twoL 0 5 10 = .tuple #[.int .i64 8, .int .i64 0] := by kernel_rfl
theorem ex2 : partR twoL 0 30 50 = .tuple #[.int .i64 35, .int .i64 0] := by kernel_rfl
theorem ex3 : boundsR twoL oneC = .tuple #[.agg #[.int .i64 105, .int .i64 210], .int .i64 0] := by kernel_rfl
theorem ex4 : showR twoL oneC false = .tuple #[.agg #[.int .i64 10, .int .i64 20], .int .i64 0] := by kernel_rfl
theorem ex5 : paidR twoL oneC = .tuple #[.int .i64 1, .int .i64 0] := by kernel_rfl
theorem ex6 : leastR twoL 0 30 = .tuple #[.int .i64 13, .int .i64 0] := by kernel_rfl

set_option maxRecDepth 100000 in
set_option maxHeartbeats 2000000 in
theorem awake_any (w : World) : Calls Try.prog 19 #[] w fun e w' => e = .returned (.bool true) ∧ Ext w w' := by
  have h1 : ∀ v W, TarsV W v twoL → Calls Try.prog 20 #[v, .int .i64 0, .int .i64 5, .int .i64 10] W fun e w' => e = .returned (.tuple #[.int .i64 8, .int .i64 0]) ∧ Ext W w' := fun v W hv => ex1 ▸ Part_any v twoL 0 5 10 W hv
  have h2 : ∀ v W, TarsV W v twoL → Calls Try.prog 20 #[v, .int .i64 0, .int .i64 30, .int .i64 50] W fun e w' => e = .returned (.tuple #[.int .i64 35, .int .i64 0]) ∧ Ext W w' := fun v W hv => ex2 ▸ Part_any v twoL 0 30 50 W hv
  have h3 : ∀ v W, TarsV W v twoL → Calls Try.prog 27 #[v, oneC.u.val] W fun e w' => e = .returned (.tuple #[.agg #[.int .i64 105, .int .i64 210], .int .i64 0]) ∧ Ext W w' := fun v W hv => ex3 ▸ Bounds_any v twoL oneC W hv
  have h4 : ∀ v W, TarsV W v twoL → Calls Try.prog 29 #[v, oneC.u.val, .bool false] W fun e w' => e = .returned (.tuple #[.agg #[.int .i64 10, .int .i64 20], .int .i64 0]) ∧ Ext W w' := fun v W hv => ex4 ▸ Show_any v twoL oneC false W hv
  have h5 : ∀ v W, TarsV W v twoL → Calls Try.prog 30 #[v, oneC.u.val] W fun e w' => e = .returned (.tuple #[.int .i64 1, .int .i64 0]) ∧ Ext W w' := fun v W hv => ex5 ▸ Paid_any v twoL oneC W hv
  have h6 : ∀ v W, TarsV W v twoL → Calls Try.prog 40 #[v, .int .i64 0, .int .i64 30] W fun e w' => e = .returned (.tuple #[.int .i64 13, .int .i64 0]) ∧ Ext W w' := fun v W hv => ex6 ▸ Least_any v twoL 0 30 W hv
  have ht := two_any
  have ho := one_any
  have hbt : ∀ W, Calls Try.prog 44 #[.int .i64 105, .int .i64 210] W fun e w' => e = .returned (.agg #[.int .i64 105, .int .i64 210]) ∧ Ext W w' := between_any 105 210
  generalize oneC.u.val = oc at *
  generalize twoL = tw at *
  go_enter Try.func19, Try.ntmps19
  go_wp2_with fail
  (with_reducible refine (ht _).mono ?_)
  rintro e w1 ⟨v1, rfl, hv1, hx1⟩
  go_wp2_with fail
  (with_reducible refine (h1 _ _ hv1).mono ?_)
  rintro e w2 ⟨rfl, hx2⟩
  have X2 := hx1.trans hx2
  clear hx1 hx2 hv1
  go_wp2_with fail
  (with_reducible refine (ht _).mono ?_)
  rintro e w3 ⟨v3, rfl, hv3, hx3⟩
  go_wp2_with fail
  (with_reducible refine (h2 _ _ hv3).mono ?_)
  rintro e w4 ⟨rfl, hx4⟩
  have X4 := X2.trans (hx3.trans hx4)
  clear hx3 hx4 hv3 X2
  go_wp2_with fail
  (with_reducible refine (ht _).mono ?_)
  rintro e w5 ⟨v5, rfl, hv5, hx5⟩
  go_wp2_with fail
  (with_reducible refine (ho _).mono ?_)
  rintro e w6 ⟨rfl, hx6⟩
  go_wp2_with fail
  (with_reducible refine (h3 _ _ (hv5.ext hx6)).mono ?_)
  rintro e w7 ⟨rfl, hx7⟩
  have X7 := X4.trans (hx5.trans (hx6.trans hx7))
  clear hx5 hx6 hx7 hv5 X4
  go_wp2_with fail
  (with_reducible refine (ht _).mono ?_)
  rintro e w8 ⟨v8, rfl, hv8, hx8⟩
  go_wp2_with fail
  (with_reducible refine (ho _).mono ?_)
  rintro e w9 ⟨rfl, hx9⟩
  go_wp2_with fail
  (with_reducible refine (h4 _ _ (hv8.ext hx9)).mono ?_)
  rintro e w10 ⟨rfl, hx10⟩
  have Y10 := hx8.trans (hx9.trans hx10)
  clear hx8 hx9 hx10 hv8
  go_wp2_with fail
  (with_reducible refine (ht _).mono ?_)
  rintro e w11 ⟨v11, rfl, hv11, hx11⟩
  go_wp2_with fail
  (with_reducible refine (ho _).mono ?_)
  rintro e w12 ⟨rfl, hx12⟩
  go_wp2_with fail
  (with_reducible refine (h5 _ _ (hv11.ext hx12)).mono ?_)
  rintro e w13 ⟨rfl, hx13⟩
  have Y13 := hx11.trans (hx12.trans hx13)
  clear hx11 hx12 hx13 hv11
  go_wp2_with fail
  (with_reducible refine (ht _).mono ?_)
  rintro e w14 ⟨v14, rfl, hv14, hx14⟩
  go_wp2_with fail
  (with_reducible refine (h6 _ _ hv14).mono ?_)
  rintro e w15 ⟨rfl, hx15⟩
  have Y15 := hx14.trans hx15
  clear hx14 hx15 hv14
  have r0 := Y15.keep (Y13.keep ((Ext.alloc (Ext.refl _) _).keep (Y10.keep (k := w7.heap.size) (o := 0) (v := .int .i64 105) (by simp [go_sem]))))
  have r1 := Y15.keep (Y13.keep ((Ext.alloc (Ext.refl _) _).keep (Y10.keep (k := w7.heap.size) (o := 1) (v := .int .i64 210) (by simp [go_sem]))))
  have r2 := Y15.keep (Y13.keep (k := w10.heap.size) (o := 0) (v := .int .i64 10) (by simp [go_sem]))
  have r3 := Y15.keep (Y13.keep (k := w10.heap.size) (o := 1) (v := .int .i64 20) (by simp [go_sem]))
  have XX : Ext w w15 := by (repeat (first | exact Ext.refl _ | (with_reducible assumption) | (with_reducible refine Ext.drew ?_) | (with_reducible refine Ext.alloc ?_ _) | (with_reducible refine Ext.drewN ?_ _) | (with_reducible refine Ext.setCell ?_ (by omega) _) | (with_reducible refine Ext.trans ?_ (by with_reducible assumption))))
  clear Y10 Y13 Y15 X7
  go_upto_region 7 with fail
  have HS : Hid (∀ w', Ext w15 w' → (w'.cell? ⟨w7.heap.size, 0, none⟩ = some (.int .i64 105) ∧ w'.cell? ⟨w7.heap.size, 1, none⟩ = some (.int .i64 210) ∧ w'.cell? ⟨w10.heap.size, 0, none⟩ = some (.int .i64 10) ∧ w'.cell? ⟨w10.heap.size, 1, none⟩ = some (.int .i64 20)) ∧ Ext w15 w') :=
    fun w' hx => ⟨⟨hx.keep r0, hx.keep r1, hx.keep r2, hx.keep r3⟩, hx⟩
  go_region_held3 (fun w' => (w'.cell? ⟨w7.heap.size, 0, none⟩ = some (.int .i64 105) ∧ w'.cell? ⟨w7.heap.size, 1, none⟩ = some (.int .i64 210) ∧ w'.cell? ⟨w10.heap.size, 0, none⟩ = some (.int .i64 10) ∧ w'.cell? ⟨w10.heap.size, 1, none⟩ = some (.int .i64 20)) ∧ Ext w15 w')
    ((refine HS.out _ ?_; (repeat (first | exact Ext.refl _ | (with_reducible assumption) | (with_reducible refine Ext.drew ?_) | (with_reducible refine Ext.alloc ?_ _) | (with_reducible refine Ext.drewN ?_ _) | (with_reducible refine Ext.setCell ?_ (by omega) _) | (with_reducible refine Ext.trans ?_ (by with_reducible assumption))))))
    (first
      | (go_at_call 44; (with_reducible refine (hbt _).mono ?_); rintro e w16 ⟨rfl, hx16⟩))
  go_wp2_with fail
  go_ret
  exact ⟨rfl, by (repeat (first | exact Ext.refl _ | (with_reducible assumption) | (with_reducible refine Ext.drew ?_) | (with_reducible refine Ext.alloc ?_ _) | (with_reducible refine Ext.drewN ?_ _) | (with_reducible refine Ext.setCell ?_ (by omega) _) | (with_reducible refine Ext.trans ?_ (by with_reducible assumption))))⟩
end Go.Proofs.Ytfjecbfcnngacaa
