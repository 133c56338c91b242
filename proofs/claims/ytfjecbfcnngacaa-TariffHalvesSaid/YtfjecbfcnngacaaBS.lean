/- The walk of TariffHalves. -/
import Derived.Test.YtfjecbfcnngacaaBE
import Derived.Test.YtfjecbfcnngacaaBG
import Derived.Test.YtfjecbfcnngacaaAG
import Derived.Test.YtfjecbfcnngacaaOC
import Derived.Test.YtfjecbfcnngacaaBN
import Derived.RegionTactic
import Derived.BigRegion
import Derived.Deep.CutRange
namespace Go.Proofs.Ytfjecbfcnngacaa
open Go.RowKit Go.Hs
attribute [local irreducible] World.setCell World.alloc

/-- Three boxes of a claim each. -/
structure ThreeB (W : World) (c : Cla) (A B D : Nat) (w : World) : Prop where
  a : Cell6 w A 0 c.u
  b : Cell6 w B 0 c.u
  d : Cell6 w D 0 c.u
  fa : ∀ o, w.frozen? ⟨A, o, none⟩ = false
  fb : ∀ o, w.frozen? ⟨B, o, none⟩ = false
  fd : ∀ o, w.frozen? ⟨D, o, none⟩ = false
  ab : A ≠ B
  ad : A ≠ D
  bd : B ≠ D
  ga : W.heap.size ≤ A
  gb : W.heap.size ≤ B
  gd : W.heap.size ≤ D
  ext : Ext W w
theorem u16_bounds' {n : Int} (h : (Lit.int .u16 n).wf = true) : 0 ≤ n ∧ n ≤ 65535 := by
  have := bounds_u16 h; omega

set_option maxRecDepth 100000 in
set_option maxHeartbeats 8000000 in
theorem walk_TariffHalves (v : Value) (l : List Tar) (c : Cla) (part : Int) (w : World) (hv : TarsW w v l) (_ : ClaOK c) (g1 : (Lit.int .u16 part).wf = true) :
    Calls Try.prog 9 #[v, c.u.val, .int .u16 part] w fun e w' => e = .returned (.bool true) ∧ Ext w w' := by
  have HAW : Hid (∀ W, Calls Try.prog 19 #[] W fun e w' => e = .returned (.bool true) ∧ Ext W w') := awake_any
  obtain ⟨b3, b4⟩ := u16_bounds' g1
  clear g1
  have X : Ext w (w.alloc (.cells #[.int .i64 c.crop, .int .i64 c.value, .int .i64 c.dlo, .int .i64 c.dhi, .int .i64 c.clo, .int .i64 c.chi] 39)) := by (repeat (first | exact Ext.refl _ | (with_reducible assumption) | (with_reducible refine Ext.drew ?_) | (with_reducible refine Ext.alloc ?_ _) | (with_reducible refine Ext.drewN ?_ _) | (with_reducible refine Ext.setCell ?_ (by omega) _) | (with_reducible refine Ext.trans ?_ (by with_reducible assumption))))
  have hfi := fine_any v l c _ (hv.ext X)
  cases ht : fineB l c with
  | false =>
    rw [ht] at hfi
    obtain ⟨a, k, rfl, -⟩ := hv
    obtain ⟨cr, va, dl, dh, cl, ch⟩ := c
    clear ht
    go_enter Try.func9, Try.ntmps9
    go_wp2_with fail
    (with_reducible refine hfi.mono ?_)
    rintro e w1 ⟨rfl, hx1⟩
    go_wp2_with fail
    (with_reducible refine (HAW.out _).mono ?_)
    rintro e w2 ⟨rfl, hx2⟩
    go_wp2_with fail
    go_ret
    exact ⟨rfl, X.trans (hx1.trans hx2)⟩
  | true =>
    rw [ht] at hfi
    obtain ⟨hth, hl, hc⟩ := fine_of ht
    have hvv := hv.toV hth
    have hday := hc.day
    have hcnt := hc.count
    have hval := hc.value
    have hcr := hc.crop
    have pd := pick_bd hday.2.1 (Int.le_refl 0)
    have pn := pick_bd hcnt.2.1 (Int.le_refl 0)
    have HPK : Hid (∀ W, Calls Try.prog 42 #[c.u.val, .int .u8 0, .int .u8 0] W fun e w' => e = .returned (.agg #[.int .i64 (pickX c.dlo c.dhi 0), .int .i64 (pickX c.clo c.chi 0)]) ∧ Ext W w') := fun W => picked_any l c 0 0 W hc (by omega) (by omega) (by omega) (by omega)
    have HTA : Hid (∀ W, Ext w W → Calls Try.prog 21 #[v] W fun e w' => ∃ v', e = .returned v' ∧ TarsV w' v' l ∧ Ext W w') := fun W hx => Tariffs_any v l W (hvv.ext hx) hth
    have HCL : Hid (∀ c' : Cla, ∀ W, Calls Try.prog 28 #[c'.u.val] W fun e w' => e = .returned c'.u.val ∧ Ext W w') := fun c' W => Claim_any c' W
    have HTR : Hid (∀ a b W, Calls Try.prog 34 #[.agg #[.int .i64 a, .int .i64 b]] W fun e w' => e = .returned (.agg #[.int .i64 a, .int .i64 b]) ∧ Ext W w') := Truth_any
    have HPY : Hid (∀ x : Int, 0 ≤ x → x ≤ 100000 → ∀ v' W, TarsV W v' l → Calls Try.prog 43 #[v', (Cla.u ⟨c.crop, x, c.dlo, c.dhi, c.clo, c.chi⟩).val, .agg #[.int .i64 (pickX c.dlo c.dhi 0), .int .i64 (pickX c.clo c.chi 0)]] W fun e w' => e = .returned (.tuple #[.int .i64 (x * partS l c.crop (pickX c.dlo c.dhi 0) (pickX c.clo c.chi 0) / 100), .int .i64 0]) ∧ Ext W w') := fun x hx0 hx1 v' W h => by
      have hc' : ClaimOK l ⟨c.crop, x, c.dlo, c.dhi, c.clo, c.chi⟩ := ⟨hc.crop, ⟨hx0, hx1⟩, hc.day, hc.ten, hc.count⟩
      have h0 : askS1 l ⟨c.crop, x, c.dlo, c.dhi, c.clo, c.chi⟩ = 0 := by
        unfold askS1
        rw [if_neg (by simp [hl.check]), if_pos (claimB_iff.2 hc')]
      have htr : truthB ⟨c.crop, x, c.dlo, c.dhi, c.clo, c.chi⟩ (pickX c.dlo c.dhi 0) (pickX c.clo c.chi 0) = true := truthB_iff.2 ⟨pd, pn⟩
      have := Pay_any v' l ⟨c.crop, x, c.dlo, c.dhi, c.clo, c.chi⟩ (pickX c.dlo c.dhi 0) (pickX c.clo c.chi 0) W h
      unfold payN payE at this
      rw [if_pos h0, if_pos h0, if_pos htr, if_pos htr] at this
      exact this
    have HPA : Hid (∀ v' W, TarsV W v' l → Calls Try.prog 20 #[v', .int .i64 c.crop, .int .i64 (pickX c.dlo c.dhi 0), .int .i64 (pickX c.clo c.chi 0)] W fun e w' => e = .returned (.tuple #[.int .i64 (partS l c.crop (pickX c.dlo c.dhi 0) (pickX c.clo c.chi 0)), .int .i64 0]) ∧ Ext W w') := fun v' W h => PartOK_any v' l _ _ _ W h hl hcr.1 hcr.2 (by omega) (by omega) (by omega) (by omega)
    have hpb := partS_bd hl hcr.1 hcr.2 (show 0 ≤ pickX c.dlo c.dhi 0 by omega) (show 0 ≤ pickX c.clo c.chi 0 by omega) (show pickX c.clo c.chi 0 ≤ 100 by omega)
    clear hvv ht hth hl hc hday hcnt hcr pd pn
    obtain ⟨a, k, rfl, -⟩ := hv
    generalize partS l c.crop (pickX c.dlo c.dhi 0) (pickX c.clo c.chi 0) = p at *
    generalize pickX c.dlo c.dhi 0 = d0 at *
    generalize pickX c.clo c.chi 0 = n0 at *
    obtain ⟨cr, va, dl, dh, cl, ch⟩ := c
    simp only at *
    have hc0 : Cell6 (w.alloc (.cells #[.int .i64 cr, .int .i64 va, .int .i64 dl, .int .i64 dh, .int .i64 cl, .int .i64 ch] 39)) w.heap.size 0 ⟨.int .i64 cr, .int .i64 va, .int .i64 dl, .int .i64 dh, .int .i64 cl, .int .i64 ch⟩ := by simp [Cell6]
    go_enter Try.func9, Try.ntmps9
    go_wp2_with fail
    (with_reducible refine hfi.mono ?_)
    rintro e w1 ⟨rfl, hx1⟩
    clear hfi
    have X1 : Ext w w1 := X.trans hx1
    have hc1 := Cell6.ext hx1 _ _ _ hc0
    simp only [Cell6, Nat.zero_add] at hc1
    obtain ⟨q0, q1, q2, q3, q4, q5⟩ := hc1
    clear hc0
    go_wp2_with fail
    (with_reducible refine (HPK.out _).mono ?_)
    rintro e w2 ⟨rfl, hx2⟩
    go_wp2_with fail
    go_upto_region 4 with fail
    generalize hWA : w2.alloc (.cells #[.int .i64 d0, .int .i64 n0] 52) = WA at *
    generalize hT0 : w2.heap.size = T0 at *
    have hx2' : Ext w1 WA := by rw [← hWA]; (repeat (first | exact Ext.refl _ | (with_reducible assumption) | (with_reducible refine Ext.drew ?_) | (with_reducible refine Ext.alloc ?_ _) | (with_reducible refine Ext.drewN ?_ _) | (with_reducible refine Ext.setCell ?_ (by omega) _) | (with_reducible refine Ext.trans ?_ (by with_reducible assumption))))
    have t0 : WA.cell? ⟨T0, 0, none⟩ = some (.int .i64 d0) := by rw [← hWA, ← hT0]; simp
    have t1 : WA.cell? ⟨T0, 1, none⟩ = some (.int .i64 n0) := by rw [← hWA, ← hT0]; simp
    have XWA : Ext w WA := X1.trans hx2'
    replace q0 := hx2'.keep q0
    replace q1 := hx2'.keep q1
    replace q2 := hx2'.keep q2
    replace q3 := hx2'.keep q3
    replace q4 := hx2'.keep q4
    replace q5 := hx2'.keep q5
    clear hWA hT0 hx2 hx2' hx1 X1
    go_cut [8, 9, 10] from 28 to 30 (fun sA sB sD wx => ∃ A B D, sA = .pointer (some ⟨A, 0, none⟩) ∧ sB = .pointer (some ⟨B, 0, none⟩) ∧ sD = .pointer (some ⟨D, 0, none⟩) ∧ ThreeB WA ⟨cr, va, dl, dh, cl, ch⟩ A B D wx)
    case first =>
      have HSA : Hid (∀ w', Ext WA w' → (w'.cell? ⟨w.heap.size, 0, none⟩ = some (.int .i64 cr) ∧ w'.cell? ⟨w.heap.size, 1, none⟩ = some (.int .i64 va) ∧ w'.cell? ⟨w.heap.size, 2, none⟩ = some (.int .i64 dl) ∧ w'.cell? ⟨w.heap.size, 3, none⟩ = some (.int .i64 dh) ∧ w'.cell? ⟨w.heap.size, 4, none⟩ = some (.int .i64 cl) ∧ w'.cell? ⟨w.heap.size, 5, none⟩ = some (.int .i64 ch)) ∧ Ext WA w') := fun w' hx => ⟨⟨hx.keep q0, hx.keep q1, hx.keep q2, hx.keep q3, hx.keep q4, hx.keep q5⟩, hx⟩
      clear q0 q1 q2 q3 q4 q5 HAW HPK HTA HCL HTR HPY HPA hpb hval t0 t1 b3 b4 X XWA
      go_region_held3 (fun w' => (w'.cell? ⟨w.heap.size, 0, none⟩ = some (.int .i64 cr) ∧ w'.cell? ⟨w.heap.size, 1, none⟩ = some (.int .i64 va) ∧ w'.cell? ⟨w.heap.size, 2, none⟩ = some (.int .i64 dl) ∧ w'.cell? ⟨w.heap.size, 3, none⟩ = some (.int .i64 dh) ∧ w'.cell? ⟨w.heap.size, 4, none⟩ = some (.int .i64 cl) ∧ w'.cell? ⟨w.heap.size, 5, none⟩ = some (.int .i64 ch)) ∧ Ext WA w')
        ((refine HSA.out _ ?_; (repeat (first | exact Ext.refl _ | (with_reducible assumption) | (with_reducible refine Ext.drew ?_) | (with_reducible refine Ext.alloc ?_ _) | (with_reducible refine Ext.drewN ?_ _) | (with_reducible refine Ext.setCell ?_ (by omega) _) | (with_reducible refine Ext.trans ?_ (by with_reducible assumption))))))
        (fail)
      all_goals
        go_wp2_with fail
        go_meet
        exact ⟨_, _, _, rfl, rfl, rfl, ⟨by simp [go_sem, Cell6], by simp [go_sem, Cell6], by simp [go_sem, Cell6], fun o => by simp [go_sem], fun o => by simp [go_sem], fun o => by simp [go_sem], by omega, by omega, by omega, by omega, by omega, by omega, by (repeat (first | exact Ext.refl _ | (with_reducible assumption) | (with_reducible refine Ext.drew ?_) | (with_reducible refine Ext.alloc ?_ _) | (with_reducible refine Ext.drewN ?_ _) | (with_reducible refine Ext.setCell ?_ (by omega) _) | (with_reducible refine Ext.trans ?_ (by with_reducible assumption))))⟩⟩
    case rest =>
      obtain ⟨A, B, D, rfl, rfl, rfl, h3⟩ := hcut
      obtain ⟨W4, rfl⟩ : ∃ x, x = wc := ⟨_, rfl⟩
      have XW4 : Ext w W4 := XWA.trans h3.ext
      have hTl := lt_of_cell t0
      have hBl := lt_of_cell q0
      simp only at hTl hBl
      replace q0 := h3.ext.keep q0
      replace q1 := h3.ext.keep q1
      replace q2 := h3.ext.keep q2
      replace q3 := h3.ext.keep q3
      replace q4 := h3.ext.keep q4
      replace q5 := h3.ext.keep q5
      replace t0 := h3.ext.keep t0
      replace t1 := h3.ext.keep t1
      obtain ⟨a0', a1', a2', a3', a4', a5'⟩ := h3.a
      obtain ⟨b0', b1', b2', b3', b4', b5'⟩ := h3.b
      obtain ⟨e0', e1', e2', e3', e4', e5'⟩ := h3.d
      simp only [Nat.zero_add] at a0' a1' a2' a3' a4' a5' b0' b1' b2' b3' b4' b5' e0' e1' e2' e3' e4' e5'
      have fA := h3.fa 1
      have fB := h3.fb 1
      have fD := h3.fd 1
      have nab := h3.ab
      have nad := h3.ad
      have nbd := h3.bd
      have ga := h3.ga
      have gb := h3.gb
      have gd := h3.gd
      have sW := XWA.size
      obtain ⟨a0, ha0, ha1, ha2⟩ : ∃ a0, part.tmod (va + 1) = a0 ∧ 0 ≤ a0 ∧ a0 < va + 1 := ⟨_, rfl, by rw [Int.tmod_eq_emod_of_nonneg b3]; exact Int.emod_nonneg _ (by omega), by rw [Int.tmod_eq_emod_of_nonneg b3]; exact Int.emod_lt_of_pos _ (by omega)⟩
      have ha0' : part % (va + 1) = a0 := by rw [← ha0, Int.tmod_eq_emod_of_nonneg b3]
      obtain ⟨b0, hb0⟩ : ∃ b0, b0 = va - a0 := ⟨_, rfl⟩
      obtain ⟨dq, hdq⟩ : ∃ dq, dq = va / 100 := ⟨_, rfl⟩
      obtain ⟨rm, hrm⟩ : ∃ rm, rm = va % 100 := ⟨_, rfl⟩
      obtain ⟨dv, hdv⟩ : ∃ dv, dv = va - rm := ⟨_, rfl⟩
      have hd100 : dv = 100 * dq ∧ 0 ≤ dq ∧ dq ≤ 1000 ∧ 0 ≤ rm ∧ rm ≤ 99 := by omega
      have k1 : IntKind.i64.wrap part = part := IntWalk.i64_in _ (by omega)
      have k2 : IntKind.i64.wrap (va + 1) = va + 1 := IntWalk.i64_in _ (by omega)
      have k3 : IntKind.i64.wrap a0 = a0 := IntWalk.i64_in _ (by omega)
      have k4 : va - a0 = b0 := hb0.symm
      have k5 : IntKind.i64.wrap b0 = b0 := IntWalk.i64_in _ (by omega)
      have k6 : va.tmod 100 = rm := by rw [Int.tmod_eq_emod_of_nonneg hval.1]; exact hrm.symm
      have k7 : va % 100 = rm := hrm.symm
      have k8 : IntKind.i64.wrap rm = rm := IntWalk.i64_in _ (by omega)
      have k9 : va - rm = dv := hdv.symm
      have k10 : IntKind.i64.wrap dv = dv := IntWalk.i64_in _ (by omega)
      have k11 : ¬ va + 1 = 0 := by omega
      have HB0 := Lib.hid hb0
      have HDQ := Lib.hid hdq
      have HD100 := Lib.hid hd100
      have HPD := Lib.hid (HPY.out dv (by omega) (by omega))
      clear hb0 hdq hrm hdv hd100
      have HPV := Lib.hid (HPY.out va hval.1 hval.2)
      have HPX := Lib.hid (HPY.out a0 ha1 (by omega))
      have HPB := Lib.hid (HPY.out b0 (by have := HB0.out; omega) (by have := HB0.out; omega))
      have l1 : (W4.setCell ⟨A, 1, none⟩ (.int .i64 a0)).cell? ⟨w.heap.size, 1, none⟩ = some (.int .i64 va) := set_other (by omega) q1
      have l2 : (W4.setCell ⟨A, 1, none⟩ (.int .i64 a0)).cell? ⟨A, 1, none⟩ = some (.int .i64 a0) := set_same a1'
      have l3 : (W4.setCell ⟨A, 1, none⟩ (.int .i64 a0)).cell? ⟨B, 1, none⟩ = some (.int .i64 va) := set_other (by omega) b1'
      have l4 : (W4.setCell ⟨A, 1, none⟩ (.int .i64 a0)).frozen? ⟨B, 1, none⟩ = false := by rw [World.frozen?_setCell]; exact fB
      have l5 : ((W4.setCell ⟨A, 1, none⟩ (.int .i64 a0)).setCell ⟨B, 1, none⟩ (.int .i64 b0)).cell? ⟨w.heap.size, 1, none⟩ = some (.int .i64 va) := set_other (by omega) l1
      have l6 : ((W4.setCell ⟨A, 1, none⟩ (.int .i64 a0)).setCell ⟨B, 1, none⟩ (.int .i64 b0)).cell? ⟨D, 1, none⟩ = some (.int .i64 va) := set_other (by omega) (set_other (by omega) e1')
      have l7 : ((W4.setCell ⟨A, 1, none⟩ (.int .i64 a0)).setCell ⟨B, 1, none⟩ (.int .i64 b0)).frozen? ⟨D, 1, none⟩ = false := by rw [World.frozen?_setCell, World.frozen?_setCell]; exact fD
      have mC0 : (((W4.setCell ⟨A, 1, none⟩ (.int .i64 a0)).setCell ⟨B, 1, none⟩ (.int .i64 b0)).setCell ⟨D, 1, none⟩ (.int .i64 dv)).cell? ⟨w.heap.size, 0, none⟩ = some (.int .i64 cr) := (set_other (by omega) (set_other (by omega) (set_other (by omega) q0)))
      have mC1 : (((W4.setCell ⟨A, 1, none⟩ (.int .i64 a0)).setCell ⟨B, 1, none⟩ (.int .i64 b0)).setCell ⟨D, 1, none⟩ (.int .i64 dv)).cell? ⟨w.heap.size, 1, none⟩ = some (.int .i64 va) := (set_other (by omega) (set_other (by omega) (set_other (by omega) q1)))
      have mC2 : (((W4.setCell ⟨A, 1, none⟩ (.int .i64 a0)).setCell ⟨B, 1, none⟩ (.int .i64 b0)).setCell ⟨D, 1, none⟩ (.int .i64 dv)).cell? ⟨w.heap.size, 2, none⟩ = some (.int .i64 dl) := (set_other (by omega) (set_other (by omega) (set_other (by omega) q2)))
      have mC3 : (((W4.setCell ⟨A, 1, none⟩ (.int .i64 a0)).setCell ⟨B, 1, none⟩ (.int .i64 b0)).setCell ⟨D, 1, none⟩ (.int .i64 dv)).cell? ⟨w.heap.size, 3, none⟩ = some (.int .i64 dh) := (set_other (by omega) (set_other (by omega) (set_other (by omega) q3)))
      have mC4 : (((W4.setCell ⟨A, 1, none⟩ (.int .i64 a0)).setCell ⟨B, 1, none⟩ (.int .i64 b0)).setCell ⟨D, 1, none⟩ (.int .i64 dv)).cell? ⟨w.heap.size, 4, none⟩ = some (.int .i64 cl) := (set_other (by omega) (set_other (by omega) (set_other (by omega) q4)))
      have mC5 : (((W4.setCell ⟨A, 1, none⟩ (.int .i64 a0)).setCell ⟨B, 1, none⟩ (.int .i64 b0)).setCell ⟨D, 1, none⟩ (.int .i64 dv)).cell? ⟨w.heap.size, 5, none⟩ = some (.int .i64 ch) := (set_other (by omega) (set_other (by omega) (set_other (by omega) q5)))
      have mA0 : (((W4.setCell ⟨A, 1, none⟩ (.int .i64 a0)).setCell ⟨B, 1, none⟩ (.int .i64 b0)).setCell ⟨D, 1, none⟩ (.int .i64 dv)).cell? ⟨A, 0, none⟩ = some (.int .i64 cr) := (set_other (by omega) (set_other (by omega) (set_off (by omega) a0')))
      have mA1 : (((W4.setCell ⟨A, 1, none⟩ (.int .i64 a0)).setCell ⟨B, 1, none⟩ (.int .i64 b0)).setCell ⟨D, 1, none⟩ (.int .i64 dv)).cell? ⟨A, 1, none⟩ = some (.int .i64 a0) := (set_other (by omega) (set_other (by omega) (set_same a1')))
      have mA2 : (((W4.setCell ⟨A, 1, none⟩ (.int .i64 a0)).setCell ⟨B, 1, none⟩ (.int .i64 b0)).setCell ⟨D, 1, none⟩ (.int .i64 dv)).cell? ⟨A, 2, none⟩ = some (.int .i64 dl) := (set_other (by omega) (set_other (by omega) (set_off (by omega) a2')))
      have mA3 : (((W4.setCell ⟨A, 1, none⟩ (.int .i64 a0)).setCell ⟨B, 1, none⟩ (.int .i64 b0)).setCell ⟨D, 1, none⟩ (.int .i64 dv)).cell? ⟨A, 3, none⟩ = some (.int .i64 dh) := (set_other (by omega) (set_other (by omega) (set_off (by omega) a3')))
      have mA4 : (((W4.setCell ⟨A, 1, none⟩ (.int .i64 a0)).setCell ⟨B, 1, none⟩ (.int .i64 b0)).setCell ⟨D, 1, none⟩ (.int .i64 dv)).cell? ⟨A, 4, none⟩ = some (.int .i64 cl) := (set_other (by omega) (set_other (by omega) (set_off (by omega) a4')))
      have mA5 : (((W4.setCell ⟨A, 1, none⟩ (.int .i64 a0)).setCell ⟨B, 1, none⟩ (.int .i64 b0)).setCell ⟨D, 1, none⟩ (.int .i64 dv)).cell? ⟨A, 5, none⟩ = some (.int .i64 ch) := (set_other (by omega) (set_other (by omega) (set_off (by omega) a5')))
      have mB0 : (((W4.setCell ⟨A, 1, none⟩ (.int .i64 a0)).setCell ⟨B, 1, none⟩ (.int .i64 b0)).setCell ⟨D, 1, none⟩ (.int .i64 dv)).cell? ⟨B, 0, none⟩ = some (.int .i64 cr) := (set_other (by omega) (set_off (by omega) (set_other (by omega) b0')))
      have mB1 : (((W4.setCell ⟨A, 1, none⟩ (.int .i64 a0)).setCell ⟨B, 1, none⟩ (.int .i64 b0)).setCell ⟨D, 1, none⟩ (.int .i64 dv)).cell? ⟨B, 1, none⟩ = some (.int .i64 b0) := (set_other (by omega) (set_same (set_other (by omega) b1')))
      have mB2 : (((W4.setCell ⟨A, 1, none⟩ (.int .i64 a0)).setCell ⟨B, 1, none⟩ (.int .i64 b0)).setCell ⟨D, 1, none⟩ (.int .i64 dv)).cell? ⟨B, 2, none⟩ = some (.int .i64 dl) := (set_other (by omega) (set_off (by omega) (set_other (by omega) b2')))
      have mB3 : (((W4.setCell ⟨A, 1, none⟩ (.int .i64 a0)).setCell ⟨B, 1, none⟩ (.int .i64 b0)).setCell ⟨D, 1, none⟩ (.int .i64 dv)).cell? ⟨B, 3, none⟩ = some (.int .i64 dh) := (set_other (by omega) (set_off (by omega) (set_other (by omega) b3')))
      have mB4 : (((W4.setCell ⟨A, 1, none⟩ (.int .i64 a0)).setCell ⟨B, 1, none⟩ (.int .i64 b0)).setCell ⟨D, 1, none⟩ (.int .i64 dv)).cell? ⟨B, 4, none⟩ = some (.int .i64 cl) := (set_other (by omega) (set_off (by omega) (set_other (by omega) b4')))
      have mB5 : (((W4.setCell ⟨A, 1, none⟩ (.int .i64 a0)).setCell ⟨B, 1, none⟩ (.int .i64 b0)).setCell ⟨D, 1, none⟩ (.int .i64 dv)).cell? ⟨B, 5, none⟩ = some (.int .i64 ch) := (set_other (by omega) (set_off (by omega) (set_other (by omega) b5')))
      have mD0 : (((W4.setCell ⟨A, 1, none⟩ (.int .i64 a0)).setCell ⟨B, 1, none⟩ (.int .i64 b0)).setCell ⟨D, 1, none⟩ (.int .i64 dv)).cell? ⟨D, 0, none⟩ = some (.int .i64 cr) := (set_off (by omega) (set_other (by omega) (set_other (by omega) e0')))
      have mD1 : (((W4.setCell ⟨A, 1, none⟩ (.int .i64 a0)).setCell ⟨B, 1, none⟩ (.int .i64 b0)).setCell ⟨D, 1, none⟩ (.int .i64 dv)).cell? ⟨D, 1, none⟩ = some (.int .i64 dv) := (set_same (set_other (by omega) (set_other (by omega) e1')))
      have mD2 : (((W4.setCell ⟨A, 1, none⟩ (.int .i64 a0)).setCell ⟨B, 1, none⟩ (.int .i64 b0)).setCell ⟨D, 1, none⟩ (.int .i64 dv)).cell? ⟨D, 2, none⟩ = some (.int .i64 dl) := (set_off (by omega) (set_other (by omega) (set_other (by omega) e2')))
      have mD3 : (((W4.setCell ⟨A, 1, none⟩ (.int .i64 a0)).setCell ⟨B, 1, none⟩ (.int .i64 b0)).setCell ⟨D, 1, none⟩ (.int .i64 dv)).cell? ⟨D, 3, none⟩ = some (.int .i64 dh) := (set_off (by omega) (set_other (by omega) (set_other (by omega) e3')))
      have mD4 : (((W4.setCell ⟨A, 1, none⟩ (.int .i64 a0)).setCell ⟨B, 1, none⟩ (.int .i64 b0)).setCell ⟨D, 1, none⟩ (.int .i64 dv)).cell? ⟨D, 4, none⟩ = some (.int .i64 cl) := (set_off (by omega) (set_other (by omega) (set_other (by omega) e4')))
      have mD5 : (((W4.setCell ⟨A, 1, none⟩ (.int .i64 a0)).setCell ⟨B, 1, none⟩ (.int .i64 b0)).setCell ⟨D, 1, none⟩ (.int .i64 dv)).cell? ⟨D, 5, none⟩ = some (.int .i64 ch) := (set_off (by omega) (set_other (by omega) (set_other (by omega) e5')))
      have mT0 : (((W4.setCell ⟨A, 1, none⟩ (.int .i64 a0)).setCell ⟨B, 1, none⟩ (.int .i64 b0)).setCell ⟨D, 1, none⟩ (.int .i64 dv)).cell? ⟨T0, 0, none⟩ = some (.int .i64 d0) := (set_other (by omega) (set_other (by omega) (set_other (by omega) t0)))
      have mT1 : (((W4.setCell ⟨A, 1, none⟩ (.int .i64 a0)).setCell ⟨B, 1, none⟩ (.int .i64 b0)).setCell ⟨D, 1, none⟩ (.int .i64 dv)).cell? ⟨T0, 1, none⟩ = some (.int .i64 n0) := (set_other (by omega) (set_other (by omega) (set_other (by omega) t1)))
      have XW7 : Ext w (((W4.setCell ⟨A, 1, none⟩ (.int .i64 a0)).setCell ⟨B, 1, none⟩ (.int .i64 b0)).setCell ⟨D, 1, none⟩ (.int .i64 dv)) := ((XW4.setCell (by omega) _).setCell (by omega) _).setCell (by omega) _
      go_wp2_with fail
      generalize (((W4.setCell ⟨A, 1, none⟩ (.int .i64 a0)).setCell ⟨B, 1, none⟩ (.int .i64 b0)).setCell ⟨D, 1, none⟩ (.int .i64 dv)) = W7 at *
      clear l1 l2 l3 l4 l5 l6 l7 q0 q1 q2 q3 q4 q5 t0 t1 a0' a1' a2' a3' a4' a5' b0' b1' b2' b3' b4' b5' e0' e1' e2' e3' e4' e5' fA fB fD ha0 ha0' k1 k2 k4 k6 k7 k9 k11 XW4 XWA h3 ga gb gd nab nad nbd hTl hBl sW
      have HSC : Hid (∀ w', Ext W7 w' → (w'.cell? ⟨w.heap.size, 0, none⟩ = some (.int .i64 cr) ∧ w'.cell? ⟨w.heap.size, 1, none⟩ = some (.int .i64 va) ∧ w'.cell? ⟨w.heap.size, 2, none⟩ = some (.int .i64 dl) ∧ w'.cell? ⟨w.heap.size, 3, none⟩ = some (.int .i64 dh) ∧ w'.cell? ⟨w.heap.size, 4, none⟩ = some (.int .i64 cl) ∧ w'.cell? ⟨w.heap.size, 5, none⟩ = some (.int .i64 ch) ∧ w'.cell? ⟨T0, 0, none⟩ = some (.int .i64 d0) ∧ w'.cell? ⟨T0, 1, none⟩ = some (.int .i64 n0)) ∧ Ext W7 w') := fun w' hx => ⟨⟨hx.keep mC0, hx.keep mC1, hx.keep mC2, hx.keep mC3, hx.keep mC4, hx.keep mC5, hx.keep mT0, hx.keep mT1⟩, hx⟩
      have HSA : Hid (∀ w', Ext W7 w' → (w'.cell? ⟨A, 0, none⟩ = some (.int .i64 cr) ∧ w'.cell? ⟨A, 1, none⟩ = some (.int .i64 a0) ∧ w'.cell? ⟨A, 2, none⟩ = some (.int .i64 dl) ∧ w'.cell? ⟨A, 3, none⟩ = some (.int .i64 dh) ∧ w'.cell? ⟨A, 4, none⟩ = some (.int .i64 cl) ∧ w'.cell? ⟨A, 5, none⟩ = some (.int .i64 ch) ∧ w'.cell? ⟨T0, 0, none⟩ = some (.int .i64 d0) ∧ w'.cell? ⟨T0, 1, none⟩ = some (.int .i64 n0)) ∧ Ext W7 w') := fun w' hx => ⟨⟨hx.keep mA0, hx.keep mA1, hx.keep mA2, hx.keep mA3, hx.keep mA4, hx.keep mA5, hx.keep mT0, hx.keep mT1⟩, hx⟩
      have HSB : Hid (∀ w', Ext W7 w' → (w'.cell? ⟨B, 0, none⟩ = some (.int .i64 cr) ∧ w'.cell? ⟨B, 1, none⟩ = some (.int .i64 b0) ∧ w'.cell? ⟨B, 2, none⟩ = some (.int .i64 dl) ∧ w'.cell? ⟨B, 3, none⟩ = some (.int .i64 dh) ∧ w'.cell? ⟨B, 4, none⟩ = some (.int .i64 cl) ∧ w'.cell? ⟨B, 5, none⟩ = some (.int .i64 ch) ∧ w'.cell? ⟨T0, 0, none⟩ = some (.int .i64 d0) ∧ w'.cell? ⟨T0, 1, none⟩ = some (.int .i64 n0)) ∧ Ext W7 w') := fun w' hx => ⟨⟨hx.keep mB0, hx.keep mB1, hx.keep mB2, hx.keep mB3, hx.keep mB4, hx.keep mB5, hx.keep mT0, hx.keep mT1⟩, hx⟩
      have HSD : Hid (∀ w', Ext W7 w' → (w'.cell? ⟨D, 0, none⟩ = some (.int .i64 cr) ∧ w'.cell? ⟨D, 1, none⟩ = some (.int .i64 dv) ∧ w'.cell? ⟨D, 2, none⟩ = some (.int .i64 dl) ∧ w'.cell? ⟨D, 3, none⟩ = some (.int .i64 dh) ∧ w'.cell? ⟨D, 4, none⟩ = some (.int .i64 cl) ∧ w'.cell? ⟨D, 5, none⟩ = some (.int .i64 ch) ∧ w'.cell? ⟨T0, 0, none⟩ = some (.int .i64 d0) ∧ w'.cell? ⟨T0, 1, none⟩ = some (.int .i64 n0)) ∧ Ext W7 w') := fun w' hx => ⟨⟨hx.keep mD0, hx.keep mD1, hx.keep mD2, hx.keep mD3, hx.keep mD4, hx.keep mD5, hx.keep mT0, hx.keep mT1⟩, hx⟩
      clear mC0 mC1 mC2 mC3 mC4 mC5 mA0 mA1 mA2 mA3 mA4 mA5 mB0 mB1 mB2 mB3 mB4 mB5 mD0 mD1 mD2 mD3 mD4 mD5 mT0 mT1
      go_region_held3 (fun w' => (w'.cell? ⟨w.heap.size, 0, none⟩ = some (.int .i64 cr) ∧ w'.cell? ⟨w.heap.size, 1, none⟩ = some (.int .i64 va) ∧ w'.cell? ⟨w.heap.size, 2, none⟩ = some (.int .i64 dl) ∧ w'.cell? ⟨w.heap.size, 3, none⟩ = some (.int .i64 dh) ∧ w'.cell? ⟨w.heap.size, 4, none⟩ = some (.int .i64 cl) ∧ w'.cell? ⟨w.heap.size, 5, none⟩ = some (.int .i64 ch) ∧ w'.cell? ⟨T0, 0, none⟩ = some (.int .i64 d0) ∧ w'.cell? ⟨T0, 1, none⟩ = some (.int .i64 n0)) ∧ Ext W7 w')
        ((refine HSC.out _ ?_; (repeat (first | exact Ext.refl _ | (with_reducible assumption) | (with_reducible refine Ext.drew ?_) | (with_reducible refine Ext.alloc ?_ _) | (with_reducible refine Ext.drewN ?_ _) | (with_reducible refine Ext.setCell ?_ (by omega) _) | (with_reducible refine Ext.trans ?_ (by with_reducible assumption))))))
        (first
          | (go_at_call 21; (refine (HTA.out _ (by (repeat (first | exact Ext.refl _ | (with_reducible assumption) | (with_reducible refine Ext.drew ?_) | (with_reducible refine Ext.alloc ?_ _) | (with_reducible refine Ext.drewN ?_ _) | (with_reducible refine Ext.setCell ?_ (by omega) _) | (with_reducible refine Ext.trans ?_ (by with_reducible assumption)))))).mono ?_); rintro e w3 ⟨v3, rfl, hv3, hx3⟩)
          | (go_at_call 28; (refine (HCL.out ⟨cr, va, dl, dh, cl, ch⟩ _).mono ?_); rintro e w4 ⟨rfl, hx4⟩)
          | (go_at_call 34; (refine (HTR.out _ _ _).mono ?_); rintro e w6 ⟨rfl, hx6⟩)
          | (go_at_call 43; (refine (HPV.out _ _ (hv3.ext (by (repeat (first | exact Ext.refl _ | (with_reducible assumption) | (with_reducible refine Ext.drew ?_) | (with_reducible refine Ext.alloc ?_ _) | (with_reducible refine Ext.drewN ?_ _) | (with_reducible refine Ext.setCell ?_ (by omega) _) | (with_reducible refine Ext.trans ?_ (by with_reducible assumption))))))).mono ?_); rintro e w5 ⟨rfl, hx5⟩))
      have QY1 : Ext W7 w5 := by (repeat (first | exact Ext.refl _ | (with_reducible assumption) | (with_reducible refine Ext.drew ?_) | (with_reducible refine Ext.alloc ?_ _) | (with_reducible refine Ext.drewN ?_ _) | (with_reducible refine Ext.setCell ?_ (by omega) _) | (with_reducible refine Ext.trans ?_ (by with_reducible assumption))))
      clear hv3 hx3 hx4 hx5 hx6
      obtain ⟨Y1, rfl⟩ : ∃ x, x = w5 := ⟨_, rfl⟩
      go_wp2_with fail
      go_region_held3 (fun w' => (w'.cell? ⟨A, 0, none⟩ = some (.int .i64 cr) ∧ w'.cell? ⟨A, 1, none⟩ = some (.int .i64 a0) ∧ w'.cell? ⟨A, 2, none⟩ = some (.int .i64 dl) ∧ w'.cell? ⟨A, 3, none⟩ = some (.int .i64 dh) ∧ w'.cell? ⟨A, 4, none⟩ = some (.int .i64 cl) ∧ w'.cell? ⟨A, 5, none⟩ = some (.int .i64 ch) ∧ w'.cell? ⟨T0, 0, none⟩ = some (.int .i64 d0) ∧ w'.cell? ⟨T0, 1, none⟩ = some (.int .i64 n0)) ∧ Ext W7 w')
        ((refine HSA.out _ ?_; (repeat (first | exact Ext.refl _ | (with_reducible assumption) | (with_reducible refine Ext.drew ?_) | (with_reducible refine Ext.alloc ?_ _) | (with_reducible refine Ext.drewN ?_ _) | (with_reducible refine Ext.setCell ?_ (by omega) _) | (with_reducible refine Ext.trans ?_ (by with_reducible assumption))))))
        (first
          | (go_at_call 21; (refine (HTA.out _ (by (repeat (first | exact Ext.refl _ | (with_reducible assumption) | (with_reducible refine Ext.drew ?_) | (with_reducible refine Ext.alloc ?_ _) | (with_reducible refine Ext.drewN ?_ _) | (with_reducible refine Ext.setCell ?_ (by omega) _) | (with_reducible refine Ext.trans ?_ (by with_reducible assumption)))))).mono ?_); rintro e w3 ⟨v3, rfl, hv3, hx3⟩)
          | (go_at_call 28; (refine (HCL.out ⟨cr, a0, dl, dh, cl, ch⟩ _).mono ?_); rintro e w4 ⟨rfl, hx4⟩)
          | (go_at_call 34; (refine (HTR.out _ _ _).mono ?_); rintro e w6 ⟨rfl, hx6⟩)
          | (go_at_call 43; (refine (HPX.out _ _ (hv3.ext (by (repeat (first | exact Ext.refl _ | (with_reducible assumption) | (with_reducible refine Ext.drew ?_) | (with_reducible refine Ext.alloc ?_ _) | (with_reducible refine Ext.drewN ?_ _) | (with_reducible refine Ext.setCell ?_ (by omega) _) | (with_reducible refine Ext.trans ?_ (by with_reducible assumption))))))).mono ?_); rintro e w5 ⟨rfl, hx5⟩))
      have QY2 : Ext W7 w5 := by (repeat (first | exact Ext.refl _ | (with_reducible assumption) | (with_reducible refine Ext.drew ?_) | (with_reducible refine Ext.alloc ?_ _) | (with_reducible refine Ext.drewN ?_ _) | (with_reducible refine Ext.setCell ?_ (by omega) _) | (with_reducible refine Ext.trans ?_ (by with_reducible assumption))))
      clear hv3 hx3 hx4 hx5 hx6
      obtain ⟨Y2, rfl⟩ : ∃ x, x = w5 := ⟨_, rfl⟩
      go_wp2_with fail
      go_region_held3 (fun w' => (w'.cell? ⟨B, 0, none⟩ = some (.int .i64 cr) ∧ w'.cell? ⟨B, 1, none⟩ = some (.int .i64 b0) ∧ w'.cell? ⟨B, 2, none⟩ = some (.int .i64 dl) ∧ w'.cell? ⟨B, 3, none⟩ = some (.int .i64 dh) ∧ w'.cell? ⟨B, 4, none⟩ = some (.int .i64 cl) ∧ w'.cell? ⟨B, 5, none⟩ = some (.int .i64 ch) ∧ w'.cell? ⟨T0, 0, none⟩ = some (.int .i64 d0) ∧ w'.cell? ⟨T0, 1, none⟩ = some (.int .i64 n0)) ∧ Ext W7 w')
        ((refine HSB.out _ ?_; (repeat (first | exact Ext.refl _ | (with_reducible assumption) | (with_reducible refine Ext.drew ?_) | (with_reducible refine Ext.alloc ?_ _) | (with_reducible refine Ext.drewN ?_ _) | (with_reducible refine Ext.setCell ?_ (by omega) _) | (with_reducible refine Ext.trans ?_ (by with_reducible assumption))))))
        (first
          | (go_at_call 21; (refine (HTA.out _ (by (repeat (first | exact Ext.refl _ | (with_reducible assumption) | (with_reducible refine Ext.drew ?_) | (with_reducible refine Ext.alloc ?_ _) | (with_reducible refine Ext.drewN ?_ _) | (with_reducible refine Ext.setCell ?_ (by omega) _) | (with_reducible refine Ext.trans ?_ (by with_reducible assumption)))))).mono ?_); rintro e w3 ⟨v3, rfl, hv3, hx3⟩)
          | (go_at_call 28; (refine (HCL.out ⟨cr, b0, dl, dh, cl, ch⟩ _).mono ?_); rintro e w4 ⟨rfl, hx4⟩)
          | (go_at_call 34; (refine (HTR.out _ _ _).mono ?_); rintro e w6 ⟨rfl, hx6⟩)
          | (go_at_call 43; (refine (HPB.out _ _ (hv3.ext (by (repeat (first | exact Ext.refl _ | (with_reducible assumption) | (with_reducible refine Ext.drew ?_) | (with_reducible refine Ext.alloc ?_ _) | (with_reducible refine Ext.drewN ?_ _) | (with_reducible refine Ext.setCell ?_ (by omega) _) | (with_reducible refine Ext.trans ?_ (by with_reducible assumption))))))).mono ?_); rintro e w5 ⟨rfl, hx5⟩))
      have QY3 : Ext W7 w5 := by (repeat (first | exact Ext.refl _ | (with_reducible assumption) | (with_reducible refine Ext.drew ?_) | (with_reducible refine Ext.alloc ?_ _) | (with_reducible refine Ext.drewN ?_ _) | (with_reducible refine Ext.setCell ?_ (by omega) _) | (with_reducible refine Ext.trans ?_ (by with_reducible assumption))))
      clear hv3 hx3 hx4 hx5 hx6
      obtain ⟨Y3, rfl⟩ : ∃ x, x = w5 := ⟨_, rfl⟩
      go_wp2_with fail
      go_region_held3 (fun w' => (w'.cell? ⟨D, 0, none⟩ = some (.int .i64 cr) ∧ w'.cell? ⟨D, 1, none⟩ = some (.int .i64 dv) ∧ w'.cell? ⟨D, 2, none⟩ = some (.int .i64 dl) ∧ w'.cell? ⟨D, 3, none⟩ = some (.int .i64 dh) ∧ w'.cell? ⟨D, 4, none⟩ = some (.int .i64 cl) ∧ w'.cell? ⟨D, 5, none⟩ = some (.int .i64 ch) ∧ w'.cell? ⟨T0, 0, none⟩ = some (.int .i64 d0) ∧ w'.cell? ⟨T0, 1, none⟩ = some (.int .i64 n0)) ∧ Ext W7 w')
        ((refine HSD.out _ ?_; (repeat (first | exact Ext.refl _ | (with_reducible assumption) | (with_reducible refine Ext.drew ?_) | (with_reducible refine Ext.alloc ?_ _) | (with_reducible refine Ext.drewN ?_ _) | (with_reducible refine Ext.setCell ?_ (by omega) _) | (with_reducible refine Ext.trans ?_ (by with_reducible assumption))))))
        (first
          | (go_at_call 21; (refine (HTA.out _ (by (repeat (first | exact Ext.refl _ | (with_reducible assumption) | (with_reducible refine Ext.drew ?_) | (with_reducible refine Ext.alloc ?_ _) | (with_reducible refine Ext.drewN ?_ _) | (with_reducible refine Ext.setCell ?_ (by omega) _) | (with_reducible refine Ext.trans ?_ (by with_reducible assumption)))))).mono ?_); rintro e w3 ⟨v3, rfl, hv3, hx3⟩)
          | (go_at_call 28; (refine (HCL.out ⟨cr, dv, dl, dh, cl, ch⟩ _).mono ?_); rintro e w4 ⟨rfl, hx4⟩)
          | (go_at_call 34; (refine (HTR.out _ _ _).mono ?_); rintro e w6 ⟨rfl, hx6⟩)
          | (go_at_call 43; (refine (HPD.out _ _ (hv3.ext (by (repeat (first | exact Ext.refl _ | (with_reducible assumption) | (with_reducible refine Ext.drew ?_) | (with_reducible refine Ext.alloc ?_ _) | (with_reducible refine Ext.drewN ?_ _) | (with_reducible refine Ext.setCell ?_ (by omega) _) | (with_reducible refine Ext.trans ?_ (by with_reducible assumption))))))).mono ?_); rintro e w5 ⟨rfl, hx5⟩))
      have QY4 : Ext W7 w5 := by (repeat (first | exact Ext.refl _ | (with_reducible assumption) | (with_reducible refine Ext.drew ?_) | (with_reducible refine Ext.alloc ?_ _) | (with_reducible refine Ext.drewN ?_ _) | (with_reducible refine Ext.setCell ?_ (by omega) _) | (with_reducible refine Ext.trans ?_ (by with_reducible assumption))))
      clear hv3 hx3 hx4 hx5 hx6
      obtain ⟨Y4, rfl⟩ : ∃ x, x = w5 := ⟨_, rfl⟩
      go_wp2_with fail
      go_region_held3 (fun w' => (w'.cell? ⟨w.heap.size, 0, none⟩ = some (.int .i64 cr) ∧ w'.cell? ⟨w.heap.size, 1, none⟩ = some (.int .i64 va) ∧ w'.cell? ⟨w.heap.size, 2, none⟩ = some (.int .i64 dl) ∧ w'.cell? ⟨w.heap.size, 3, none⟩ = some (.int .i64 dh) ∧ w'.cell? ⟨w.heap.size, 4, none⟩ = some (.int .i64 cl) ∧ w'.cell? ⟨w.heap.size, 5, none⟩ = some (.int .i64 ch) ∧ w'.cell? ⟨T0, 0, none⟩ = some (.int .i64 d0) ∧ w'.cell? ⟨T0, 1, none⟩ = some (.int .i64 n0)) ∧ Ext W7 w')
        ((refine HSC.out _ ?_; (repeat (first | exact Ext.refl _ | (with_reducible assumption) | (with_reducible refine Ext.drew ?_) | (with_reducible refine Ext.alloc ?_ _) | (with_reducible refine Ext.drewN ?_ _) | (with_reducible refine Ext.setCell ?_ (by omega) _) | (with_reducible refine Ext.trans ?_ (by with_reducible assumption))))))
        (first
          | (go_at_call 21; (refine (HTA.out _ (by (repeat (first | exact Ext.refl _ | (with_reducible assumption) | (with_reducible refine Ext.drew ?_) | (with_reducible refine Ext.alloc ?_ _) | (with_reducible refine Ext.drewN ?_ _) | (with_reducible refine Ext.setCell ?_ (by omega) _) | (with_reducible refine Ext.trans ?_ (by with_reducible assumption)))))).mono ?_); rintro e w3 ⟨v3, rfl, hv3, hx3⟩)
          | (go_at_call 20; (refine (HPA.out _ _ hv3).mono ?_); rintro e w5 ⟨rfl, hx5⟩))
      have QY5 : Ext W7 w5 := by (repeat (first | exact Ext.refl _ | (with_reducible assumption) | (with_reducible refine Ext.drew ?_) | (with_reducible refine Ext.alloc ?_ _) | (with_reducible refine Ext.drewN ?_ _) | (with_reducible refine Ext.setCell ?_ (by omega) _) | (with_reducible refine Ext.trans ?_ (by with_reducible assumption))))
      clear hv3 hx3 hx5
      obtain ⟨⟨-, r1, -, -, -, -, -, -⟩, -⟩ := HSD.out w5 QY5
      have hd100 := HD100.out
      have hz : dv * p / 100 = dq * p := by
        rw [hd100.1, Int.mul_assoc]
        exact Int.mul_ediv_cancel_left _ (by decide)
      have hsum : va * p = a0 * p + b0 * p := by rw [← Int.add_mul]; congr 1; have := HB0.out; omega
      have pv := pay_wrap hval.1 hval.2 hpb.1 hpb.2
      have pa := pay_wrap ha1 (show a0 ≤ 100000 by omega) hpb.1 hpb.2
      have pb := pay_wrap (show 0 ≤ b0 by have := HB0.out; omega) (show b0 ≤ 100000 by have := HB0.out; omega) hpb.1 hpb.2
      have pq := pay_wrap hd100.2.1 (show dq ≤ 100000 by omega) hpb.1 hpb.2
      rw [hz]
      clear HSC HSA HSB HSD HPV HPX HPB HPD HPY HPA HTA HCL HTR HPK hz
      generalize va * p = pva at *
      generalize a0 * p = paa at *
      generalize b0 * p = pbb at *
      generalize hzz : dq * p = zz at *
      obtain ⟨xn, hxn⟩ : ∃ xn, xn = pva / 100 := ⟨_, rfl⟩
      obtain ⟨xx, hxx⟩ : ∃ xx, xx = paa / 100 := ⟨_, rfl⟩
      obtain ⟨xy, hxy⟩ : ∃ xy, xy = pbb / 100 := ⟨_, rfl⟩
      have hfa : xx + xy ≤ xn ∧ xn - 1 ≤ xx + xy ∧ 0 ≤ xx ∧ 0 ≤ xy ∧ 0 ≤ xn ∧ xn ≤ 100000 ∧ xx ≤ 100000 ∧ xy ≤ 100000 := by omega
      rw [← hxn, ← hxx, ← hxy]
      obtain ⟨g1, g2, g3, g4, g5, g6, g7, g8⟩ := hfa
      clear hxn hxx hxy hsum pv pa pb
      have c1 : IntKind.i64.wrap (xx + xy) = xx + xy := IntWalk.i64_in _ (by omega)
      have c2 : IntKind.i64.wrap (xn - 1) = xn - 1 := IntWalk.i64_in _ (by omega)
      have c3 : dv.tdiv 100 = dq := by rw [Int.tdiv_eq_ediv_of_nonneg (by omega)]; omega
      have c4 : dv / 100 = dq := by omega
      have c5 : IntKind.i64.wrap dq = dq := IntWalk.i64_in _ (by omega)
      have c6 : IntKind.i64.wrap zz = zz := IntWalk.i64_in _ (by omega)
      have c7 : xn ≤ xx + xy + 1 := by omega
      clear HDQ HB0 hd100 HD100
      go_wp2_with fail
      (with_reducible refine (HAW.out _).mono ?_)
      rintro e w9 ⟨rfl, hx9⟩
      go_wp2_with fail
      go_ret
      exact ⟨rfl, XW7.trans (QY5.trans hx9)⟩
end Go.Proofs.Ytfjecbfcnngacaa
