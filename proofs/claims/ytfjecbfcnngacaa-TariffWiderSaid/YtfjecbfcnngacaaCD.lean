/- The walk of TariffWider. -/
import Derived.Test.YtfjecbfcnngacaaCC
import Derived.Test.YtfjecbfcnngacaaAG
import Derived.RegionTactic
import Derived.BigRegion
import Derived.Deep.CutRange
import Derived.Deep.DeepCutAuto
set_option pp.deepTerms true
set_option pp.maxSteps 10000000
namespace Go.Proofs.Ytfjecbfcnngacaa
open Go.RowKit Go.Hs
attribute [local irreducible] World.setCell World.alloc

/-- One box of a claim holds what it held but for a day and a count, all else is kept. -/
structure YBox (W : World) (B : Nat) (u : V6) (w : World) : Prop where
  c : Cell6 w B 0 u
  but : ExtBut B W w
theorem but_keep {r : Nat} {w w' : World} (h : ExtBut r w w') {b o : Nat} {v : Value} (hr : b ≠ r) (hc : w.cell? ⟨b, o, none⟩ = some v) : w'.cell? ⟨b, o, none⟩ = some v := by
  rw [World.cell?_of_block (w := w) (a := ⟨b, o, none⟩) (h.block b (lt_of_cell (a := ⟨b, o, none⟩) hc) hr)]; exact hc
theorem but_set {r i : Nat} {w w' : World} {x : Value} (h : ExtBut r w w') : ExtBut r w (w'.setCell ⟨r, i, none⟩ x) :=
  have E : Below 0 w' (w'.setCell ⟨r, i, none⟩ x) := Below.setCell (Below.refl 0 w') (Nat.zero_le _) x
  ⟨E.os.trans h.os, E.tape.trans h.tape, E.output.trans h.output, Nat.le_trans h.size E.size, fun k hk hr => (Below.heap_setCell _ _ _ _ hr).trans (h.block k hk hr)⟩

set_option maxRecDepth 100000 in
set_option maxHeartbeats 8000000 in
theorem walk_TariffWider (v : Value) (l : List Tar) (c : Cla) (by0 day count : Int) (w : World) (hv : TarsW w v l) (_ : ClaOK c) (g1 : (Lit.int .u8 by0).wf = true) (g2 : (Lit.int .u8 day).wf = true) (g3 : (Lit.int .u8 count).wf = true) :
    Calls Try.prog 10 #[v, c.u.val, .int .u8 by0, .int .u8 day, .int .u8 count] w fun e w' => e = .returned (.bool true) ∧ Ext w w' := by
  have HAW : Hid (∀ W, Calls Try.prog 19 #[] W fun e w' => e = .returned (.bool true) ∧ Ext W w') := awake_any
  have b1 := u8_bounds' g1
  have b2 := u8_bounds' g2
  have b3 := u8_bounds' g3
  clear g1 g2 g3
  have X : Ext w (w.alloc (.cells #[.int .i64 c.crop, .int .i64 c.value, .int .i64 c.dlo, .int .i64 c.dhi, .int .i64 c.clo, .int .i64 c.chi] 39)) := by (repeat (first | exact Ext.refl _ | (with_reducible assumption) | (with_reducible refine Ext.drew ?_) | (with_reducible refine Ext.alloc ?_ _) | (with_reducible refine Ext.drewN ?_ _) | (with_reducible refine Ext.setCell ?_ (by omega) _) | (with_reducible refine Ext.trans ?_ (by with_reducible assumption))))
  have HFI : Hid (∀ c W, Ext w W → Calls Try.prog 41 #[v, c.u.val] W fun e w' => e = .returned (.bool (fineB l c)) ∧ Ext W w') := fun c W hx => fine_any v l c W (TarsW.ext hx hv)
  have hfi := HFI.out c _ X
  cases ht : fineB l c with
  | false =>
    rw [ht] at hfi
    obtain ⟨a, k, rfl, -⟩ := hv
    obtain ⟨cr, va, dl, dh, cl, ch⟩ := c
    clear ht HFI
    go_enter Try.func10, Try.ntmps10
    go_wp2_with fail
    (with_reducible refine hfi.mono ?_)
    rintro e w1 ⟨rfl, hx1⟩
    go_wp2_with fail
    (with_reducible refine (HAW.out _).mono ?_)
    rintro e w2 ⟨rfl, hx2⟩
    go_wp2_with fail
    go_ret
    exact ⟨rfl, X.trans (hx1.trans hx2)⟩
  | true =>
    rw [ht] at hfi
    obtain ⟨hth, hl, hc⟩ := fine_of ht
    have hvv := hv.toV hth
    have hday := hc.day
    have hcnt := hc.count
    have pd := pick_bd hday.2.1 b2.1
    have pn := pick_bd hcnt.2.1 b3.1
    have HPK : Hid (∀ W, Calls Try.prog 42 #[c.u.val, .int .u8 day, .int .u8 count] W fun e w' => e = .returned (.agg #[.int .i64 (pickX c.dlo c.dhi day), .int .i64 (pickX c.clo c.chi count)]) ∧ Ext W w') := fun W => picked_any l c day count W hc b2.1 b2.2 b3.1 b3.2
    have HTA : Hid (∀ W, Ext w W → Calls Try.prog 21 #[v] W fun e w' => ∃ v', e = .returned v' ∧ TarsV w' v' l ∧ Ext W w') := fun W hx => Tariffs_any v l W (hvv.ext hx) hth
    have HCL : Hid (∀ c' : Cla, ∀ W, Calls Try.prog 28 #[c'.u.val] W fun e w' => e = .returned c'.u.val ∧ Ext W w') := fun c' W => Claim_any c' W
    have HTR : Hid (∀ a b W, Calls Try.prog 34 #[.agg #[.int .i64 a, .int .i64 b]] W fun e w' => e = .returned (.agg #[.int .i64 a, .int .i64 b]) ∧ Ext W w') := Truth_any
    have HBT : Hid (∀ a b W, Calls Try.prog 44 #[.int .i64 a, .int .i64 b] W fun e w' => e = .returned (.agg #[.int .i64 a, .int .i64 b]) ∧ Ext W w') := between_any
    obtain ⟨o1, o2, o3, o4⟩ := one_ends (l := l) hc pd pn
    have HB1 : Hid (∀ v' W, TarsV W v' l → Calls Try.prog 27 #[v', c.u.val] W fun e w' => e = .returned (.tuple #[.agg #[.int .i64 (endsS l c).lo, .int .i64 (endsS l c).hi], .int .i64 0]) ∧ Ext W w') := fun v' W h => BoundsG_any hl hc h
    have HB2 : Hid (∀ v' W, TarsV W v' l → Calls Try.prog 27 #[v', (Cla.u ⟨c.crop, c.value, pickX c.dlo c.dhi day, pickX c.dlo c.dhi day, pickX c.clo c.chi count, pickX c.clo c.chi count⟩).val] W fun e w' => e = .returned (.tuple #[.agg #[.int .i64 (payS l c (pickX c.dlo c.dhi day) (pickX c.clo c.chi count)), .int .i64 (payS l c (pickX c.dlo c.dhi day) (pickX c.clo c.chi count))], .int .i64 0]) ∧ Ext W w') := fun v' W h => by
      have := BoundsG_any hl (one_ok hc pd pn) h
      rw [o1, o2] at this
      exact this
    have HPY : Hid (∀ v' W, TarsV W v' l → Calls Try.prog 43 #[v', c.u.val, .agg #[.int .i64 (pickX c.dlo c.dhi day), .int .i64 (pickX c.clo c.chi count)]] W fun e w' => e = .returned (.tuple #[.int .i64 (payS l c (pickX c.dlo c.dhi day) (pickX c.clo c.chi count)), .int .i64 0]) ∧ Ext W w') := fun v' W h => PayG_any hl hc pd pn h
    have HWI : Hid (∀ xl xh yl yh, xl ≤ c.dlo → c.dhi ≤ xh → yl ≤ c.clo → c.chi ≤ yh → fineB l ⟨c.crop, c.value, xl, xh, yl, yh⟩ = true → ∃ wl wh, wl ≤ (endsS l c).lo ∧ (endsS l c).hi ≤ wh ∧
        ∀ v' W, TarsV W v' l → Calls Try.prog 27 #[v', (Cla.u ⟨c.crop, c.value, xl, xh, yl, yh⟩).val] W fun e w' => e = .returned (.tuple #[.agg #[.int .i64 wl, .int .i64 wh], .int .i64 0]) ∧ Ext W w') := Lib.hid (fun xl xh yl yh h1 h2 h3 h4 hf => by
      have hx := (fine_of hf).2.2
      have := wider_ends hc hx rfl rfl ⟨h1, h2⟩ ⟨h3, h4⟩
      exact ⟨_, _, this.1, this.2, fun v' W h => BoundsG_any hl hx h⟩)
    clear hvv ht hth hl hc o1 o2
    obtain ⟨a, k, rfl, -⟩ := hv
    generalize payS l c (pickX c.dlo c.dhi day) (pickX c.clo c.chi count) = n at *
    generalize pickX c.dlo c.dhi day = d0 at *
    generalize pickX c.clo c.chi count = n0 at *
    generalize (endsS l c).lo = rL at *
    generalize (endsS l c).hi = rH at *
    obtain ⟨cr, va, dl, dh, cl, ch⟩ := c
    simp only at *
    clear b2 b3
    obtain ⟨p1, hp1⟩ : ∃ x, x = by0.tmod 3 := ⟨_, rfl⟩
    obtain ⟨p2, hp2⟩ : ∃ x, x = by0.tdiv 3 := ⟨_, rfl⟩
    obtain ⟨p3, hp3⟩ : ∃ x, x = p2.tmod 3 := ⟨_, rfl⟩
    obtain ⟨p4, hp4⟩ : ∃ x, x = by0.tdiv 9 := ⟨_, rfl⟩
    obtain ⟨p5, hp5⟩ : ∃ x, x = p4.tmod 9 := ⟨_, rfl⟩
    obtain ⟨p6, hp6⟩ : ∃ x, x = by0.tdiv 81 := ⟨_, rfl⟩
    have k1 : p1 = by0 % 3 := by rw [hp1, Int.tmod_eq_emod_of_nonneg b1.1]
    have k2 : p2 = by0 / 3 := by rw [hp2, Int.tdiv_eq_ediv_of_nonneg b1.1]
    have k3 : p3 = p2 % 3 := by rw [hp3, Int.tmod_eq_emod_of_nonneg (by omega)]
    have k4 : p4 = by0 / 9 := by rw [hp4, Int.tdiv_eq_ediv_of_nonneg b1.1]
    have k5 : p5 = p4 % 9 := by rw [hp5, Int.tmod_eq_emod_of_nonneg (by omega)]
    have k6 : p6 = by0 / 81 := by rw [hp6, Int.tdiv_eq_ediv_of_nonneg b1.1]
    have w0 : IntKind.i64.wrap by0 = by0 := IntWalk.i64_in _ (by omega)
    have w1' : IntKind.i64.wrap p1 = p1 := IntWalk.i64_in _ (by omega)
    have w2' : IntKind.i64.wrap p2 = p2 := IntWalk.i64_in _ (by omega)
    have w3' : IntKind.i64.wrap p3 = p3 := IntWalk.i64_in _ (by omega)
    have w4' : IntKind.i64.wrap p4 = p4 := IntWalk.i64_in _ (by omega)
    have w5' : IntKind.i64.wrap p5 = p5 := IntWalk.i64_in _ (by omega)
    have w6' : IntKind.i64.wrap p6 = p6 := IntWalk.i64_in _ (by omega)
    have w7' : IntKind.i64.wrap (p6 * 7) = p6 * 7 := IntWalk.i64_in _ (by omega)
    have w8' : IntKind.i64.wrap (dl - p1) = dl - p1 := IntWalk.i64_in _ (by omega)
    have w9' : IntKind.i64.wrap (dh + p3) = dh + p3 := IntWalk.i64_in _ (by omega)
    have wa' : IntKind.i64.wrap (cl - p5) = cl - p5 := IntWalk.i64_in _ (by omega)
    have wb' : IntKind.i64.wrap (ch + p6 * 7) = ch + p6 * 7 := IntWalk.i64_in _ (by omega)
    obtain ⟨xl, hxl⟩ : ∃ x, x = (if (0 : Int) < dl - p1 then dl - p1 else 0) := ⟨_, rfl⟩
    obtain ⟨xh, hxh⟩ : ∃ x, x = (if dh + p3 < 120 then dh + p3 else 120) := ⟨_, rfl⟩
    obtain ⟨yl, hyl⟩ : ∃ x, x = (if (0 : Int) < cl - p5 then cl - p5 else 0) := ⟨_, rfl⟩
    obtain ⟨yh, hyh⟩ : ∃ x, x = (if ch + p6 * 7 < 100 then ch + p6 * 7 else 100) := ⟨_, rfl⟩
    have m1 : ∀ w, (Builtin.max_ #[3, 3] 3 #[.int .i64 0, .int .i64 (dl - p1)]).run Try.prog w = .ok (.int .i64 xl) w := cmax_i64 hxl _ _
    have m2 : ∀ w, (Builtin.min_ #[3, 3] 3 #[.int .i64 120, .int .i64 (dh + p3)]).run Try.prog w = .ok (.int .i64 xh) w := cmin_i64 hxh _ _
    have m3 : ∀ w, (Builtin.max_ #[3, 3] 3 #[.int .i64 0, .int .i64 (cl - p5)]).run Try.prog w = .ok (.int .i64 yl) w := cmax_i64 hyl _ _
    have m4 : ∀ w, (Builtin.min_ #[3, 3] 3 #[.int .i64 100, .int .i64 (ch + p6 * 7)]).run Try.prog w = .ok (.int .i64 yh) w := cmin_i64 hyh _ _
    have j1 : xl ≤ dl := by rw [hxl]; split <;> omega
    have j2 : dh ≤ xh := by rw [hxh]; split <;> omega
    have j3 : yl ≤ cl := by rw [hyl]; split <;> omega
    have j4 : ch ≤ yh := by rw [hyh]; split <;> omega
    have HJ := Lib.hid (HWI.out xl xh yl yh j1 j2 j3 j4)
    clear hxl hxh hyl hyh j1 j2 j3 j4 HWI k1 k2 k3 k4 k5 k6
    have r1 := hp1.symm
    have r2 := hp2.symm
    have r3 := hp3.symm
    have r4 := hp4.symm
    have r5 := hp5.symm
    have r6 := hp6.symm
    clear hp1 hp2 hp3 hp4 hp5 hp6
    have hc0 : Cell6 (w.alloc (.cells #[.int .i64 cr, .int .i64 va, .int .i64 dl, .int .i64 dh, .int .i64 cl, .int .i64 ch] 39)) w.heap.size 0 ⟨.int .i64 cr, .int .i64 va, .int .i64 dl, .int .i64 dh, .int .i64 cl, .int .i64 ch⟩ := by simp [Cell6]
    go_enter Try.func10, Try.ntmps10
    go_wp2_with fail
    (with_reducible refine hfi.mono ?_)
    rintro e w1 ⟨rfl, hx1⟩
    clear hfi
    have X1 : Ext w w1 := X.trans hx1
    have hc1 := Cell6.ext hx1 _ _ _ hc0
    simp only [Cell6, Nat.zero_add] at hc1
    obtain ⟨q0, q1, q2, q3, q4, q5⟩ := hc1
    have hBl : w.heap.size < w1.heap.size := lt_of_cell q0
    clear hc0 X hx1
    generalize hBB : w.heap.size = B0 at *
    go_upto_region 3 with fail
    go_cut [11, 12] from 27 to 28 (fun sA sB wx => ∃ A B, sA = .pointer (some ⟨A, 0, none⟩) ∧ sB = .pointer (some ⟨B, 0, none⟩) ∧ TwoB w1 ⟨cr, va, dl, dh, cl, ch⟩ A B wx)
    case first =>
      have HSA : Hid (∀ w', Ext w1 w' → (w'.cell? ⟨B0, 0, none⟩ = some (.int .i64 cr) ∧ w'.cell? ⟨B0, 1, none⟩ = some (.int .i64 va) ∧ w'.cell? ⟨B0, 2, none⟩ = some (.int .i64 dl) ∧ w'.cell? ⟨B0, 3, none⟩ = some (.int .i64 dh) ∧ w'.cell? ⟨B0, 4, none⟩ = some (.int .i64 cl) ∧ w'.cell? ⟨B0, 5, none⟩ = some (.int .i64 ch)) ∧ Ext w1 w') := fun w' hx => ⟨⟨hx.keep q0, hx.keep q1, hx.keep q2, hx.keep q3, hx.keep q4, hx.keep q5⟩, hx⟩
      clear q0 q1 q2 q3 q4 q5 HAW HFI HPK HTA HCL HTR HBT HB1 HB2 HPY HJ m1 m2 m3 m4 r1 r2 r3 r4 r5 r6 w0 w1' w2' w3' w4' w5' w6' w7' w8' w9' wa' wb' pd pn o3 o4 hday hcnt b1 X1
      go_region_held3 (fun w' => (w'.cell? ⟨B0, 0, none⟩ = some (.int .i64 cr) ∧ w'.cell? ⟨B0, 1, none⟩ = some (.int .i64 va) ∧ w'.cell? ⟨B0, 2, none⟩ = some (.int .i64 dl) ∧ w'.cell? ⟨B0, 3, none⟩ = some (.int .i64 dh) ∧ w'.cell? ⟨B0, 4, none⟩ = some (.int .i64 cl) ∧ w'.cell? ⟨B0, 5, none⟩ = some (.int .i64 ch)) ∧ Ext w1 w')
        ((refine HSA.out _ ?_; (repeat (first | exact Ext.refl _ | (with_reducible assumption) | (with_reducible refine Ext.drew ?_) | (with_reducible refine Ext.alloc ?_ _) | (with_reducible refine Ext.drewN ?_ _) | (with_reducible refine Ext.setCell ?_ (by omega) _) | (with_reducible refine Ext.trans ?_ (by with_reducible assumption))))))
        (fail)
      all_goals
        go_wp2_with fail
        go_meet
        exact ⟨_, _, rfl, rfl, ⟨by simp [go_sem, Cell6], by simp [go_sem, Cell6], fun o => by simp [go_sem], fun o => by simp [go_sem], by omega, by omega, by omega, by (repeat (first | exact Ext.refl _ | (with_reducible assumption) | (with_reducible refine Ext.drew ?_) | (with_reducible refine Ext.alloc ?_ _) | (with_reducible refine Ext.drewN ?_ _) | (with_reducible refine Ext.setCell ?_ (by omega) _) | (with_reducible refine Ext.trans ?_ (by with_reducible assumption))))⟩⟩
    case rest =>
      obtain ⟨A, B, rfl, rfl, h2⟩ := hcut
      obtain ⟨W4, rfl⟩ : ∃ x, x = wc := ⟨_, rfl⟩
      have X4 : Ext w W4 := X1.trans h2.ext
      have hA : B0 < A := by have := h2.ga; omega
      have hB : B0 < B := by have := h2.gb; omega
      have hAB := h2.ab
      have hAB' : B ≠ A := fun e => hAB e.symm
      replace q0 := (h2.ext).keep q0
      replace q1 := (h2.ext).keep q1
      replace q2 := (h2.ext).keep q2
      replace q3 := (h2.ext).keep q3
      replace q4 := (h2.ext).keep q4
      replace q5 := (h2.ext).keep q5
      have a := h2.a
      have b := h2.b
      simp only [Cell6, Nat.zero_add] at a b
      obtain ⟨a0, a1, a2, a3, a4, a5⟩ := a
      obtain ⟨b0, b1, b2, b3, b4, b5⟩ := b
      have fa2 := h2.fa 2
      have fa3 := h2.fa 3
      have HFA := Lib.hid h2.fa
      have HFB := Lib.hid h2.fb
      clear X1 h2
      go_upto_region 5 with fail
      obtain ⟨W5, hW5⟩ : ∃ x, x = ((W4.setCell ⟨A, 2, none⟩ (.int .i64 xl)).setCell ⟨A, 3, none⟩ (.int .i64 xh)) := ⟨_, rfl⟩
      rw [← hW5]
      have X5 : Ext w W5 := by rw [hW5]; exact (X4.setCell (by omega) _).setCell (by omega) _
      replace q0 : W5.cell? ⟨B0, 0, none⟩ = some (.int .i64 cr) := by rw [hW5]; exact set_other (by omega) (set_other (by omega) q0)
      replace q1 : W5.cell? ⟨B0, 1, none⟩ = some (.int .i64 va) := by rw [hW5]; exact set_other (by omega) (set_other (by omega) q1)
      replace q2 : W5.cell? ⟨B0, 2, none⟩ = some (.int .i64 dl) := by rw [hW5]; exact set_other (by omega) (set_other (by omega) q2)
      replace q3 : W5.cell? ⟨B0, 3, none⟩ = some (.int .i64 dh) := by rw [hW5]; exact set_other (by omega) (set_other (by omega) q3)
      replace q4 : W5.cell? ⟨B0, 4, none⟩ = some (.int .i64 cl) := by rw [hW5]; exact set_other (by omega) (set_other (by omega) q4)
      replace q5 : W5.cell? ⟨B0, 5, none⟩ = some (.int .i64 ch) := by rw [hW5]; exact set_other (by omega) (set_other (by omega) q5)
      replace b0 : W5.cell? ⟨B, 0, none⟩ = some (.int .i64 cr) := by rw [hW5]; exact set_other (by omega) (set_other (by omega) b0)
      replace b1 : W5.cell? ⟨B, 1, none⟩ = some (.int .i64 va) := by rw [hW5]; exact set_other (by omega) (set_other (by omega) b1)
      replace b2 : W5.cell? ⟨B, 2, none⟩ = some (.int .i64 dl) := by rw [hW5]; exact set_other (by omega) (set_other (by omega) b2)
      replace b3 : W5.cell? ⟨B, 3, none⟩ = some (.int .i64 dh) := by rw [hW5]; exact set_other (by omega) (set_other (by omega) b3)
      replace b4 : W5.cell? ⟨B, 4, none⟩ = some (.int .i64 cl) := by rw [hW5]; exact set_other (by omega) (set_other (by omega) b4)
      replace b5 : W5.cell? ⟨B, 5, none⟩ = some (.int .i64 ch) := by rw [hW5]; exact set_other (by omega) (set_other (by omega) b5)
      replace a0 : W5.cell? ⟨A, 0, none⟩ = some (.int .i64 cr) := by rw [hW5]; exact set_off (by omega) (set_off (by omega) a0)
      replace a1 : W5.cell? ⟨A, 1, none⟩ = some (.int .i64 va) := by rw [hW5]; exact set_off (by omega) (set_off (by omega) a1)
      replace a2 : W5.cell? ⟨A, 2, none⟩ = some (.int .i64 xl) := by rw [hW5]; exact set_off (by omega) (set_same a2)
      replace a3 : W5.cell? ⟨A, 3, none⟩ = some (.int .i64 xh) := by rw [hW5]; exact set_same (set_off (by omega) a3)
      replace a4 : W5.cell? ⟨A, 4, none⟩ = some (.int .i64 cl) := by rw [hW5]; exact set_off (by omega) (set_off (by omega) a4)
      replace a5 : W5.cell? ⟨A, 5, none⟩ = some (.int .i64 ch) := by rw [hW5]; exact set_off (by omega) (set_off (by omega) a5)
      have fa4 : W5.frozen? ⟨A, 4, none⟩ = false := by rw [hW5, World.frozen?_setCell, World.frozen?_setCell]; exact HFA.out 4
      have fa5 : W5.frozen? ⟨A, 5, none⟩ = false := by rw [hW5, World.frozen?_setCell, World.frozen?_setCell]; exact HFA.out 5
      replace HFB : Hid (∀ o, W5.frozen? ⟨B, o, none⟩ = false) := Lib.hid (fun o => by rw [hW5, World.frozen?_setCell, World.frozen?_setCell]; exact HFB.out o)
      clear hW5 X4 fa2 fa3 HFA
      clear m1 m2 r1 r2 r3 w1' w2' w3' w8' w9'
      go_upto_region 6 with fail
      obtain ⟨W6, hW6⟩ : ∃ x, x = ((W5.setCell ⟨A, 4, none⟩ (.int .i64 yl)).setCell ⟨A, 5, none⟩ (.int .i64 yh)) := ⟨_, rfl⟩
      rw [← hW6]
      have X6 : Ext w W6 := by rw [hW6]; exact (X5.setCell (by omega) _).setCell (by omega) _
      replace q0 : W6.cell? ⟨B0, 0, none⟩ = some (.int .i64 cr) := by rw [hW6]; exact set_other (by omega) (set_other (by omega) q0)
      replace q1 : W6.cell? ⟨B0, 1, none⟩ = some (.int .i64 va) := by rw [hW6]; exact set_other (by omega) (set_other (by omega) q1)
      replace q2 : W6.cell? ⟨B0, 2, none⟩ = some (.int .i64 dl) := by rw [hW6]; exact set_other (by omega) (set_other (by omega) q2)
      replace q3 : W6.cell? ⟨B0, 3, none⟩ = some (.int .i64 dh) := by rw [hW6]; exact set_other (by omega) (set_other (by omega) q3)
      replace q4 : W6.cell? ⟨B0, 4, none⟩ = some (.int .i64 cl) := by rw [hW6]; exact set_other (by omega) (set_other (by omega) q4)
      replace q5 : W6.cell? ⟨B0, 5, none⟩ = some (.int .i64 ch) := by rw [hW6]; exact set_other (by omega) (set_other (by omega) q5)
      replace b0 : W6.cell? ⟨B, 0, none⟩ = some (.int .i64 cr) := by rw [hW6]; exact set_other (by omega) (set_other (by omega) b0)
      replace b1 : W6.cell? ⟨B, 1, none⟩ = some (.int .i64 va) := by rw [hW6]; exact set_other (by omega) (set_other (by omega) b1)
      replace b2 : W6.cell? ⟨B, 2, none⟩ = some (.int .i64 dl) := by rw [hW6]; exact set_other (by omega) (set_other (by omega) b2)
      replace b3 : W6.cell? ⟨B, 3, none⟩ = some (.int .i64 dh) := by rw [hW6]; exact set_other (by omega) (set_other (by omega) b3)
      replace b4 : W6.cell? ⟨B, 4, none⟩ = some (.int .i64 cl) := by rw [hW6]; exact set_other (by omega) (set_other (by omega) b4)
      replace b5 : W6.cell? ⟨B, 5, none⟩ = some (.int .i64 ch) := by rw [hW6]; exact set_other (by omega) (set_other (by omega) b5)
      replace a0 : W6.cell? ⟨A, 0, none⟩ = some (.int .i64 cr) := by rw [hW6]; exact set_off (by omega) (set_off (by omega) a0)
      replace a1 : W6.cell? ⟨A, 1, none⟩ = some (.int .i64 va) := by rw [hW6]; exact set_off (by omega) (set_off (by omega) a1)
      replace a2 : W6.cell? ⟨A, 2, none⟩ = some (.int .i64 xl) := by rw [hW6]; exact set_off (by omega) (set_off (by omega) a2)
      replace a3 : W6.cell? ⟨A, 3, none⟩ = some (.int .i64 xh) := by rw [hW6]; exact set_off (by omega) (set_off (by omega) a3)
      replace a4 : W6.cell? ⟨A, 4, none⟩ = some (.int .i64 yl) := by rw [hW6]; exact set_off (by omega) (set_same a4)
      replace a5 : W6.cell? ⟨A, 5, none⟩ = some (.int .i64 yh) := by rw [hW6]; exact set_same (set_off (by omega) a5)
      replace HFB : Hid (∀ o, W6.frozen? ⟨B, o, none⟩ = false) := Lib.hid (fun o => by rw [hW6, World.frozen?_setCell, World.frozen?_setCell]; exact HFB.out o)
      clear hW6 X5 fa4 fa5 m3 m4 r4 r5 r6 w0 w4' w5' w6' w7' wa' wb'
      go_wp2_with fail
      (with_reducible refine (HPK.out _).mono ?_)
      rintro e w7 ⟨rfl, hx7⟩
      have hB6 : B < W6.heap.size := lt_of_cell b0
      replace q0 := (hx7).keep q0
      replace q1 := (hx7).keep q1
      replace q2 := (hx7).keep q2
      replace q3 := (hx7).keep q3
      replace q4 := (hx7).keep q4
      replace q5 := (hx7).keep q5
      replace a0 := (hx7).keep a0
      replace a1 := (hx7).keep a1
      replace a2 := (hx7).keep a2
      replace a3 := (hx7).keep a3
      replace a4 := (hx7).keep a4
      replace a5 := (hx7).keep a5
      replace b0 := (hx7).keep b0
      replace b1 := (hx7).keep b1
      replace b2 := (hx7).keep b2
      replace b3 := (hx7).keep b3
      replace b4 := (hx7).keep b4
      replace b5 := (hx7).keep b5
      have hAl := lt_of_cell a0
      have hBl' := lt_of_cell b0
      simp only at hAl hBl'
      have X7 : Ext w w7 := X6.trans hx7
      replace HFB : Hid (∀ o, w7.frozen? ⟨B, o, none⟩ = false) := Lib.hid (fun o => (hx7.frozen hB6).trans (HFB.out o))
      clear X6 hx7 HPK
      go_upto_region 7 with fail
      obtain ⟨W8, hW8⟩ : ∃ x, x = (w7.alloc (.cells #[.int .i64 d0, .int .i64 n0] 52)) := ⟨_, rfl⟩
      rw [← hW8]
      have hx8 : Ext w7 W8 := by rw [hW8]; exact (Ext.refl _).alloc _
      have t0 : W8.cell? ⟨w7.heap.size, 0, none⟩ = some (.int .i64 d0) := by rw [hW8]; simp
      have t1 : W8.cell? ⟨w7.heap.size, 1, none⟩ = some (.int .i64 n0) := by rw [hW8]; simp
      have X8 : Ext w W8 := X7.trans hx8
      replace q0 := (hx8).keep q0
      replace q1 := (hx8).keep q1
      replace q2 := (hx8).keep q2
      replace q3 := (hx8).keep q3
      replace q4 := (hx8).keep q4
      replace q5 := (hx8).keep q5
      replace a0 := (hx8).keep a0
      replace a1 := (hx8).keep a1
      replace a2 := (hx8).keep a2
      replace a3 := (hx8).keep a3
      replace a4 := (hx8).keep a4
      replace a5 := (hx8).keep a5
      replace b0 := (hx8).keep b0
      replace b1 := (hx8).keep b1
      replace b2 := (hx8).keep b2
      replace b3 := (hx8).keep b3
      replace b4 := (hx8).keep b4
      replace b5 := (hx8).keep b5
      have f2 : W8.frozen? ⟨B, 2, none⟩ = false := (hx8.frozen hBl').trans (HFB.out 2)
      have f3 : W8.frozen? ⟨B, 3, none⟩ = false := (hx8.frozen hBl').trans (HFB.out 3)
      have f4 : W8.frozen? ⟨B, 4, none⟩ = false := (hx8.frozen hBl').trans (HFB.out 4)
      have f5 : W8.frozen? ⟨B, 5, none⟩ = false := (hx8.frozen hBl').trans (HFB.out 5)
      have hBT : B ≠ w7.heap.size := by omega
      have hTB : w7.heap.size ≠ B := by omega
      clear hx8 hW8 X7 HFB hAl hBl'
      generalize w7.heap.size = T0 at *
      go_cut [13] from 72 to 83 (fun s13 wx => s13 = .pointer (some ⟨T0, 0, none⟩) ∧ YBox W8 B ⟨.int .i64 cr, .int .i64 va, .int .i64 d0, .int .i64 d0, .int .i64 n0, .int .i64 n0⟩ wx)
      case first =>
        have HK : Hid (∀ i x, (W8.setCell ⟨B, i, none⟩ x).cell? ⟨T0, 0, none⟩ = some (.int .i64 d0) ∧ (W8.setCell ⟨B, i, none⟩ x).cell? ⟨T0, 1, none⟩ = some (.int .i64 n0)) := fun i x => ⟨set_other hBT t0, set_other hBT t1⟩
        clear HAW HFI HTA HCL HTR HBT HB1 HB2 HPY HJ pd pn o3 o4 hday hcnt X8 q0 q1 q2 q3 q4 q5 a0 a1 a2 a3 a4 a5
        go_region
        all_goals
          go_wp2_with fail
          go_meet
          refine ⟨rfl, ⟨?_, ?_⟩⟩
          · simp only [Cell6, Nat.zero_add]
            refine ⟨?_, ?_, ?_, ?_, ?_, ?_⟩
            · repeat (first | exact b0 | (refine set_off (by decide) ?_) | (refine set_same (u := .int .i64 cr) ?_))
            · repeat (first | exact b1 | (refine set_off (by decide) ?_) | (refine set_same (u := .int .i64 va) ?_))
            · repeat (first | exact b2 | (refine set_off (by decide) ?_) | (refine set_same (u := .int .i64 dl) ?_))
            · repeat (first | exact b3 | (refine set_off (by decide) ?_) | (refine set_same (u := .int .i64 dh) ?_))
            · repeat (first | exact b4 | (refine set_off (by decide) ?_) | (refine set_same (u := .int .i64 cl) ?_))
            · repeat (first | exact b5 | (refine set_off (by decide) ?_) | (refine set_same (u := .int .i64 ch) ?_))
          · repeat (first | exact (Ext.refl _).but _ | refine ExtBut.drew ?_ | refine ExtBut.drewN ?_ _ | refine but_set ?_)
      case rest =>
        obtain ⟨rfl, hy⟩ := hcut
        obtain ⟨W9, rfl⟩ : ∃ x, x = wc := ⟨_, rfl⟩
        have hbut := hy.but
        have X9 : Ext w W9 := ExtBut.ext X8 (by omega) hbut
        replace q0 := but_keep hbut (by omega) q0
        replace q1 := but_keep hbut (by omega) q1
        replace q2 := but_keep hbut (by omega) q2
        replace q3 := but_keep hbut (by omega) q3
        replace q4 := but_keep hbut (by omega) q4
        replace q5 := but_keep hbut (by omega) q5
        replace a0 := but_keep hbut hAB a0
        replace a1 := but_keep hbut hAB a1
        replace a2 := but_keep hbut hAB a2
        replace a3 := but_keep hbut hAB a3
        replace a4 := but_keep hbut hAB a4
        replace a5 := but_keep hbut hAB a5
        replace t0 := but_keep hbut hTB t0
        replace t1 := but_keep hbut hTB t1
        have hyc := hy.c
        simp only [Cell6, Nat.zero_add] at hyc
        obtain ⟨c0, c1, c2, c3, c4, c5⟩ := hyc
        clear b0 b1 b2 b3 b4 b5 f2 f3 f4 f5 hbut hy X8
        have HSP : Hid (∀ w', Ext W9 w' → (w'.cell? ⟨B0, 0, none⟩ = some (.int .i64 cr) ∧ w'.cell? ⟨B0, 1, none⟩ = some (.int .i64 va) ∧ w'.cell? ⟨B0, 2, none⟩ = some (.int .i64 dl) ∧ w'.cell? ⟨B0, 3, none⟩ = some (.int .i64 dh) ∧ w'.cell? ⟨B0, 4, none⟩ = some (.int .i64 cl) ∧ w'.cell? ⟨B0, 5, none⟩ = some (.int .i64 ch) ∧ w'.cell? ⟨T0, 0, none⟩ = some (.int .i64 d0) ∧ w'.cell? ⟨T0, 1, none⟩ = some (.int .i64 n0)) ∧ Ext W9 w') := fun w' hx => ⟨⟨hx.keep q0, hx.keep q1, hx.keep q2, hx.keep q3, hx.keep q4, hx.keep q5, hx.keep t0, hx.keep t1⟩, hx⟩
        have HSX : Hid (∀ w', Ext W9 w' → (w'.cell? ⟨A, 0, none⟩ = some (.int .i64 cr) ∧ w'.cell? ⟨A, 1, none⟩ = some (.int .i64 va) ∧ w'.cell? ⟨A, 2, none⟩ = some (.int .i64 xl) ∧ w'.cell? ⟨A, 3, none⟩ = some (.int .i64 xh) ∧ w'.cell? ⟨A, 4, none⟩ = some (.int .i64 yl) ∧ w'.cell? ⟨A, 5, none⟩ = some (.int .i64 yh))) := fun w' hx => ⟨hx.keep a0, hx.keep a1, hx.keep a2, hx.keep a3, hx.keep a4, hx.keep a5⟩
        have HSY : Hid (∀ w', Ext W9 w' → (w'.cell? ⟨B, 0, none⟩ = some (.int .i64 cr) ∧ w'.cell? ⟨B, 1, none⟩ = some (.int .i64 va) ∧ w'.cell? ⟨B, 2, none⟩ = some (.int .i64 d0) ∧ w'.cell? ⟨B, 3, none⟩ = some (.int .i64 d0) ∧ w'.cell? ⟨B, 4, none⟩ = some (.int .i64 n0) ∧ w'.cell? ⟨B, 5, none⟩ = some (.int .i64 n0))) := fun w' hx => ⟨hx.keep c0, hx.keep c1, hx.keep c2, hx.keep c3, hx.keep c4, hx.keep c5⟩
        have HS1 : Hid (∀ w', Ext W9 w' → (w'.cell? ⟨B0, 0, none⟩ = some (.int .i64 cr) ∧ w'.cell? ⟨B0, 1, none⟩ = some (.int .i64 va) ∧ w'.cell? ⟨B0, 2, none⟩ = some (.int .i64 dl) ∧ w'.cell? ⟨B0, 3, none⟩ = some (.int .i64 dh) ∧ w'.cell? ⟨B0, 4, none⟩ = some (.int .i64 cl) ∧ w'.cell? ⟨B0, 5, none⟩ = some (.int .i64 ch)) ∧ Ext W9 w') := fun w' hx => ⟨⟨hx.keep q0, hx.keep q1, hx.keep q2, hx.keep q3, hx.keep q4, hx.keep q5⟩, hx⟩
        clear q0 q1 q2 q3 q4 q5 a0 a1 a2 a3 a4 a5 c0 c1 c2 c3 c4 c5 t0 t1
        go_upto_region 8 with fail
        go_cut [14, 15] from 84 to 91 (fun sA sB wx => ∃ T, sA = .pointer (some ⟨T, 0, none⟩) ∧ sB = .int .i64 0 ∧ BoxI W9 T rL rH wx)
        case first =>
          go_region_held3 (fun w' => (w'.cell? ⟨B0, 0, none⟩ = some (.int .i64 cr) ∧ w'.cell? ⟨B0, 1, none⟩ = some (.int .i64 va) ∧ w'.cell? ⟨B0, 2, none⟩ = some (.int .i64 dl) ∧ w'.cell? ⟨B0, 3, none⟩ = some (.int .i64 dh) ∧ w'.cell? ⟨B0, 4, none⟩ = some (.int .i64 cl) ∧ w'.cell? ⟨B0, 5, none⟩ = some (.int .i64 ch)) ∧ Ext W9 w')
            ((refine HS1.out _ ?_; (repeat (first | exact Ext.refl _ | (with_reducible assumption) | (with_reducible refine Ext.drew ?_) | (with_reducible refine Ext.alloc ?_ _) | (with_reducible refine Ext.drewN ?_ _) | (with_reducible refine Ext.setCell ?_ (by omega) _) | (with_reducible refine Ext.trans ?_ (by with_reducible assumption))))))
            (first
              | (go_at_call 21; (refine (HTA.out _ (by (repeat (first | exact Ext.refl _ | (with_reducible assumption) | (with_reducible refine Ext.drew ?_) | (with_reducible refine Ext.alloc ?_ _) | (with_reducible refine Ext.drewN ?_ _) | (with_reducible refine Ext.setCell ?_ (by omega) _) | (with_reducible refine Ext.trans ?_ (by with_reducible assumption)))))).mono ?_); rintro e w3 ⟨v3, rfl, hv3, hx3⟩; have s3 := hx3.size; (try simp at s3); (first | have Z := ZB.new hx3 | have Z := ZB.newd hx3 | skip))
              | (go_at_call 28; (refine (HCL.out ⟨cr, va, dl, dh, cl, ch⟩ _).mono ?_); rintro e w4 ⟨rfl, hx4⟩; have s4 := hx4.size; (try simp at s4); (first | have Z := ZB.new hx4 | have Z := Z.keep hx4 | skip))
              | (go_at_call 27; (refine (HB1.out _ _ (hv3.ext (by (repeat (first | exact Ext.refl _ | (with_reducible assumption) | (with_reducible refine Ext.drew ?_) | (with_reducible refine Ext.alloc ?_ _) | (with_reducible refine Ext.drewN ?_ _) | (with_reducible refine Ext.setCell ?_ (by omega) _) | (with_reducible refine Ext.trans ?_ (by with_reducible assumption))))))).mono ?_); rintro e w5 ⟨rfl, hx5⟩; have s5 := hx5.size; (try simp at s5); (first | have Z := ZB.new hx5 | have Z := Z.keep hx5 | skip); (first | (have z0 := Z.z0; have z1 := Z.z1; have f0 := Z.f0; have f1 := Z.f1) | skip)))
          all_goals
            go_wp2_with fail
            go_meet
            first
              | exact ⟨_, rfl, rfl, BoxI.stored Z (by (repeat (first | exact Ext.refl _ | (with_reducible assumption) | (with_reducible refine Ext.drew ?_) | (with_reducible refine Ext.alloc ?_ _) | (with_reducible refine Ext.drewN ?_ _) | (with_reducible refine Ext.setCell ?_ (by omega) _) | (with_reducible refine Ext.trans ?_ (by with_reducible assumption))))) (by omega)⟩
              | exact ⟨_, rfl, rfl, BoxI.made (by (repeat (first | exact Ext.refl _ | (with_reducible assumption) | (with_reducible refine Ext.drew ?_) | (with_reducible refine Ext.alloc ?_ _) | (with_reducible refine Ext.drewN ?_ _) | (with_reducible refine Ext.setCell ?_ (by omega) _) | (with_reducible refine Ext.trans ?_ (by with_reducible assumption))))) _ _ _⟩
        case rest =>
          obtain ⟨R1, rfl, rfl, h1b⟩ := hcut
          obtain ⟨W10, rfl⟩ : ∃ x, x = wc := ⟨_, rfl⟩
          have HX10 := Lib.hid h1b.ext
          have X10 : Ext w W10 := X9.trans h1b.ext
          have r0 := h1b.b0
          have r1 := h1b.b1
          have HS2 : Hid (∀ w', Ext W10 w' → (w'.cell? ⟨B, 0, none⟩ = some (.int .i64 cr) ∧ w'.cell? ⟨B, 1, none⟩ = some (.int .i64 va) ∧ w'.cell? ⟨B, 2, none⟩ = some (.int .i64 d0) ∧ w'.cell? ⟨B, 3, none⟩ = some (.int .i64 d0) ∧ w'.cell? ⟨B, 4, none⟩ = some (.int .i64 n0) ∧ w'.cell? ⟨B, 5, none⟩ = some (.int .i64 n0)) ∧ Ext W10 w') := fun w' hx => ⟨HSY.out w' (HX10.out.trans hx), hx⟩
          clear h1b
          go_upto_region 9 with fail
          go_cut [16, 17] from 92 to 99 (fun sA sB wx => ∃ T, sA = .pointer (some ⟨T, 0, none⟩) ∧ sB = .int .i64 0 ∧ BoxI W10 T n n wx)
          case first =>
            go_region_held3 (fun w' => (w'.cell? ⟨B, 0, none⟩ = some (.int .i64 cr) ∧ w'.cell? ⟨B, 1, none⟩ = some (.int .i64 va) ∧ w'.cell? ⟨B, 2, none⟩ = some (.int .i64 d0) ∧ w'.cell? ⟨B, 3, none⟩ = some (.int .i64 d0) ∧ w'.cell? ⟨B, 4, none⟩ = some (.int .i64 n0) ∧ w'.cell? ⟨B, 5, none⟩ = some (.int .i64 n0)) ∧ Ext W10 w')
              ((refine HS2.out _ ?_; (repeat (first | exact Ext.refl _ | (with_reducible assumption) | (with_reducible refine Ext.drew ?_) | (with_reducible refine Ext.alloc ?_ _) | (with_reducible refine Ext.drewN ?_ _) | (with_reducible refine Ext.setCell ?_ (by omega) _) | (with_reducible refine Ext.trans ?_ (by with_reducible assumption))))))
              (first
                | (go_at_call 21; (refine (HTA.out _ (by (repeat (first | exact Ext.refl _ | (with_reducible assumption) | (with_reducible refine Ext.drew ?_) | (with_reducible refine Ext.alloc ?_ _) | (with_reducible refine Ext.drewN ?_ _) | (with_reducible refine Ext.setCell ?_ (by omega) _) | (with_reducible refine Ext.trans ?_ (by with_reducible assumption)))))).mono ?_); rintro e w3 ⟨v3, rfl, hv3, hx3⟩; have s3 := hx3.size; (try simp at s3); (first | have Z := ZB.new hx3 | have Z := ZB.newd hx3 | skip))
                | (go_at_call 28; (refine (HCL.out ⟨cr, va, d0, d0, n0, n0⟩ _).mono ?_); rintro e w4 ⟨rfl, hx4⟩; have s4 := hx4.size; (try simp at s4); (first | have Z := ZB.new hx4 | have Z := Z.keep hx4 | skip))
                | (go_at_call 27; (refine (HB2.out _ _ (hv3.ext (by (repeat (first | exact Ext.refl _ | (with_reducible assumption) | (with_reducible refine Ext.drew ?_) | (with_reducible refine Ext.alloc ?_ _) | (with_reducible refine Ext.drewN ?_ _) | (with_reducible refine Ext.setCell ?_ (by omega) _) | (with_reducible refine Ext.trans ?_ (by with_reducible assumption))))))).mono ?_); rintro e w5 ⟨rfl, hx5⟩; have s5 := hx5.size; (try simp at s5); (first | have Z := ZB.new hx5 | have Z := Z.keep hx5 | skip); (first | (have z0 := Z.z0; have z1 := Z.z1; have f0 := Z.f0; have f1 := Z.f1) | skip)))
            all_goals
              go_wp2_with fail
              go_meet
              first
                | exact ⟨_, rfl, rfl, BoxI.stored Z (by (repeat (first | exact Ext.refl _ | (with_reducible assumption) | (with_reducible refine Ext.drew ?_) | (with_reducible refine Ext.alloc ?_ _) | (with_reducible refine Ext.drewN ?_ _) | (with_reducible refine Ext.setCell ?_ (by omega) _) | (with_reducible refine Ext.trans ?_ (by with_reducible assumption))))) (by omega)⟩
                | exact ⟨_, rfl, rfl, BoxI.made (by (repeat (first | exact Ext.refl _ | (with_reducible assumption) | (with_reducible refine Ext.drew ?_) | (with_reducible refine Ext.alloc ?_ _) | (with_reducible refine Ext.drewN ?_ _) | (with_reducible refine Ext.setCell ?_ (by omega) _) | (with_reducible refine Ext.trans ?_ (by with_reducible assumption))))) _ _ _⟩
          case rest =>
            obtain ⟨R2, rfl, rfl, h2b⟩ := hcut
            obtain ⟨W11, rfl⟩ : ∃ x, x = wc := ⟨_, rfl⟩
            have HX11 := Lib.hid (HX10.out.trans h2b.ext)
            have X11 : Ext w W11 := X10.trans h2b.ext
            replace r0 := h2b.ext.keep r0
            replace r1 := h2b.ext.keep r1
            have u0 := h2b.b0
            have u1 := h2b.b1
            have HS3 : Hid (∀ w', Ext W11 w' → (w'.cell? ⟨B0, 0, none⟩ = some (.int .i64 cr) ∧ w'.cell? ⟨B0, 1, none⟩ = some (.int .i64 va) ∧ w'.cell? ⟨B0, 2, none⟩ = some (.int .i64 dl) ∧ w'.cell? ⟨B0, 3, none⟩ = some (.int .i64 dh) ∧ w'.cell? ⟨B0, 4, none⟩ = some (.int .i64 cl) ∧ w'.cell? ⟨B0, 5, none⟩ = some (.int .i64 ch) ∧ w'.cell? ⟨T0, 0, none⟩ = some (.int .i64 d0) ∧ w'.cell? ⟨T0, 1, none⟩ = some (.int .i64 n0)) ∧ Ext W11 w') := fun w' hx => ⟨(HSP.out w' (HX11.out.trans hx)).1, hx⟩
            have HR : Hid (∀ w', Ext W11 w' → (w'.cell? ⟨R1, 0, none⟩ = some (.int .i64 rL) ∧ w'.cell? ⟨R1, 1, none⟩ = some (.int .i64 rH) ∧ w'.cell? ⟨R2, 0, none⟩ = some (.int .i64 n) ∧ w'.cell? ⟨R2, 1, none⟩ = some (.int .i64 n))) := fun w' hx => ⟨hx.keep r0, hx.keep r1, hx.keep u0, hx.keep u1⟩
            clear h2b HS1 HS2 HSY HSP r0 r1 u0 u1
            go_upto_region 10 with fail
            go_region_held3 (fun w' => (w'.cell? ⟨B0, 0, none⟩ = some (.int .i64 cr) ∧ w'.cell? ⟨B0, 1, none⟩ = some (.int .i64 va) ∧ w'.cell? ⟨B0, 2, none⟩ = some (.int .i64 dl) ∧ w'.cell? ⟨B0, 3, none⟩ = some (.int .i64 dh) ∧ w'.cell? ⟨B0, 4, none⟩ = some (.int .i64 cl) ∧ w'.cell? ⟨B0, 5, none⟩ = some (.int .i64 ch) ∧ w'.cell? ⟨T0, 0, none⟩ = some (.int .i64 d0) ∧ w'.cell? ⟨T0, 1, none⟩ = some (.int .i64 n0)) ∧ Ext W11 w')
              ((refine HS3.out _ ?_; (repeat (first | exact Ext.refl _ | (with_reducible assumption) | (with_reducible refine Ext.drew ?_) | (with_reducible refine Ext.alloc ?_ _) | (with_reducible refine Ext.drewN ?_ _) | (with_reducible refine Ext.setCell ?_ (by omega) _) | (with_reducible refine Ext.trans ?_ (by with_reducible assumption))))))
              (first
                | (go_at_call 21; (refine (HTA.out _ (by (repeat (first | exact Ext.refl _ | (with_reducible assumption) | (with_reducible refine Ext.drew ?_) | (with_reducible refine Ext.alloc ?_ _) | (with_reducible refine Ext.drewN ?_ _) | (with_reducible refine Ext.setCell ?_ (by omega) _) | (with_reducible refine Ext.trans ?_ (by with_reducible assumption)))))).mono ?_); rintro e w3 ⟨v3, rfl, hv3, hx3⟩)
                | (go_at_call 28; (refine (HCL.out ⟨cr, va, dl, dh, cl, ch⟩ _).mono ?_); rintro e w4 ⟨rfl, hx4⟩)
                | (go_at_call 34; (refine (HTR.out _ _ _).mono ?_); rintro e w6 ⟨rfl, hx6⟩)
                | (go_at_call 43; (refine (HPY.out _ _ (hv3.ext (by (repeat (first | exact Ext.refl _ | (with_reducible assumption) | (with_reducible refine Ext.drew ?_) | (with_reducible refine Ext.alloc ?_ _) | (with_reducible refine Ext.drewN ?_ _) | (with_reducible refine Ext.setCell ?_ (by omega) _) | (with_reducible refine Ext.trans ?_ (by with_reducible assumption))))))).mono ?_); rintro e w5 ⟨rfl, hx5⟩))
            have P5 : Ext W11 w5 := by (repeat (first | exact Ext.refl _ | (with_reducible assumption) | (with_reducible refine Ext.drew ?_) | (with_reducible refine Ext.alloc ?_ _) | (with_reducible refine Ext.drewN ?_ _) | (with_reducible refine Ext.setCell ?_ (by omega) _) | (with_reducible refine Ext.trans ?_ (by with_reducible assumption))))
            clear hv3 hx3 hx4 hx5 hx6
            obtain ⟨W12, rfl⟩ : ∃ x, x = w5 := ⟨_, rfl⟩
            have X12 : Ext w W12 := X11.trans P5
            have HX12 := Lib.hid (HX11.out.trans P5)
            have HR2 : Hid (∀ w', Ext W12 w' → (w'.cell? ⟨R1, 0, none⟩ = some (.int .i64 rL) ∧ w'.cell? ⟨R1, 1, none⟩ = some (.int .i64 rH) ∧ w'.cell? ⟨R2, 0, none⟩ = some (.int .i64 n) ∧ w'.cell? ⟨R2, 1, none⟩ = some (.int .i64 n))) := fun w' hx => HR.out w' (P5.trans hx)
            have n1 : decide (n < rL) = false := decide_eq_false (by omega)
            have n2 : decide (rH < n) = false := decide_eq_false (by omega)
            clear HR HS3 HX10 HX11
            go_upto_region 11 with fail
            refine wp_region_quiet (C := Ext W12) (by kernel_rfl) (by kernel_rfl) (Ext.drew (by (repeat (first | exact Ext.refl _ | (with_reducible assumption) | (with_reducible refine Ext.drew ?_) | (with_reducible refine Ext.alloc ?_ _) | (with_reducible refine Ext.drewN ?_ _) | (with_reducible refine Ext.setCell ?_ (by omega) _) | (with_reducible refine Ext.trans ?_ (by with_reducible assumption)))))) ?_
            rw [show ∀ (l : List Oper), l.toArray.toList = l from fun l => rfl]
            repeat (first
              | go_big_quiet_skip
              | (go_big_quiet_want
                 first
                  | (go_big_quiet_op; go_big_quiet_on)
                  | (apply Exists.intro
                     refine ⟨fun w' hxw => ?_, ?_⟩
                     focus (obtain ⟨r0, r1, u0, u1⟩ := HR2.out w' hxw; go_simp; first | exact rfl | (go_at_call 44; (refine (HBT.out _ _ w').mono ?_; exact fun e w'' h => ⟨h.1, hxw.trans h.2⟩)))
                     simp only [Act.put, List.setIfInBounds_toArray, List.set_cons_zero, List.set_cons_succ]
                     go_big_quiet_on)))
            refine wpQuiet_nil ?_
            intro w2 hx2
            have P2 : Ext w w2 := X12.trans hx2
            have HX2 := Lib.hid (HX12.out.trans hx2)
            obtain ⟨a0, a1, a2, a3, a4, a5⟩ := HSX.out w2 HX2.out
            have hf := HFI.out ⟨cr, va, xl, xh, yl, yh⟩ w2 P2
            obtain ⟨r0, r1, -, -⟩ := HR2.out w2 hx2
            obtain ⟨W13, rfl⟩ : ∃ x, x = w2 := ⟨_, rfl⟩
            clear hx2 HX12 HR2 HFI HX2 HSX
            cases hfx : fineB l ⟨cr, va, xl, xh, yl, yh⟩ with
            | false =>
              rw [hfx] at hf
              clear hfx HJ r0 r1
              go_wp2_with fail
              (refine hf.mono ?_)
              rintro e w14 ⟨rfl, hx14⟩
              go_wp2_with fail
              (with_reducible refine (HAW.out _).mono ?_)
              rintro e w15 ⟨rfl, hx15⟩
              go_wp2_with fail
              go_ret
              exact ⟨rfl, P2.trans (hx14.trans hx15)⟩
            | true =>
              rw [hfx] at hf
              obtain ⟨wl, wh, i1, i2, HB3⟩ := HJ.out hfx
              replace HB3 := Lib.hid HB3
              clear hfx HJ
              go_wp2_with fail
              (refine hf.mono ?_)
              rintro e w14 ⟨rfl, hx14⟩
              have P14 : Ext w w14 := P2.trans hx14
              have HS4 : Hid (∀ w', Ext w14 w' → (w'.cell? ⟨A, 0, none⟩ = some (.int .i64 cr) ∧ w'.cell? ⟨A, 1, none⟩ = some (.int .i64 va) ∧ w'.cell? ⟨A, 2, none⟩ = some (.int .i64 xl) ∧ w'.cell? ⟨A, 3, none⟩ = some (.int .i64 xh) ∧ w'.cell? ⟨A, 4, none⟩ = some (.int .i64 yl) ∧ w'.cell? ⟨A, 5, none⟩ = some (.int .i64 yh)) ∧ Ext w14 w') := fun w' hx =>
                have y := hx14.trans hx
                ⟨⟨y.keep a0, y.keep a1, y.keep a2, y.keep a3, y.keep a4, y.keep a5⟩, hx⟩
              replace r0 := hx14.keep r0
              replace r1 := hx14.keep r1
              clear hf a0 a1 a2 a3 a4 a5 hx14
              go_upto_region 15 with fail
              go_cut [20, 21] from 146 to 153 (fun sA sB wx => ∃ T, sA = .pointer (some ⟨T, 0, none⟩) ∧ sB = .int .i64 0 ∧ BoxI w14 T wl wh wx)
              case first =>
                go_region_held3 (fun w' => (w'.cell? ⟨A, 0, none⟩ = some (.int .i64 cr) ∧ w'.cell? ⟨A, 1, none⟩ = some (.int .i64 va) ∧ w'.cell? ⟨A, 2, none⟩ = some (.int .i64 xl) ∧ w'.cell? ⟨A, 3, none⟩ = some (.int .i64 xh) ∧ w'.cell? ⟨A, 4, none⟩ = some (.int .i64 yl) ∧ w'.cell? ⟨A, 5, none⟩ = some (.int .i64 yh)) ∧ Ext w14 w')
                  ((refine HS4.out _ ?_; (repeat (first | exact Ext.refl _ | (with_reducible assumption) | (with_reducible refine Ext.drew ?_) | (with_reducible refine Ext.alloc ?_ _) | (with_reducible refine Ext.drewN ?_ _) | (with_reducible refine Ext.setCell ?_ (by omega) _) | (with_reducible refine Ext.trans ?_ (by with_reducible assumption))))))
                  (first
                    | (go_at_call 21; (refine (HTA.out _ (by (repeat (first | exact Ext.refl _ | (with_reducible assumption) | (with_reducible refine Ext.drew ?_) | (with_reducible refine Ext.alloc ?_ _) | (with_reducible refine Ext.drewN ?_ _) | (with_reducible refine Ext.setCell ?_ (by omega) _) | (with_reducible refine Ext.trans ?_ (by with_reducible assumption)))))).mono ?_); rintro e w3 ⟨v3, rfl, hv3, hx3⟩; have s3 := hx3.size; (try simp at s3); (first | have Z := ZB.new hx3 | have Z := ZB.newd hx3 | skip))
                    | (go_at_call 28; (refine (HCL.out ⟨cr, va, xl, xh, yl, yh⟩ _).mono ?_); rintro e w4 ⟨rfl, hx4⟩; have s4 := hx4.size; (try simp at s4); (first | have Z := ZB.new hx4 | have Z := Z.keep hx4 | skip))
                    | (go_at_call 27; (refine (HB3.out _ _ (hv3.ext (by (repeat (first | exact Ext.refl _ | (with_reducible assumption) | (with_reducible refine Ext.drew ?_) | (with_reducible refine Ext.alloc ?_ _) | (with_reducible refine Ext.drewN ?_ _) | (with_reducible refine Ext.setCell ?_ (by omega) _) | (with_reducible refine Ext.trans ?_ (by with_reducible assumption))))))).mono ?_); rintro e w5 ⟨rfl, hx5⟩; have s5 := hx5.size; (try simp at s5); (first | have Z := ZB.new hx5 | have Z := Z.keep hx5 | skip); (first | (have z0 := Z.z0; have z1 := Z.z1; have f0 := Z.f0; have f1 := Z.f1) | skip)))
                all_goals
                  go_wp2_with fail
                  go_meet
                  first
                    | exact ⟨_, rfl, rfl, BoxI.stored Z (by (repeat (first | exact Ext.refl _ | (with_reducible assumption) | (with_reducible refine Ext.drew ?_) | (with_reducible refine Ext.alloc ?_ _) | (with_reducible refine Ext.drewN ?_ _) | (with_reducible refine Ext.setCell ?_ (by omega) _) | (with_reducible refine Ext.trans ?_ (by with_reducible assumption))))) (by omega)⟩
                    | exact ⟨_, rfl, rfl, BoxI.made (by (repeat (first | exact Ext.refl _ | (with_reducible assumption) | (with_reducible refine Ext.drew ?_) | (with_reducible refine Ext.alloc ?_ _) | (with_reducible refine Ext.drewN ?_ _) | (with_reducible refine Ext.setCell ?_ (by omega) _) | (with_reducible refine Ext.trans ?_ (by with_reducible assumption))))) _ _ _⟩
              case rest =>
                obtain ⟨R3, rfl, rfl, h3b⟩ := hcut
                obtain ⟨W16, rfl⟩ : ∃ x, x = wc := ⟨_, rfl⟩
                have P16 : Ext w W16 := P14.trans h3b.ext
                replace r0 := h3b.ext.keep r0
                replace r1 := h3b.ext.keep r1
                have u0 := h3b.b0
                have u1 := h3b.b1
                have l1 : decide (wl ≤ rL) = true := decide_eq_true i1
                have l2 : decide (rH ≤ wh) = true := decide_eq_true i2
                clear h3b HS4
                go_wp2_with fail
                (with_reducible refine (HAW.out _).mono ?_)
                rintro e w17 ⟨rfl, hx17⟩
                go_wp2_with fail
                go_ret
                exact ⟨rfl, P16.trans hx17⟩
end Go.Proofs.Ytfjecbfcnngacaa
