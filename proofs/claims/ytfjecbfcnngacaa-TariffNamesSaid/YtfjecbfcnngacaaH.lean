/- Contracts: the loss. -/
import Derived.Test.YtfjecbfcnngacaaG
import Derived.Deep.RegionWith
import Derived.Deep.RegionHeld3
import Derived.Deep.DeepCutAuto
namespace Go.Proofs.Ytfjecbfcnngacaa
open Go.RowKit Go.Hs

/-- What the first statement of 'loss' reads. -/
abbrev LossS (W : World) (B b5 p5 b6 p6 : Nat) (x0 : Int) (x1 : Bool) (x2 : Int) (x3 x4 x5 : Value) (y0 y1 y2 : Int) (z5 z6 : Value) (w' : World) : Prop :=
  w'.cell? ⟨B, 0, none⟩ = some (.int .i64 x0) ∧ w'.cell? ⟨B, 1, none⟩ = some (.bool x1) ∧ w'.cell? ⟨B, 2, none⟩ = some (.int .i64 x2) ∧ w'.cell? ⟨B, 3, none⟩ = some x3 ∧ w'.cell? ⟨B, 4, none⟩ = some x4 ∧ w'.cell? ⟨B, 5, none⟩ = some x5 ∧
  w'.cell? ⟨B + 1, 0, none⟩ = some (.int .i64 y0) ∧ w'.cell? ⟨B + 1, 1, none⟩ = some (.int .i64 y1) ∧ w'.cell? ⟨B + 1, 2, none⟩ = some (.int .i64 y2) ∧
  w'.cell? ⟨b5, p5, none⟩ = some z5 ∧ w'.cell? ⟨b6, p6, none⟩ = some z6 ∧ Ext W w'

set_option maxRecDepth 100000 in
set_option maxHeartbeats 1000000 in
theorem loss_any (u : V6) (t : Tar) (cr d n : Int) (w : World) (h : TarU w u t) (h0 : 0 ≤ cr) (h1 : cr < t.rates.length) (hw : weekTo t.weeks d t.weeks.length < (t.rates.getD cr.toNat []).length)
    (hco : CountsOK t.counts) (hro : RowOK t.counts.length ((t.rates.getD cr.toNat []).getD (weekTo t.weeks d t.weeks.length) [])) (hn0 : 0 ≤ n) (hn1 : n ≤ 100) :
    Calls Try.prog 82 #[u.val, .agg #[.int .i64 cr, .int .i64 d, .int .i64 n]] w fun e w' => e = .returned (.int .i64 (interp t.counts ((t.rates.getD cr.toNat []).getD (weekTo t.weeks d t.weeks.length) []) n)) ∧ Ext w w' := by
  have HT := h
  have HCO := Lib.hid hco
  obtain ⟨a3, k3, a4, k4, a5, k5, rfl⟩ := h.slices
  obtain ⟨-, -, -, hC⟩ := h
  obtain ⟨cn, rfl⟩ := Int.eq_ofNat_of_zero_le h0
  have hcn : cn < t.rates.length := by omega
  simp only [Int.toNat_natCast] at hw hro ⊢
  have hl4 := hC.counts.len_le.2
  obtain ⟨b5, o5, a6, c6, rfl, hc5, hv6⟩ := hC.rates.get cn hcn
  obtain ⟨b6, o6, a7, c7, rfl, hc6, hv7⟩ := hv6.get _ hw
  have X := ((Ext.refl w).alloc (.cells #[.int .i64 t.start, .bool t.whole, .int .i64 t.least, .slice a3 t.weeks.length k3, .slice a4 t.counts.length k4, .slice (some ⟨b5, o5, none⟩) t.rates.length k5] 96)).alloc (.cells #[.int .i64 cn, .int .i64 d, .int .i64 n] 107)
  have hwk : ∀ W', Ext w W' → Calls Try.prog 94 #[.agg #[.int .i64 t.start, .bool t.whole, .int .i64 t.least, .slice a3 t.weeks.length k3, .slice a4 t.counts.length k4, .slice (some ⟨b5, o5, none⟩) t.rates.length k5], .int .i64 d] W' fun e w' => e = .returned (.int .i64 (weekTo t.weeks d t.weeks.length)) ∧ Ext W' w' := fun W' hx => week_any ⟨_, _, _, _, _, _⟩ t d W' (HT.ext hx)
  have hb5 : b5 < w.heap.size := lt_of_cell hc5
  have hb6 : b6 < w.heap.size := lt_of_cell hc6
  have hwl : weekTo t.weeks d t.weeks.length ≤ t.weeks.length := weekTo_le _ _ _
  have hrl : (t.rates.getD cn []).length ≤ 140737488351232 := hv6.len_le.2
  have hk3 : t.weeks.length ≤ 140737488351232 := hC.weeks.len_le.2
  generalize hwn : weekTo t.weeks d t.weeks.length = wn at *
  have HWN := Lib.hid hwn; clear hwn
  have HWK := Lib.hid hwk; clear hwk
  generalize hcw : t.rates.getD cn [] = cw at *
  generalize hrow : cw.getD wn [] = row at *
  have HCW := Lib.hid hcw; clear hcw
  have HROW := Lib.hid hrow; clear hrow
  go_enter Try.func82, Try.ntmps82
  go_wp2_with fail
  generalize hW : ((w.alloc (.cells #[.int .i64 t.start, .bool t.whole, .int .i64 t.least, .slice a3 t.weeks.length k3, .slice a4 t.counts.length k4, .slice (some ⟨b5, o5, none⟩) t.rates.length k5] 96)).alloc (.cells #[.int .i64 cn, .int .i64 d, .int .i64 n] 107)) = W at *
  have t0 : W.cell? ⟨w.heap.size, 0, none⟩ = some (.int .i64 t.start) := by rw [← hW]; simp
  have t1 : W.cell? ⟨w.heap.size, 1, none⟩ = some (.bool t.whole) := by rw [← hW]; simp
  have t2 : W.cell? ⟨w.heap.size, 2, none⟩ = some (.int .i64 t.least) := by rw [← hW]; simp
  have t3 : W.cell? ⟨w.heap.size, 3, none⟩ = some (.slice a3 t.weeks.length k3) := by rw [← hW]; simp
  have t4 : W.cell? ⟨w.heap.size, 4, none⟩ = some (.slice a4 t.counts.length k4) := by rw [← hW]; simp
  have t5 : W.cell? ⟨w.heap.size, 5, none⟩ = some (.slice (some ⟨b5, o5, none⟩) t.rates.length k5) := by rw [← hW]; simp
  have s0 : W.cell? ⟨w.heap.size + 1, 0, none⟩ = some (.int .i64 cn) := by rw [← hW]; simp
  have s1 : W.cell? ⟨w.heap.size + 1, 1, none⟩ = some (.int .i64 d) := by rw [← hW]; simp
  have s2 : W.cell? ⟨w.heap.size + 1, 2, none⟩ = some (.int .i64 n) := by rw [← hW]; simp
  have m5 := X.keep hc5
  have m6 := X.keep hc6
  clear hW hc5 hc6
  have HS : Hid (∀ w', Ext W w' → LossS W w.heap.size b5 (o5 + cn) b6 (o6 + wn) t.start t.whole t.least (.slice a3 t.weeks.length k3) (.slice a4 t.counts.length k4) (.slice (some ⟨b5, o5, none⟩) t.rates.length k5) cn d n (.slice (some ⟨b6, o6, none⟩) cw.length c6) (.slice a7 row.length c7) w') :=
    fun w' hx => ⟨hx.keep t0, hx.keep t1, hx.keep t2, hx.keep t3, hx.keep t4, hx.keep t5, hx.keep s0, hx.keep s1, hx.keep s2, hx.keep m5, hx.keep m6, hx⟩
  go_region_held3 (fun w' => LossS W w.heap.size b5 (o5 + cn) b6 (o6 + wn) t.start t.whole t.least (.slice a3 t.weeks.length k3) (.slice a4 t.counts.length k4) (.slice (some ⟨b5, o5, none⟩) t.rates.length k5) cn d n (.slice (some ⟨b6, o6, none⟩) cw.length c6) (.slice a7 row.length c7) w') (first | exact HS.out _ ((Ext.refl W).drew) | exact HS.out _ ((Ext.refl W).drew.trans hx2))
    (first | (go_at_call 94; (with_reducible refine (HWK.out _ (X.trans (Ext.refl W).drew)).mono ?_); rintro e w2 ⟨rfl, hx2⟩))
  rename_i hSS
  obtain ⟨q0, q1, q2, q3, q4, q5, r0, r1, r2, n5, n6, hxx⟩ := hSS
  have hsr := search_any _ t.counts n w2 (hC.counts.ext (X.trans hxx)) HCO.out.sorted
  go_wp2_with fail
  (with_reducible refine hsr.mono ?_)
  rintro e w3 ⟨i, hfi, rfl, rfl⟩
  obtain ⟨hil, hne⟩ := HCO.out.found hn0 hn1 hfi
  have XX := X.trans hxx
  have hir : i < row.length := by rw [hro.len]; exact hil
  have hin := Lib.hid (interp_at (row := row) hfi)
  obtain ⟨br, or_, rfl, hcr⟩ := hv7.get i hir
  obtain ⟨bc, oc, rfl, hcc⟩ := hC.counts.get i hil
  have hcr2 := XX.keep hcr
  have hcc2 := XX.keep hcc
  have bri := hro.bound i hir
  have bci := HCO.out.bound i hil
  clear hfi hsr
  by_cases hx : t.counts.getD i 0 = n
  · have hd : decide (i < t.counts.length ∧ t.counts.getD i 0 = n) = true := decide_eq_true ⟨hil, hx⟩
    rw [hd]
    have HIN := Lib.hid (hin.out.trans (if_pos hx))
    clear hd hx hin hne hcr hcc hcc2
    generalize row.getD i 0 = ri at *
    go_wp2_with fail
    go_ret
    exact ⟨ret_int HIN.out.symm, XX⟩
  · have hd : decide (i < t.counts.length ∧ t.counts.getD i 0 = n) = false := decide_eq_false (fun h => hx h.2)
    rw [hd]
    obtain ⟨h1i, hlo, hhi⟩ := hne hx
    have HIN := Lib.hid (hin.out.trans (if_neg hx))
    have hcr' := (hv7.get (i - 1) (by omega))
    have hcc' := (hC.counts.get (i - 1) (by omega))
    obtain ⟨_, _, e1, hcr'⟩ := hcr'
    cases e1
    obtain ⟨_, _, e1, hcc'⟩ := hcc'
    cases e1
    have hcr3 := XX.keep hcr'
    have hcc3 := XX.keep hcc'
    have brj := hro.bound (i - 1) (by omega)
    have bcj := HCO.out.bound (i - 1) (by omega)
    clear hd hx hin hne hcr hcc hcr' hcc'
    generalize row.getD i 0 = ri at *
    generalize row.getD (i - 1) 0 = rj at *
    generalize t.counts.getD i 0 = ci at *
    generalize t.counts.getD (i - 1) 0 = cj at *
    go_wp2_with fail
    go_quiet (fail)
    go_wp2_with fail
    go_quiet (fail)
    go_wp2_with fail
    go_ret
    exact ⟨ret_int ((interp_wrap brj.1 brj.2 bri.1 bri.2 bci.1 bci.2 bcj.1 hlo hhi).trans HIN.out.symm), (XX.drewN _).drewN _⟩
end Go.Proofs.Ytfjecbfcnngacaa
