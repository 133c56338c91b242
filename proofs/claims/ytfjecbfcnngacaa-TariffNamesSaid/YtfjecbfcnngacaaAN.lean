/- The reference: the loss, the part. -/
import Derived.Test.YtfjecbfcnngacaaAM
namespace Go.Proofs.Ytfjecbfcnngacaa
open Go.RowKit Go.Hs
attribute [local irreducible] World.setCell World.alloc

set_option maxRecDepth 100000 in
set_option maxHeartbeats 2000000 in
theorem RefLoss_any (u : V6) (t : Tar) (cr d n : Int) (w : World) (h : TarU w u t) (hv : ValidT t) (h0 : 0 ≤ cr) (h1 : cr < t.rates.length) (hd : 0 ≤ d) (hn0 : 0 ≤ n) (hn1 : n ≤ 100) :
    Calls Try.prog 68 #[u.val, .int .i64 cr, .int .i64 d, .int .i64 n] w fun e w' => e = .returned (.int .i64 (interp t.counts ((t.rates.getD cr.toNat []).getD (weekTo t.weeks d t.weeks.length) []) n)) ∧ Ext w w' := by
  have HT := h
  have hco := hv.countsOK
  have hwup := hv.weeks.up hd
  have hcup := hv.counts.up hn0
  obtain ⟨a3, k3, a4, k4, a5, k5, rfl⟩ := h.slices
  obtain ⟨-, -, -, hC⟩ := h
  obtain ⟨cn, rfl⟩ := Int.eq_ofNat_of_zero_le h0
  have hcn : cn < t.rates.length := by omega
  have hrows := hv.rows cn hcn
  have hwlt := hv.week_lt d
  have hro := hrows.2 _ hwlt
  have hw : weekTo t.weeks d t.weeks.length < (t.rates.getD cn []).length := by rw [hrows.1]; exact hwlt
  simp only [Int.toNat_natCast] at ⊢
  have hl4 := hC.counts.len_le.2
  obtain ⟨b5, o5, a6, c6, rfl, hc5, hv6⟩ := hC.rates.get cn hcn
  obtain ⟨b6, o6, a7, c7, rfl, hc6, hv7⟩ := hv6.get _ hw
  have X := ((Ext.refl w).alloc (.cells #[.int .i64 t.start, .bool t.whole, .int .i64 t.least, .slice a3 t.weeks.length k3, .slice a4 t.counts.length k4, .slice (some ⟨b5, o5, none⟩) t.rates.length k5] 62))
  have HL1 : Hid (∀ W', Ext w W' → Calls Try.prog 39 #[.slice a3 t.weeks.length k3, .int .i64 d] W' (fun e w' => e = .returned (.int .i64 (weekTo t.weeks d t.weeks.length : Nat)) ∧ Ext W' w')) :=
    fun W' hx => (LastUp_any _ _ d W' (hC.weeks.ext hx) hwup).mono fun e w' h => ⟨h.1, h.2 ▸ Ext.refl _⟩
  have HL2 : Hid (∀ W', Ext w W' → Calls Try.prog 39 #[.slice a4 t.counts.length k4, .int .i64 n] W' (fun e w' => e = .returned (.int .i64 (weekTo t.counts n t.counts.length : Nat)) ∧ W' = w')) :=
    fun W' hx => LastUp_any _ _ n W' (hC.counts.ext hx) hcup
  have HIL := Lib.hid (fun row => interp_last (row := row) hco hn0 hn1 rfl hcup.lastP)
  have hrl : (t.rates.getD cn []).length ≤ 140737488351232 := hv6.len_le.2
  have hrw : ((t.rates.getD cn []).getD (weekTo t.weeks d t.weeks.length) []).length ≤ 140737488351232 := hv7.len_le.2
  have hk3 : t.weeks.length ≤ 140737488351232 := hC.weeks.len_le.2
  have hk5 : t.rates.length ≤ 140737488351232 := hC.rates.len_le.2
  have HCV := Lib.hid hC.counts
  have HV7 := Lib.hid hv7
  have HCO := Lib.hid hco
  have hrol := hro.len
  have HRL := Lib.hid hrol
  have HRB := Lib.hid hro.bound
  clear hC hv6 hv7 hv hco hrows hwup hcup HT hro hrol hcn h0
  have hcn : cn < t.rates.length := by omega
  generalize hwn : weekTo t.weeks d t.weeks.length = wn at *
  generalize hrow : (t.rates.getD cn []).getD wn [] = row at *
  generalize t.rates.getD cn [] = cw at *
  have HIR := Lib.hid (HIL.out row)
  clear HIL hwn hrow
  generalize interp t.counts row n = res at *
  go_enter Try.func68, Try.ntmps68
  go_wp2_with fail
  generalize hW : (w.alloc (.cells #[.int .i64 t.start, .bool t.whole, .int .i64 t.least, .slice a3 t.weeks.length k3, .slice a4 t.counts.length k4, .slice (some ⟨b5, o5, none⟩) t.rates.length k5] 62)) = W at *
  have t3 : W.cell? ⟨w.heap.size, 3, none⟩ = some (.slice a3 t.weeks.length k3) := by rw [← hW]; simp
  have t4 : W.cell? ⟨w.heap.size, 4, none⟩ = some (.slice a4 t.counts.length k4) := by rw [← hW]; simp
  have t5 : W.cell? ⟨w.heap.size, 5, none⟩ = some (.slice (some ⟨b5, o5, none⟩) t.rates.length k5) := by rw [← hW]; simp
  have m5 := X.keep hc5
  have m6 := X.keep hc6
  clear hW hc5 hc6
  have g3 : ∀ w', Ext W w' → w'.cell? ⟨w.heap.size, 3, none⟩ = some (.slice a3 t.weeks.length k3) := fun w' h => h.keep t3
  have g5 : ∀ w', Ext W w' → w'.cell? ⟨w.heap.size, 5, none⟩ = some (.slice (some ⟨b5, o5, none⟩) t.rates.length k5) := fun w' h => h.keep t5
  have g6 : ∀ w', Ext W w' → w'.cell? ⟨b5, o5 + cn, none⟩ = some (.slice (some ⟨b6, o6, none⟩) cw.length c6) := fun w' h => h.keep m5
  have g7 : ∀ w', Ext W w' → w'.cell? ⟨b6, o6 + wn, none⟩ = some (.slice a7 row.length c7) := fun w' h => h.keep m6
  refine wp_region_quiet (C := Ext W) (by kernel_rfl) (by kernel_rfl) (Ext.drew (by (repeat (first | exact Ext.refl _ | (with_reducible assumption) | (with_reducible refine Ext.drew ?_) | (with_reducible refine Ext.alloc ?_ _) | (with_reducible refine Ext.drewN ?_ _) | (with_reducible refine Ext.setCell ?_ (by omega) _) | (with_reducible refine Ext.trans ?_ (by with_reducible assumption)))))) ?_
  rw [show ∀ (l : List Oper), l.toArray.toList = l from fun l => rfl]
  repeat (first
    | go_big_quiet_skip
    | (go_big_quiet_want
       first
        | (go_big_quiet_op; go_big_quiet_on)
        | (apply Exists.intro
           refine ⟨fun w' hxw => ?_, ?_⟩
           focus (have q3 := g3 w' hxw; have q5 := g5 w' hxw; have q6 := g6 w' hxw; have q7 := g7 w' hxw; go_simp; first | exact rfl | exact (HL1.out w' (X.trans hxw)).mono (fun e w'' h => ⟨h.1, hxw.trans h.2⟩))
           simp only [Act.put, List.setIfInBounds_toArray, List.set_cons_zero, List.set_cons_succ]
           go_big_quiet_on)))
  refine wpQuiet_nil ?_
  intro w2 hx2
  have XX := X.trans hx2
  have n4 := hx2.keep t4
  have hsr := HL2.out w2 XX
  clear t3 t4 t5 m5 m6 g3 g5 g6 g7 hx2
  go_wp2_with fail
  (with_reducible refine hsr.mono ?_)
  rintro e w3 ⟨rfl, rfl⟩
  clear hsr
  generalize weekTo t.counts n t.counts.length = i at *
  obtain ⟨hil, hyes, hno⟩ := HIR.out
  obtain ⟨bc, oc, rfl, hcc⟩ := HCV.out.get i hil
  have hir : i < row.length := by rw [HRL.out]; exact hil
  obtain ⟨br, or_, rfl, hcr⟩ := HV7.out.get i hir
  have hcc2 := XX.keep hcc
  have hcr2 := XX.keep hcr
  clear hcc hcr
  by_cases hx : t.counts.getD i 0 = n
  · have HE := Lib.hid (hyes hx)
    have hxb : (t.counts.getD i 0 == n) = true := by rw [beq_iff_eq]; exact hx
    clear hyes hno hx
    generalize row.getD i 0 = ri at *
    generalize t.counts.getD i 0 = ci at *
    go_wp2_with fail
    go_ret
    exact ⟨ret_int HE.out.symm, XX⟩
  · obtain ⟨hi1, hlo, hhi, he⟩ := hno hx
    have HE := Lib.hid he
    have hxb : (t.counts.getD i 0 == n) = false := by rw [beq_eq_false_iff_ne]; exact hx
    have hir1 : i + 1 < row.length := by rw [HRL.out]; exact hi1
    obtain ⟨_, _, e1, hcc'⟩ := HCV.out.get (i + 1) hi1
    cases e1
    obtain ⟨_, _, e1, hcr'⟩ := HV7.out.get (i + 1) hir1
    cases e1
    have hcc3 := XX.keep hcc'
    have hcr3 := XX.keep hcr'
    have bri := HRB.out i hir
    have brj := HRB.out (i + 1) hir1
    have bci := HCO.out.bound i hil
    have bcj := HCO.out.bound (i + 1) hi1
    clear hyes hno hx he hcc' hcr'
    generalize row.getD i 0 = ri at *
    generalize row.getD (i + 1) 0 = rj at *
    generalize t.counts.getD i 0 = ci at *
    generalize t.counts.getD (i + 1) 0 = cj at *
    have hw1 : IntKind.i64.wrap ((i : Int) + 1) = (i : Int) + 1 := IntWalk.i64_in _ (by omega)
    have hw2 : (0 : Int) ≤ (i : Int) + 1 := by omega
    have hw3 : ((i : Int) + 1).toNat = i + 1 := by omega
    have hw4 : (i : Int) + 1 < (row.length : Int) := by omega
    have hcr4 : w2.cell? ⟨br, or_ + i + 1, none⟩ = some (.int .i64 rj) := by rw [Nat.add_assoc]; exact hcr3
    have hcc4 : w2.cell? ⟨bc, oc + i + 1, none⟩ = some (.int .i64 cj) := by rw [Nat.add_assoc]; exact hcc3
    go_wp2_with fail
    go_quiet (fail)
    go_wp2_with fail
    go_ret
    exact ⟨ret_int ((interp_wrap bri.1 bri.2 brj.1 brj.2 bcj.1 bcj.2 bci.1 hlo hhi).trans HE.out.symm), XX.drewN _⟩
end Go.Proofs.Ytfjecbfcnngacaa
