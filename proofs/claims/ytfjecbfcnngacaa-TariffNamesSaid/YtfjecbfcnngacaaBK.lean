/- The reference: the bounds of a claim, the verdict. -/
import Derived.Test.YtfjecbfcnngacaaBJ
import Derived.RegionTactic
import Derived.BigRegion
namespace Go.Proofs.Ytfjecbfcnngacaa
open Go.RowKit Go.Hs
attribute [local irreducible] World.setCell World.alloc

set_option maxRecDepth 100000 in
theorem Verdict_any (lo hi : Int) (w : World) (h : lo ≤ hi) (h0 : 0 ≤ lo) : Calls Try.prog 35 #[.agg #[.int .i64 lo, .int .i64 hi]] w fun e w' => e = .returned (.int .i64 (verdictS lo hi)) ∧ Ext w w' := by
  have HV : Hid (verdictS lo hi = if 0 < lo then 1 else if 0 < hi then 3 else 2) := rfl
  generalize verdictS lo hi = r at *
  by_cases h1 : 0 < lo
  · have HE : Hid (r = 1) := Lib.hid (by rw [HV.out, if_pos h1])
    clear HV
    go_enter Try.func35, Try.ntmps35
    go_wp2_with fail
    go_ret
    exact ⟨ret_int HE.out.symm, by (repeat (first | exact Ext.refl _ | (with_reducible assumption) | (with_reducible refine Ext.drew ?_) | (with_reducible refine Ext.alloc ?_ _) | (with_reducible refine Ext.drewN ?_ _) | (with_reducible refine Ext.setCell ?_ (by omega) _) | (with_reducible refine Ext.trans ?_ (by with_reducible assumption))))⟩
  · by_cases h2 : hi = 0
    · have HE : Hid (r = 2) := Lib.hid (by rw [HV.out, if_neg h1, if_neg (by omega)])
      have hb : (hi == 0) = true := by rw [beq_iff_eq]; exact h2
      clear HV h2
      go_enter Try.func35, Try.ntmps35
      go_wp2_with fail
      go_ret
      exact ⟨ret_int HE.out.symm, by (repeat (first | exact Ext.refl _ | (with_reducible assumption) | (with_reducible refine Ext.drew ?_) | (with_reducible refine Ext.alloc ?_ _) | (with_reducible refine Ext.drewN ?_ _) | (with_reducible refine Ext.setCell ?_ (by omega) _) | (with_reducible refine Ext.trans ?_ (by with_reducible assumption))))⟩
    · have HE : Hid (r = 3) := Lib.hid (by rw [HV.out, if_neg h1, if_pos (by omega)])
      have hb : (hi == 0) = false := by rw [beq_eq_false_iff_ne]; exact h2
      clear HV h2
      go_enter Try.func35, Try.ntmps35
      go_wp2_with fail
      go_ret
      exact ⟨ret_int HE.out.symm, by (repeat (first | exact Ext.refl _ | (with_reducible assumption) | (with_reducible refine Ext.drew ?_) | (with_reducible refine Ext.alloc ?_ _) | (with_reducible refine Ext.drewN ?_ _) | (with_reducible refine Ext.setCell ?_ (by omega) _) | (with_reducible refine Ext.trans ?_ (by with_reducible assumption))))⟩

set_option maxRecDepth 100000 in
set_option maxHeartbeats 4000000 in
theorem RefBounds_any (v : Value) (l : List Tar) (c : Cla) (w : World) (hv : TarsV w v l) (hl : ValidL l) (hc : ClaimOK l c) :
    Calls Try.prog 32 #[v, c.u.val] w fun e w' =>
      e = .returned (.tuple #[.agg #[.int .i64 (endsS l c).lo, .int .i64 (endsS l c).hi], .agg #[.int .i64 (endsS l c).ld, .int .i64 (endsS l c).ln], .agg #[.int .i64 (endsS l c).hd, .int .i64 (endsS l c).hn]]) ∧ Ext w w' := by
  have HPY : Hid (∀ d n W, Ext w W → 0 ≤ d → 0 ≤ n → n ≤ 100 → Calls Try.prog 47 #[v, c.u.val, .agg #[.int .i64 d, .int .i64 n]] W fun e w' => e = .returned (.int .i64 (payS l c d n)) ∧ Ext W w') :=
    fun d n W hx h0 h1 h2 => RefPay_any v l c d n W (hv.ext hx) hl hc h0 h1 h2
  have HPB : Hid (∀ d n, 0 ≤ d → 0 ≤ n → n ≤ 100 → 0 ≤ payS l c d n ∧ payS l c d n ≤ 10000000) := fun d n h0 h1 h2 => payS_bd hl hc h0 h1 h2
  have HFI := Lib.hid (ends_first hc)
  have hd := hc.day
  have hn := hc.count
  have HNX : Hid (∀ i j, endsTo l c i (j + 1) = (endsTo l c i j).next (payS l c (c.dlo + i) (c.clo + j)) (c.dlo + i) (c.clo + j)) := endsTo_next l c
  have HTU : Hid (∀ i, endsTo l c i (sizeOfR c.clo c.chi) = endsTo l c (i + 1) 0) := endsTo_turn l c
  have HEN : Hid (endsS l c = endsTo l c (sizeOfR c.dlo c.dhi) 0) := rfl
  have HST : Hid (endsTo l c 0 0 = ES.start) := rfl
  have HD : Hid ((sizeOfR c.dlo c.dhi : Int) = c.dhi - c.dlo + 1) := Lib.hid (by unfold sizeOfR; omega)
  have HC : Hid ((sizeOfR c.clo c.chi : Int) = c.chi - c.clo + 1) := Lib.hid (by unfold sizeOfR; omega)
  clear hl hc
  obtain ⟨a, k, rfl, -⟩ := hv
  generalize hq : endsTo l c = E at *
  clear hq
  generalize endsS l c = S at *
  generalize sizeOfR c.dlo c.dhi = D at *
  generalize sizeOfR c.clo c.chi = C at *
  generalize payS l c = P at *
  have HSP : Hid (w.heap.size + 7 = w.heap.size + 7) := rfl
  have HCC : Hid (c.u.val = c.u.val) := rfl
  obtain ⟨cr, va, dl, dh, cl, ch⟩ := c
  simp only at *
  have hdd := HD.out
  have hcc := HC.out
  go_enter Try.func32, Try.ntmps32
  go_wp2_with fail
  go_loopw [10, 11, 12, 13] (fun s10 _ _ _ wr => ∃ i : Nat, i ≤ D ∧ s10 = .int .i64 (dl + i) ∧ Hid (RB w ⟨cr, va, dl, dh, cl, ch⟩ (E i 0) wr)) (fun i _ _ _ _ => (dh + 1 - intOf i).toNat)
  case atStart =>
    refine ⟨0, Nat.zero_le _, by simp, ?_⟩
    rw [HST.out]
    exact Lib.hid ⟨by (repeat (first | exact Ext.refl _ | (with_reducible assumption) | (with_reducible refine Ext.drew ?_) | (with_reducible refine Ext.alloc ?_ _) | (with_reducible refine Ext.drewN ?_ _) | (with_reducible refine Ext.setCell ?_ (by omega) _) | (with_reducible refine Ext.trans ?_ (by with_reducible assumption)))), by simp [go_sem, Cell6], by simp [go_sem], by simp [go_sem], by simp [go_sem], by simp [go_sem], by simp [go_sem], by simp [go_sem], by simp [go_sem, loR, ES.start], by simp [go_sem, hiR, ES.start], by simp [go_sem, ES.start], by simp [go_sem, ES.start], by simp [go_sem, ES.start], by simp [go_sem, ES.start], fun i o hi => by
      rcases i with _ | _ | _ | _ | _ | _ | _ | i <;> first | (simp [go_sem]; done) | omega⟩
  case round =>
    obtain ⟨i, hi, rfl, HB⟩ := hrel
    obtain ⟨wo, rfl⟩ : ∃ x, x = wr := ⟨_, rfl⟩
    by_cases hlt : i < D
    · have hb := HB.out
      obtain ⟨q0, q1, q2, q3, q4, q5⟩ := hb.cb
      simp only [Nat.zero_add] at q0 q1 q2 q3 q4 q5
      have hle : dl + (i : Int) ≤ dh := by omega
      have hl0 : 0 ≤ dl + (i : Int) := by omega
      have hl1 : dl + (i : Int) ≤ 120 := by omega
      clear hb q0 q1
      go_wp2_with fail
      go_loopw [11, 12, 13] (fun s11 _ _ wr => ∃ j : Nat, j ≤ C ∧ s11 = .int .i64 (cl + j) ∧ Hid (RB w ⟨cr, va, dl, dh, cl, ch⟩ (E i j) wr)) (fun i _ _ _ => (ch + 1 - intOf i).toNat)
      case atStart => exact ⟨0, Nat.zero_le _, by simp, HB.out⟩
      case round =>
        obtain ⟨j, hj, rfl, HZ⟩ := hrel
        obtain ⟨wz, rfl⟩ : ∃ x, x = wr := ⟨_, rfl⟩
        have hb := HZ.out
        clear q2 q3 q4 q5
        obtain ⟨q0, q1, q2, q3, q4, q5⟩ := hb.cb
        simp only [Nat.zero_add] at q0 q1 q2 q3 q4 q5
        have hxz := hb.ext
        clear hb
        by_cases hjt : j < C
        · have hcl : cl + (j : Int) ≤ ch := by omega
          have hc0 : 0 ≤ cl + (j : Int) := by omega
          have hc1 : cl + (j : Int) ≤ 100 := by omega
          have hpy := HPY.out (dl + i) (cl + j) (wz.alloc (.cells #[.int .i64 (dl + i), .int .i64 (cl + j)] 52)) (hxz.alloc _) hl0 hc0 hc1
          obtain ⟨hp0, hp1⟩ := HPB.out (dl + i) (cl + j) hl0 hc0 hc1
          have HE := Lib.hid (HNX.out i j)
          obtain ⟨n1, n2, n3⟩ := next_low (s := E i j) (d := dl + i) (n := cl + j) hp0 hp1
          obtain ⟨n4, n5, n6⟩ := next_high (s := E i j) (d := dl + i) (n := cl + j) hp0
          have HNN : Hid (∀ W, RBI w ⟨cr, va, dl, dh, cl, ch⟩ (if P (dl + i) (cl + j) < loR (E i j) then P (dl + i) (cl + j) else loR (E i j)) (if hiR (E i j) < P (dl + i) (cl + j) then P (dl + i) (cl + j) else hiR (E i j)) (if P (dl + i) (cl + j) < loR (E i j) then dl + i else (E i j).ld) (if P (dl + i) (cl + j) < loR (E i j) then cl + j else (E i j).ln) (if hiR (E i j) < P (dl + i) (cl + j) then dl + i else (E i j).hd) (if hiR (E i j) < P (dl + i) (cl + j) then cl + j else (E i j).hn) W → RB w ⟨cr, va, dl, dh, cl, ch⟩ (E i (j + 1)) W) := fun W h => by
            rw [HE.out]
            unfold RB
            rw [n1, n2, n3, n4, n5, n6]
            exact h
          have HRZ : Hid (RBI w ⟨cr, va, dl, dh, cl, ch⟩ (loR (E i j)) (hiR (E i j)) (E i j).ld (E i j).ln (E i j).hd (E i j).hn wz) := HZ.out
          clear n1 n2 n3 n4 n5 n6 HE HZ
          have y0 : ∀ o, (wz.alloc o).cell? ⟨w.heap.size, 0, none⟩ = some (.int .i64 cr) := fun o => ((Ext.refl wz).alloc o).keep q0
          have y1 : ∀ o, (wz.alloc o).cell? ⟨w.heap.size, 1, none⟩ = some (.int .i64 va) := fun o => ((Ext.refl wz).alloc o).keep q1
          have y2 : ∀ o, (wz.alloc o).cell? ⟨w.heap.size, 2, none⟩ = some (.int .i64 dl) := fun o => ((Ext.refl wz).alloc o).keep q2
          have y3 : ∀ o, (wz.alloc o).cell? ⟨w.heap.size, 3, none⟩ = some (.int .i64 dh) := fun o => ((Ext.refl wz).alloc o).keep q3
          have y4 : ∀ o, (wz.alloc o).cell? ⟨w.heap.size, 4, none⟩ = some (.int .i64 cl) := fun o => ((Ext.refl wz).alloc o).keep q4
          have y5 : ∀ o, (wz.alloc o).cell? ⟨w.heap.size, 5, none⟩ = some (.int .i64 ch) := fun o => ((Ext.refl wz).alloc o).keep q5
          generalize P (dl + i) (cl + j) = p at *
          generalize loR (E i j) = lo at *
          generalize hiR (E i j) = hi' at *
          generalize (E i j).ld = ld at *
          generalize (E i j).ln = ln at *
          generalize (E i j).hd = hd' at *
          generalize (E i j).hn = hn' at *
          go_wp2_with fail
          (with_reducible refine hpy.mono ?_)
          rintro e w3 ⟨rfl, hx3⟩
          have HB3 := Lib.hid (HRZ.out.keep (((Ext.refl wz).alloc _).trans hx3))
          have t0 := hx3.keep (k := wz.heap.size) (o := 0) (v := .int .i64 (dl + i)) (by simp)
          have t1 := hx3.keep (k := wz.heap.size) (o := 1) (v := .int .i64 (cl + j)) (by simp)
          have hlt7 : w.heap.size + 6 < wz.heap.size := lt_of_cell HRZ.out.h0
          clear q0 q1 q2 q3 q4 q5 y0 y1 y2 y3 y4 y5 hpy hx3 HRZ
          have r0 : w3.cell? ⟨w.heap.size + 1 + 1 + 1 + 1, 0, none⟩ = some (.int .i64 lo) := HB3.out.r0
          have r1 : w3.cell? ⟨w.heap.size + 1 + 1 + 1 + 1, 1, none⟩ = some (.int .i64 hi') := HB3.out.r1
          have l0 : w3.cell? ⟨w.heap.size + 1 + 1 + 1 + 1 + 1, 0, none⟩ = some (.int .i64 ld) := HB3.out.l0
          have l1 : w3.cell? ⟨w.heap.size + 1 + 1 + 1 + 1 + 1, 1, none⟩ = some (.int .i64 ln) := HB3.out.l1
          have h0 : w3.cell? ⟨w.heap.size + 1 + 1 + 1 + 1 + 1 + 1, 0, none⟩ = some (.int .i64 hd') := HB3.out.h0
          have h1 : w3.cell? ⟨w.heap.size + 1 + 1 + 1 + 1 + 1 + 1, 1, none⟩ = some (.int .i64 hn') := HB3.out.h1
          have f40 : w3.frozen? ⟨w.heap.size + 1 + 1 + 1 + 1, 0, none⟩ = false := HB3.out.fz 4 0 (by omega)
          have f41 : w3.frozen? ⟨w.heap.size + 1 + 1 + 1 + 1, 1, none⟩ = false := HB3.out.fz 4 1 (by omega)
          have f50 : w3.frozen? ⟨w.heap.size + 1 + 1 + 1 + 1 + 1, 0, none⟩ = false := HB3.out.fz 5 0 (by omega)
          have f51 : w3.frozen? ⟨w.heap.size + 1 + 1 + 1 + 1 + 1, 1, none⟩ = false := HB3.out.fz 5 1 (by omega)
          have f60 : w3.frozen? ⟨w.heap.size + 1 + 1 + 1 + 1 + 1 + 1, 0, none⟩ = false := HB3.out.fz 6 0 (by omega)
          have f61 : w3.frozen? ⟨w.heap.size + 1 + 1 + 1 + 1 + 1 + 1, 1, none⟩ = false := HB3.out.fz 6 1 (by omega)
          by_cases hlow : p < lo
          · rw [if_pos hlow, if_pos hlow, if_pos hlow] at HNN
            have HB4 : Hid (RBI w ⟨cr, va, dl, dh, cl, ch⟩ p hi' (dl + i) (cl + j) hd' hn' ((((w3.setCell ⟨w.heap.size + 1 + 1 + 1 + 1, 0, none⟩ (.int .i64 p)).setCell ⟨w.heap.size + 1 + 1 + 1 + 1 + 1, 0, none⟩ (.int .i64 (dl + i))).setCell ⟨w.heap.size + 1 + 1 + 1 + 1 + 1, 1, none⟩ (.int .i64 (cl + j))).drew)) := Lib.hid ((RBI.setL (RBI.setLo HB3.out)).keep (Ext.refl _).drew)
            have t0' : ((((w3.setCell ⟨w.heap.size + 1 + 1 + 1 + 1, 0, none⟩ (.int .i64 p)).setCell ⟨w.heap.size + 1 + 1 + 1 + 1 + 1, 0, none⟩ (.int .i64 (dl + i))).setCell ⟨w.heap.size + 1 + 1 + 1 + 1 + 1, 1, none⟩ (.int .i64 (cl + j))).drew).cell? ⟨wz.heap.size, 0, none⟩ = some (.int .i64 (dl + i)) := (Ext.refl _).drew.keep (set_other (by omega) (set_other (by omega) (set_other (by omega) t0)))
            have t1' : ((((w3.setCell ⟨w.heap.size + 1 + 1 + 1 + 1, 0, none⟩ (.int .i64 p)).setCell ⟨w.heap.size + 1 + 1 + 1 + 1 + 1, 0, none⟩ (.int .i64 (dl + i))).setCell ⟨w.heap.size + 1 + 1 + 1 + 1 + 1, 1, none⟩ (.int .i64 (cl + j))).drew).cell? ⟨wz.heap.size, 1, none⟩ = some (.int .i64 (cl + j)) := (Ext.refl _).drew.keep (set_other (by omega) (set_other (by omega) (set_other (by omega) t1)))
            go_wp2_with fail
            go_region
            by_cases hhigh : hi' < p
            · rw [if_pos hhigh, if_pos hhigh, if_pos hhigh] at HNN
              go_wp2_with fail
              generalize (((w3.setCell ⟨w.heap.size + 1 + 1 + 1 + 1, 0, none⟩ (.int .i64 p)).setCell ⟨w.heap.size + 1 + 1 + 1 + 1 + 1, 0, none⟩ (.int .i64 (dl + i))).setCell ⟨w.heap.size + 1 + 1 + 1 + 1 + 1, 1, none⟩ (.int .i64 (cl + j))).drew = W4 at *
              clear r0 r1 l0 l1 h0 h1 f40 f41 f50 f51 f60 f61 t0 t1
              have r0 : W4.cell? ⟨w.heap.size + 1 + 1 + 1 + 1, 0, none⟩ = some (.int .i64 p) := HB4.out.r0
              have r1 : W4.cell? ⟨w.heap.size + 1 + 1 + 1 + 1, 1, none⟩ = some (.int .i64 hi') := HB4.out.r1
              have h0 : W4.cell? ⟨w.heap.size + 1 + 1 + 1 + 1 + 1 + 1, 0, none⟩ = some (.int .i64 hd') := HB4.out.h0
              have h1 : W4.cell? ⟨w.heap.size + 1 + 1 + 1 + 1 + 1 + 1, 1, none⟩ = some (.int .i64 hn') := HB4.out.h1
              have f41 : W4.frozen? ⟨w.heap.size + 1 + 1 + 1 + 1, 1, none⟩ = false := HB4.out.fz 4 1 (by omega)
              have f60 : W4.frozen? ⟨w.heap.size + 1 + 1 + 1 + 1 + 1 + 1, 0, none⟩ = false := HB4.out.fz 6 0 (by omega)
              have f61 : W4.frozen? ⟨w.heap.size + 1 + 1 + 1 + 1 + 1 + 1, 1, none⟩ = false := HB4.out.fz 6 1 (by omega)
              have HB9 : Hid (RBI w ⟨cr, va, dl, dh, cl, ch⟩ p p (dl + i) (cl + j) (dl + i) (cl + j) ((((W4.setCell ⟨w.heap.size + 1 + 1 + 1 + 1, 1, none⟩ (.int .i64 p)).setCell ⟨w.heap.size + 1 + 1 + 1 + 1 + 1 + 1, 0, none⟩ (.int .i64 (dl + i))).setCell ⟨w.heap.size + 1 + 1 + 1 + 1 + 1 + 1, 1, none⟩ (.int .i64 (cl + j))).drew)) := Lib.hid ((RBI.setH (RBI.setHi HB4.out)).keep (Ext.refl _).drew)
              go_region
              go_wp2_with fail
              go_roundw
              case rel => exact ⟨j + 1, by omega, by first | go_num | (congr 1; omega), HNN.out _ HB9.out⟩
              case measure => simp [intOf]; omega
            · rw [if_neg hhigh, if_neg hhigh, if_neg hhigh] at HNN
              have HB9 := HB4
              go_wp2_with fail
              go_roundw
              case rel => exact ⟨j + 1, by omega, by first | go_num | (congr 1; omega), HNN.out _ HB9.out⟩
              case measure => simp [intOf]; omega
          · rw [if_neg hlow, if_neg hlow, if_neg hlow] at HNN
            by_cases hhigh : hi' < p
            · rw [if_pos hhigh, if_pos hhigh, if_pos hhigh] at HNN
              have HB9 : Hid (RBI w ⟨cr, va, dl, dh, cl, ch⟩ lo p ld ln (dl + i) (cl + j) ((((w3.setCell ⟨w.heap.size + 1 + 1 + 1 + 1, 1, none⟩ (.int .i64 p)).setCell ⟨w.heap.size + 1 + 1 + 1 + 1 + 1 + 1, 0, none⟩ (.int .i64 (dl + i))).setCell ⟨w.heap.size + 1 + 1 + 1 + 1 + 1 + 1, 1, none⟩ (.int .i64 (cl + j))).drew)) := Lib.hid ((RBI.setH (RBI.setHi HB3.out)).keep (Ext.refl _).drew)
              go_wp2_with fail
              go_region
              go_wp2_with fail
              go_roundw
              case rel => exact ⟨j + 1, by omega, by first | go_num | (congr 1; omega), HNN.out _ HB9.out⟩
              case measure => simp [intOf]; omega
            · rw [if_neg hhigh, if_neg hhigh, if_neg hhigh] at HNN
              have HB9 := HB3
              go_wp2_with fail
              go_roundw
              case rel => exact ⟨j + 1, by omega, by first | go_num | (congr 1; omega), HNN.out _ HB9.out⟩
              case measure => simp [intOf]; omega
        · have ej : j = C := by omega
          subst ej
          have HZ' : Hid (RB w ⟨cr, va, dl, dh, cl, ch⟩ (E (i + 1) 0) wz) := by rw [← HTU.out i]; exact HZ
          have hgt : ¬ cl + (j : Int) ≤ ch := by omega
          go_wp2_with fail
          go_roundw
          case rel => exact ⟨i + 1, by omega, by first | go_num | (congr 1; omega), HZ'.out⟩
          case measure => simp [intOf]; omega
    · have ei : i = D := by omega
      subst ei
      have hb := HB.out
      unfold RB at hb
      rw [← HEN.out] at hb
      have e1 : loR S = S.lo := by unfold loR; rw [HFI.out]; rfl
      have e2 : hiR S = S.hi := by unfold hiR; rw [HFI.out]; rfl
      rw [e1, e2] at hb
      have HBB := Lib.hid hb
      obtain ⟨q0, q1, q2, q3, q4, q5⟩ := hb.cb
      simp only [Nat.zero_add] at q0 q1 q2 q3 q4 q5
      have hgt : ¬ dl + (i : Int) ≤ dh := by omega
      clear hb e1 e2
      have x0 : wo.cell? ⟨w.heap.size + 1, 0, none⟩ = some (.int .i64 0) := HBB.out.a0
      have x1 : wo.cell? ⟨w.heap.size + 1, 1, none⟩ = some (.int .i64 0) := HBB.out.a1
      have x2 : wo.cell? ⟨w.heap.size + 1 + 1, 0, none⟩ = some (.int .i64 0) := HBB.out.b0
      have x3 : wo.cell? ⟨w.heap.size + 1 + 1, 1, none⟩ = some (.int .i64 0) := HBB.out.b1
      have x4 : wo.cell? ⟨w.heap.size + 1 + 1 + 1, 0, none⟩ = some (.int .i64 0) := HBB.out.c0
      have x5 : wo.cell? ⟨w.heap.size + 1 + 1 + 1, 1, none⟩ = some (.int .i64 0) := HBB.out.c1
      have x6 : wo.cell? ⟨w.heap.size + 1 + 1 + 1 + 1, 0, none⟩ = some (.int .i64 S.lo) := HBB.out.r0
      have x7 : wo.cell? ⟨w.heap.size + 1 + 1 + 1 + 1, 1, none⟩ = some (.int .i64 S.hi) := HBB.out.r1
      have x8 : wo.cell? ⟨w.heap.size + 1 + 1 + 1 + 1 + 1, 0, none⟩ = some (.int .i64 S.ld) := HBB.out.l0
      have x9 : wo.cell? ⟨w.heap.size + 1 + 1 + 1 + 1 + 1, 1, none⟩ = some (.int .i64 S.ln) := HBB.out.l1
      have x10 : wo.cell? ⟨w.heap.size + 1 + 1 + 1 + 1 + 1 + 1, 0, none⟩ = some (.int .i64 S.hd) := HBB.out.h0
      have x11 : wo.cell? ⟨w.heap.size + 1 + 1 + 1 + 1 + 1 + 1, 1, none⟩ = some (.int .i64 S.hn) := HBB.out.h1
      have z00 : wo.frozen? ⟨w.heap.size + 1, 0, none⟩ = false := HBB.out.fz 1 0 (by omega)
      have z01 : wo.frozen? ⟨w.heap.size + 1, 1, none⟩ = false := HBB.out.fz 1 1 (by omega)
      have z10 : wo.frozen? ⟨w.heap.size + 1 + 1, 0, none⟩ = false := HBB.out.fz 2 0 (by omega)
      have z11 : wo.frozen? ⟨w.heap.size + 1 + 1, 1, none⟩ = false := HBB.out.fz 2 1 (by omega)
      have z20 : wo.frozen? ⟨w.heap.size + 1 + 1 + 1, 0, none⟩ = false := HBB.out.fz 3 0 (by omega)
      have z21 : wo.frozen? ⟨w.heap.size + 1 + 1 + 1, 1, none⟩ = false := HBB.out.fz 3 1 (by omega)
      go_wp2_with fail
      go_region
      all_goals
        go_wp2_with fail
        have y0 : (((((((wo.setCell ⟨w.heap.size + 1, 0, none⟩ (.int .i64 S.lo)).setCell ⟨w.heap.size + 1, 1, none⟩ (.int .i64 S.hi)).setCell ⟨w.heap.size + 1 + 1, 0, none⟩ (.int .i64 S.ld)).setCell ⟨w.heap.size + 1 + 1, 1, none⟩ (.int .i64 S.ln)).setCell ⟨w.heap.size + 1 + 1 + 1, 0, none⟩ (.int .i64 S.hd)).setCell ⟨w.heap.size + 1 + 1 + 1, 1, none⟩ (.int .i64 S.hn)).drew).cell? ⟨w.heap.size + 1, 0, none⟩ = some (.int .i64 S.lo) := (Ext.refl _).drew.keep (set_other (by omega) (set_other (by omega) (set_other (by omega) (set_other (by omega) (set_off (by omega) (set_same HBB.out.a0))))))
        have y1 : (((((((wo.setCell ⟨w.heap.size + 1, 0, none⟩ (.int .i64 S.lo)).setCell ⟨w.heap.size + 1, 1, none⟩ (.int .i64 S.hi)).setCell ⟨w.heap.size + 1 + 1, 0, none⟩ (.int .i64 S.ld)).setCell ⟨w.heap.size + 1 + 1, 1, none⟩ (.int .i64 S.ln)).setCell ⟨w.heap.size + 1 + 1 + 1, 0, none⟩ (.int .i64 S.hd)).setCell ⟨w.heap.size + 1 + 1 + 1, 1, none⟩ (.int .i64 S.hn)).drew).cell? ⟨w.heap.size + 1, 1, none⟩ = some (.int .i64 S.hi) := (Ext.refl _).drew.keep (set_other (by omega) (set_other (by omega) (set_other (by omega) (set_other (by omega) (set_same (set_off (by omega) HBB.out.a1))))))
        have y2 : (((((((wo.setCell ⟨w.heap.size + 1, 0, none⟩ (.int .i64 S.lo)).setCell ⟨w.heap.size + 1, 1, none⟩ (.int .i64 S.hi)).setCell ⟨w.heap.size + 1 + 1, 0, none⟩ (.int .i64 S.ld)).setCell ⟨w.heap.size + 1 + 1, 1, none⟩ (.int .i64 S.ln)).setCell ⟨w.heap.size + 1 + 1 + 1, 0, none⟩ (.int .i64 S.hd)).setCell ⟨w.heap.size + 1 + 1 + 1, 1, none⟩ (.int .i64 S.hn)).drew).cell? ⟨w.heap.size + 1 + 1, 0, none⟩ = some (.int .i64 S.ld) := (Ext.refl _).drew.keep (set_other (by omega) (set_other (by omega) (set_off (by omega) (set_same (set_other (by omega) (set_other (by omega) HBB.out.b0))))))
        have y3 : (((((((wo.setCell ⟨w.heap.size + 1, 0, none⟩ (.int .i64 S.lo)).setCell ⟨w.heap.size + 1, 1, none⟩ (.int .i64 S.hi)).setCell ⟨w.heap.size + 1 + 1, 0, none⟩ (.int .i64 S.ld)).setCell ⟨w.heap.size + 1 + 1, 1, none⟩ (.int .i64 S.ln)).setCell ⟨w.heap.size + 1 + 1 + 1, 0, none⟩ (.int .i64 S.hd)).setCell ⟨w.heap.size + 1 + 1 + 1, 1, none⟩ (.int .i64 S.hn)).drew).cell? ⟨w.heap.size + 1 + 1, 1, none⟩ = some (.int .i64 S.ln) := (Ext.refl _).drew.keep (set_other (by omega) (set_other (by omega) (set_same (set_off (by omega) (set_other (by omega) (set_other (by omega) HBB.out.b1))))))
        have y4 : (((((((wo.setCell ⟨w.heap.size + 1, 0, none⟩ (.int .i64 S.lo)).setCell ⟨w.heap.size + 1, 1, none⟩ (.int .i64 S.hi)).setCell ⟨w.heap.size + 1 + 1, 0, none⟩ (.int .i64 S.ld)).setCell ⟨w.heap.size + 1 + 1, 1, none⟩ (.int .i64 S.ln)).setCell ⟨w.heap.size + 1 + 1 + 1, 0, none⟩ (.int .i64 S.hd)).setCell ⟨w.heap.size + 1 + 1 + 1, 1, none⟩ (.int .i64 S.hn)).drew).cell? ⟨w.heap.size + 1 + 1 + 1, 0, none⟩ = some (.int .i64 S.hd) := (Ext.refl _).drew.keep (set_off (by omega) (set_same (set_other (by omega) (set_other (by omega) (set_other (by omega) (set_other (by omega) HBB.out.c0))))))
        have y5 : (((((((wo.setCell ⟨w.heap.size + 1, 0, none⟩ (.int .i64 S.lo)).setCell ⟨w.heap.size + 1, 1, none⟩ (.int .i64 S.hi)).setCell ⟨w.heap.size + 1 + 1, 0, none⟩ (.int .i64 S.ld)).setCell ⟨w.heap.size + 1 + 1, 1, none⟩ (.int .i64 S.ln)).setCell ⟨w.heap.size + 1 + 1 + 1, 0, none⟩ (.int .i64 S.hd)).setCell ⟨w.heap.size + 1 + 1 + 1, 1, none⟩ (.int .i64 S.hn)).drew).cell? ⟨w.heap.size + 1 + 1 + 1, 1, none⟩ = some (.int .i64 S.hn) := (Ext.refl _).drew.keep (set_same (set_off (by omega) (set_other (by omega) (set_other (by omega) (set_other (by omega) (set_other (by omega) HBB.out.c1))))))
        exact bodyPost_ret (v := .tuple #[.agg #[.int .i64 S.lo, .int .i64 S.hi], .agg #[.int .i64 S.ld, .int .i64 S.ln], .agg #[.int .i64 S.hd, .int .i64 S.hn]]) (by simp [results, Try.results32, go_sem, y0, y1, y2, y3, y4, y5]) rfl ⟨rfl, Ext.drew ((((((HBB.out.ext.setCell (by omega) _).setCell (by omega) _).setCell (by omega) _).setCell (by omega) _).setCell (by omega) _).setCell (by omega) _)⟩
end Go.Proofs.Ytfjecbfcnngacaa
