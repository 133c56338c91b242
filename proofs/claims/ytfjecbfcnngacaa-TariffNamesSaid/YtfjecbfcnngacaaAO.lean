/- The reference: the part. -/
import Derived.Test.YtfjecbfcnngacaaAN
namespace Go.Proofs.Ytfjecbfcnngacaa
open Go.RowKit Go.Hs
attribute [local irreducible] World.setCell World.alloc

set_option maxRecDepth 100000 in
set_option maxHeartbeats 2000000 in
theorem RefPart_any (v : Value) (l : List Tar) (cr d n : Int) (w : World) (hv : TarsV w v l) (hl : ValidL l) (h0 : 0 ≤ cr) (h1 : cr < cropsN l) (hd : 0 ≤ d) (hn0 : 0 ≤ n) (hn1 : n ≤ 100) :
    Calls Try.prog 26 #[v, .int .i64 cr, .int .i64 d, .int .i64 n] w fun e w' => e = .returned (.int .i64 (partS l cr d n)) ∧ Ext w w' := by
  have hof := Of_any v l d w hv hl hd
  obtain ⟨hvt, hcr⟩ := hl.at hd
  have hls : ∀ u W, TarU W u (atS l d) → Calls Try.prog 68 #[u.val, .int .i64 cr, .int .i64 d, .int .i64 n] W fun e w' => e = .returned (.int .i64 (lossS l cr d n)) ∧ Ext W w' :=
    fun u W hu => RefLoss_any u (atS l d) cr d n W hu hvt h0 (by omega) hd hn0 hn1
  have hb := lossS_bd hl h0 h1 hd hn0 hn1
  have hlb := hvt.least
  have hps : Hid (partS l cr d n = if (atS l d).least ≤ lossS l cr d n then (if (atS l d).whole then lossS l cr d n else lossS l cr d n - (atS l d).least) else 0) := rfl
  clear hvt hcr hl
  generalize partS l cr d n = res at *
  generalize lossS l cr d n = lo at *
  have HLS := Lib.hid hls
  clear hls
  obtain ⟨a, c, rfl, -⟩ := hv
  go_enter Try.func26, Try.ntmps26
  go_wp2_with fail
  (with_reducible refine hof.mono ?_)
  rintro e w1 ⟨u, rfl, hu, hx1⟩
  clear hof
  have HU := Lib.hid hu
  obtain ⟨a3, k3, a4, k4, a5, k5, rfl⟩ := hu.slices
  clear hu
  have HU2 : Hid (TarU (w1.alloc (.cells #[.int .i64 (atS l d).start, .bool (atS l d).whole, .int .i64 (atS l d).least, .slice a3 (atS l d).weeks.length k3, .slice a4 (atS l d).counts.length k4, .slice a5 (atS l d).rates.length k5] 62)) ⟨.int .i64 (atS l d).start, .bool (atS l d).whole, .int .i64 (atS l d).least, .slice a3 (atS l d).weeks.length k3, .slice a4 (atS l d).counts.length k4, .slice a5 (atS l d).rates.length k5⟩ (atS l d)) := HU.out.ext (hx1.alloc _)
  have hcall := HLS.out _ _ HU2.out
  clear HLS HU HU2
  generalize atS l d = t at *
  go_wp2_with fail
  (with_reducible refine hcall.mono ?_)
  rintro e w2 ⟨rfl, hx2⟩
  clear hcall
  have q1 := hx2.keep (k := w1.heap.size) (o := 1) (v := .bool t.whole) (by simp)
  have q2 := hx2.keep (k := w1.heap.size) (o := 2) (v := .int .i64 t.least) (by simp)
  have XX : Ext w w2 := by (repeat (first | exact Ext.refl _ | (with_reducible assumption) | (with_reducible refine Ext.drew ?_) | (with_reducible refine Ext.alloc ?_ _) | (with_reducible refine Ext.drewN ?_ _) | (with_reducible refine Ext.setCell ?_ (by omega) _) | (with_reducible refine Ext.trans ?_ (by with_reducible assumption))))
  by_cases hlt : lo < t.least
  · have HE : Hid (res = 0) := by rw [hps.out, if_neg (by omega)]; exact Lib.hid rfl
    clear hps
    go_wp2_with fail
    go_ret
    exact ⟨ret_int HE.out.symm, XX⟩
  · cases hw : t.whole with
    | true =>
      have HE : Hid (res = lo) := by rw [hps.out, if_pos (by omega), if_pos hw]; exact Lib.hid rfl
      rw [hw] at q1
      clear hps hw
      go_wp2_with fail
      go_ret
      exact ⟨ret_int HE.out.symm, XX⟩
    | false =>
      have HE : Hid (res = lo - t.least) := by rw [hps.out, if_pos (by omega), if_neg (by rw [hw]; decide)]; exact Lib.hid rfl
      rw [hw] at q1
      clear hps hw
      go_wp2_with fail
      go_ret
      exact ⟨ret_int HE.out.symm, XX⟩
end Go.Proofs.Ytfjecbfcnngacaa
