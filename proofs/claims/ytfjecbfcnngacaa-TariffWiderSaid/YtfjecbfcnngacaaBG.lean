/- Contracts: a truth of a claim, by two numbers. -/
import Derived.Test.YtfjecbfcnngacaaBC
import Derived.StillTailTactics
namespace Go.Hs
open Go.RowKit
/-- The day and the count that are picked. -/
def pickX (lo hi n : Int) : Int := lo + n.tmod (hi - lo + 1)
theorem pick_bd {lo hi n : Int} (h : lo ≤ hi) (hn : 0 ≤ n) : lo ≤ pickX lo hi n ∧ pickX lo hi n ≤ hi := by
  have h1 : 0 ≤ n.tmod (hi - lo + 1) := by rw [Int.tmod_eq_emod_of_nonneg hn]; exact Int.emod_nonneg _ (by omega)
  have h2 : n.tmod (hi - lo + 1) < hi - lo + 1 := by rw [Int.tmod_eq_emod_of_nonneg hn]; exact Int.emod_lt_of_pos _ (by omega)
  unfold pickX
  omega
theorem u8_bounds' {n : Int} (h : (Lit.int .u8 n).wf = true) : 0 ≤ n ∧ n ≤ 255 := by
  have := bounds_u8 h; omega
end Go.Hs
namespace Go.Proofs.Ytfjecbfcnngacaa
open Go.RowKit Go.Hs
attribute [local irreducible] World.setCell World.alloc

set_option maxRecDepth 100000 in
set_option maxHeartbeats 2000000 in
theorem picked_any (l : List Tar) (c : Cla) (day count : Int) (w : World) (hc : ClaimOK l c) (h0 : 0 ≤ day) (h1 : day ≤ 255) (h2 : 0 ≤ count) (h3 : count ≤ 255) :
    Calls Try.prog 42 #[c.u.val, .int .u8 day, .int .u8 count] w fun e w' => e = .returned (.agg #[.int .i64 (pickX c.dlo c.dhi day), .int .i64 (pickX c.clo c.chi count)]) ∧ Ext w w' := by
  have hd := hc.day
  have hn := hc.count
  have pd := pick_bd hd.2.1 h0
  have pn := pick_bd hn.2.1 h2
  obtain ⟨cr, va, dl, dh, cl, ch⟩ := c
  simp only at *
  have HX : Hid (pickX dl dh day = dl + day.tmod (dh - dl + 1)) := rfl
  have HY : Hid (pickX cl ch count = cl + count.tmod (ch - cl + 1)) := rfl
  obtain ⟨x, hx⟩ : ∃ x, x = day.tmod (dh - dl + 1) := ⟨_, rfl⟩
  obtain ⟨y, hy⟩ : ∃ y, y = count.tmod (ch - cl + 1) := ⟨_, rfl⟩
  rw [← hx] at HX
  rw [← hy] at HY
  have hx0 := hx.symm
  have hy0 := hy.symm
  clear hx hy
  rw [HX.out] at pd
  rw [HY.out] at pn
  rw [HX.out, HY.out]
  clear HX HY
  have z1 : ¬ (dh - dl + 1) = 0 := by omega
  have z2 : ¬ (ch - cl + 1) = 0 := by omega
  have e1 : IntKind.i64.wrap (dh - dl) = dh - dl := IntWalk.i64_in _ (by omega)
  have e2 : IntKind.i64.wrap (dh - dl + 1) = dh - dl + 1 := IntWalk.i64_in _ (by omega)
  have e3 : IntKind.i64.wrap (ch - cl) = ch - cl := IntWalk.i64_in _ (by omega)
  have e4 : IntKind.i64.wrap (ch - cl + 1) = ch - cl + 1 := IntWalk.i64_in _ (by omega)
  have e5 : IntKind.i64.wrap x = x := IntWalk.i64_in _ (by omega)
  have e6 : IntKind.i64.wrap y = y := IntWalk.i64_in _ (by omega)
  have e7 : IntKind.i64.wrap (dl + x) = dl + x := IntWalk.i64_in _ (by omega)
  have e8 : IntKind.i64.wrap (cl + y) = cl + y := IntWalk.i64_in _ (by omega)
  have e9 : IntKind.i64.wrap day = day := IntWalk.i64_in _ (by omega)
  have e10 : IntKind.i64.wrap count = count := IntWalk.i64_in _ (by omega)
  have X : Ext w ((w.alloc (.cells #[.int .i64 cr, .int .i64 va, .int .i64 dl, .int .i64 dh, .int .i64 cl, .int .i64 ch] 39)).alloc (.cells #[.int .i64 0, .int .i64 0] 52)) := by (repeat (first | exact Ext.refl _ | (with_reducible assumption) | (with_reducible refine Ext.drew ?_) | (with_reducible refine Ext.alloc ?_ _) | (with_reducible refine Ext.drewN ?_ _) | (with_reducible refine Ext.setCell ?_ (by omega) _) | (with_reducible refine Ext.trans ?_ (by with_reducible assumption))))
  go_enter Try.func42, Try.ntmps42
  go_wp2_with fail
  have q2 : ((w.alloc (.cells #[.int .i64 cr, .int .i64 va, .int .i64 dl, .int .i64 dh, .int .i64 cl, .int .i64 ch] 39)).alloc (.cells #[.int .i64 0, .int .i64 0] 52)).cell? ⟨w.heap.size, 2, none⟩ = some (.int .i64 dl) := by simp
  have q3 : ((w.alloc (.cells #[.int .i64 cr, .int .i64 va, .int .i64 dl, .int .i64 dh, .int .i64 cl, .int .i64 ch] 39)).alloc (.cells #[.int .i64 0, .int .i64 0] 52)).cell? ⟨w.heap.size, 3, none⟩ = some (.int .i64 dh) := by simp
  have q4 : ((w.alloc (.cells #[.int .i64 cr, .int .i64 va, .int .i64 dl, .int .i64 dh, .int .i64 cl, .int .i64 ch] 39)).alloc (.cells #[.int .i64 0, .int .i64 0] 52)).cell? ⟨w.heap.size, 4, none⟩ = some (.int .i64 cl) := by simp
  have q5 : ((w.alloc (.cells #[.int .i64 cr, .int .i64 va, .int .i64 dl, .int .i64 dh, .int .i64 cl, .int .i64 ch] 39)).alloc (.cells #[.int .i64 0, .int .i64 0] 52)).cell? ⟨w.heap.size, 5, none⟩ = some (.int .i64 ch) := by simp
  have z0 : ((w.alloc (.cells #[.int .i64 cr, .int .i64 va, .int .i64 dl, .int .i64 dh, .int .i64 cl, .int .i64 ch] 39)).alloc (.cells #[.int .i64 0, .int .i64 0] 52)).cell? ⟨w.heap.size + 1, 0, none⟩ = some (.int .i64 0) := by simp
  have z1' : ((w.alloc (.cells #[.int .i64 cr, .int .i64 va, .int .i64 dl, .int .i64 dh, .int .i64 cl, .int .i64 ch] 39)).alloc (.cells #[.int .i64 0, .int .i64 0] 52)).cell? ⟨w.heap.size + 1, 1, none⟩ = some (.int .i64 0) := by simp
  have f0 : ((w.alloc (.cells #[.int .i64 cr, .int .i64 va, .int .i64 dl, .int .i64 dh, .int .i64 cl, .int .i64 ch] 39)).alloc (.cells #[.int .i64 0, .int .i64 0] 52)).frozen? ⟨w.heap.size + 1, 0, none⟩ = false := by simp
  have f1 : ((w.alloc (.cells #[.int .i64 cr, .int .i64 va, .int .i64 dl, .int .i64 dh, .int .i64 cl, .int .i64 ch] 39)).alloc (.cells #[.int .i64 0, .int .i64 0] 52)).frozen? ⟨w.heap.size + 1, 1, none⟩ = false := by simp
  generalize ((w.alloc (.cells #[.int .i64 cr, .int .i64 va, .int .i64 dl, .int .i64 dh, .int .i64 cl, .int .i64 ch] 39)).alloc (.cells #[.int .i64 0, .int .i64 0] 52)) = W at *
  go_still_tail 31, (by kernel_rfl)
  change wpList _ _ _ _ _ (World.drew _)
  go_wp2_with fail
  have n01 : (⟨w.heap.size + 1, 0, none⟩ : Addr) ≠ ⟨w.heap.size + 1, 1, none⟩ := by intro h; cases h
  have r1 : ((W.setCell ⟨w.heap.size + 1, 0, none⟩ (.int .i64 (dl + x))).setCell ⟨w.heap.size + 1, 1, none⟩ (.int .i64 (cl + y))).cell? ⟨w.heap.size + 1, 1, none⟩ = some (.int .i64 (cl + y)) := World.cell?_setCell_same _ _ _ (u := .int .i64 0) (by rw [World.cell?_setCell_other (h := n01)]; exact z1')
  have r0 : ((W.setCell ⟨w.heap.size + 1, 0, none⟩ (.int .i64 (dl + x))).setCell ⟨w.heap.size + 1, 1, none⟩ (.int .i64 (cl + y))).cell? ⟨w.heap.size + 1, 0, none⟩ = some (.int .i64 (dl + x)) := by
    rw [World.cell?_setCell_other (h := n01.symm)]
    exact World.cell?_setCell_same _ _ _ (u := .int .i64 0) z0
  exact bodyPost_ret (v := .agg #[.int .i64 (dl + x), .int .i64 (cl + y)]) (by simp [results, Try.results42, go_sem, r0, r1]) rfl ⟨rfl, by (repeat (first | exact Ext.refl _ | (with_reducible assumption) | (with_reducible refine Ext.drew ?_) | (with_reducible refine Ext.alloc ?_ _) | (with_reducible refine Ext.drewN ?_ _) | (with_reducible refine Ext.setCell ?_ (by omega) _) | (with_reducible refine Ext.trans ?_ (by with_reducible assumption))))⟩
end Go.Proofs.Ytfjecbfcnngacaa
