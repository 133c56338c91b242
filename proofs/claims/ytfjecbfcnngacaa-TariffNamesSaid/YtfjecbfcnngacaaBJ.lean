/- The reference: the bounds of a claim. -/
import Derived.Test.YtfjecbfcnngacaaBB
import Derived.Test.YtfjecbfcnngacaaAB
import Derived.StillTailTactics
namespace Go.Proofs.Ytfjecbfcnngacaa
open Go.RowKit Go.Hs
attribute [local irreducible] World.setCell World.alloc

/-- The boxes of 'Bounds' between two rounds. -/
structure RBI (w : World) (c : Cla) (lo hi ld ln hd hn : Int) (W : World) : Prop where
  ext : Ext w W
  cb : Cell6 W w.heap.size 0 c.u
  a0 : W.cell? ⟨w.heap.size + 1, 0, none⟩ = some (.int .i64 0)
  a1 : W.cell? ⟨w.heap.size + 1, 1, none⟩ = some (.int .i64 0)
  b0 : W.cell? ⟨w.heap.size + 2, 0, none⟩ = some (.int .i64 0)
  b1 : W.cell? ⟨w.heap.size + 2, 1, none⟩ = some (.int .i64 0)
  c0 : W.cell? ⟨w.heap.size + 3, 0, none⟩ = some (.int .i64 0)
  c1 : W.cell? ⟨w.heap.size + 3, 1, none⟩ = some (.int .i64 0)
  r0 : W.cell? ⟨w.heap.size + 4, 0, none⟩ = some (.int .i64 lo)
  r1 : W.cell? ⟨w.heap.size + 4, 1, none⟩ = some (.int .i64 hi)
  l0 : W.cell? ⟨w.heap.size + 5, 0, none⟩ = some (.int .i64 ld)
  l1 : W.cell? ⟨w.heap.size + 5, 1, none⟩ = some (.int .i64 ln)
  h0 : W.cell? ⟨w.heap.size + 6, 0, none⟩ = some (.int .i64 hd)
  h1 : W.cell? ⟨w.heap.size + 6, 1, none⟩ = some (.int .i64 hn)
  fz : ∀ i o, i < 7 → W.frozen? ⟨w.heap.size + i, o, none⟩ = false
theorem RBI.keep {w : World} {c : Cla} {lo hi ld ln hd hn : Int} {W W' : World} (h : RBI w c lo hi ld ln hd hn W) (hx : Ext W W') : RBI w c lo hi ld ln hd hn W' :=
  ⟨h.ext.trans hx, h.cb.ext hx, hx.keep h.a0, hx.keep h.a1, hx.keep h.b0, hx.keep h.b1, hx.keep h.c0, hx.keep h.c1, hx.keep h.r0, hx.keep h.r1, hx.keep h.l0, hx.keep h.l1, hx.keep h.h0, hx.keep h.h1,
   fun i o hi => (hx.frozen (by have := lt_of_cell h.h0; simp at this; omega)).trans (h.fz i o hi)⟩
theorem ne_off {b i j : Nat} (h : i ≠ j) : (⟨b, i, none⟩ : Addr) ≠ ⟨b, j, none⟩ := fun e => h (by cases e; rfl)
theorem ne_blk {b c i j : Nat} (h : b ≠ c) : (⟨b, i, none⟩ : Addr) ≠ ⟨c, j, none⟩ := fun e => h (by cases e; rfl)
theorem set_other {w : World} {b c i j : Nat} {v u : Value} (h : b ≠ c) (hc : w.cell? ⟨c, j, none⟩ = some u) : (w.setCell ⟨b, i, none⟩ v).cell? ⟨c, j, none⟩ = some u := by
  rw [World.cell?_setCell_other (h := ne_blk h)]; exact hc
theorem set_off {w : World} {b i j : Nat} {v u : Value} (h : i ≠ j) (hc : w.cell? ⟨b, j, none⟩ = some u) : (w.setCell ⟨b, i, none⟩ v).cell? ⟨b, j, none⟩ = some u := by
  rw [World.cell?_setCell_other (h := ne_off h)]; exact hc
theorem set_same {w : World} {b i : Nat} {v u : Value} (hc : w.cell? ⟨b, i, none⟩ = some u) : (w.setCell ⟨b, i, none⟩ v).cell? ⟨b, i, none⟩ = some v := World.cell?_setCell_same _ _ _ hc
theorem set6_other {w : World} {b c i : Nat} {v : Value} {u : V6} (h : b ≠ c) (hc : Cell6 w c 0 u) : Cell6 (w.setCell ⟨b, i, none⟩ v) c 0 u :=
  ⟨set_other h hc.1, set_other h hc.2.1, set_other h hc.2.2.1, set_other h hc.2.2.2.1, set_other h hc.2.2.2.2.1, set_other h hc.2.2.2.2.2⟩
theorem RBI.setLo {w : World} {c : Cla} {lo hi ld ln hd hn p : Int} {W : World} (h : RBI w c lo hi ld ln hd hn W) : RBI w c p hi ld ln hd hn (W.setCell ⟨w.heap.size + 4, 0, none⟩ (.int .i64 p)) :=
  ⟨h.ext.setCell (by omega) _, set6_other (by omega) h.cb, set_other (by omega) h.a0, set_other (by omega) h.a1, set_other (by omega) h.b0, set_other (by omega) h.b1, set_other (by omega) h.c0, set_other (by omega) h.c1, set_same h.r0, set_off (by omega) h.r1, set_other (by omega) h.l0, set_other (by omega) h.l1, set_other (by omega) h.h0, set_other (by omega) h.h1, fun i o hi => by rw [World.frozen?_setCell]; exact h.fz i o hi⟩
theorem RBI.setHi {w : World} {c : Cla} {lo hi ld ln hd hn p : Int} {W : World} (h : RBI w c lo hi ld ln hd hn W) : RBI w c lo p ld ln hd hn (W.setCell ⟨w.heap.size + 4, 1, none⟩ (.int .i64 p)) :=
  ⟨h.ext.setCell (by omega) _, set6_other (by omega) h.cb, set_other (by omega) h.a0, set_other (by omega) h.a1, set_other (by omega) h.b0, set_other (by omega) h.b1, set_other (by omega) h.c0, set_other (by omega) h.c1, set_off (by omega) h.r0, set_same h.r1, set_other (by omega) h.l0, set_other (by omega) h.l1, set_other (by omega) h.h0, set_other (by omega) h.h1, fun i o hi => by rw [World.frozen?_setCell]; exact h.fz i o hi⟩
theorem RBI.setL {w : World} {c : Cla} {lo hi ld ln hd hn d n : Int} {W : World} (h : RBI w c lo hi ld ln hd hn W) : RBI w c lo hi d n hd hn ((W.setCell ⟨w.heap.size + 5, 0, none⟩ (.int .i64 d)).setCell ⟨w.heap.size + 5, 1, none⟩ (.int .i64 n)) :=
  ⟨(h.ext.setCell (by omega) _).setCell (by omega) _, set6_other (by omega) (set6_other (by omega) h.cb), set_other (by omega) (set_other (by omega) h.a0), set_other (by omega) (set_other (by omega) h.a1), set_other (by omega) (set_other (by omega) h.b0), set_other (by omega) (set_other (by omega) h.b1), set_other (by omega) (set_other (by omega) h.c0), set_other (by omega) (set_other (by omega) h.c1), set_other (by omega) (set_other (by omega) h.r0), set_other (by omega) (set_other (by omega) h.r1), set_off (by omega) (set_same h.l0), set_same (set_off (by omega) h.l1), set_other (by omega) (set_other (by omega) h.h0), set_other (by omega) (set_other (by omega) h.h1), fun i o hi => by rw [World.frozen?_setCell, World.frozen?_setCell]; exact h.fz i o hi⟩
theorem RBI.setH {w : World} {c : Cla} {lo hi ld ln hd hn d n : Int} {W : World} (h : RBI w c lo hi ld ln hd hn W) : RBI w c lo hi ld ln d n ((W.setCell ⟨w.heap.size + 6, 0, none⟩ (.int .i64 d)).setCell ⟨w.heap.size + 6, 1, none⟩ (.int .i64 n)) :=
  ⟨(h.ext.setCell (by omega) _).setCell (by omega) _, set6_other (by omega) (set6_other (by omega) h.cb), set_other (by omega) (set_other (by omega) h.a0), set_other (by omega) (set_other (by omega) h.a1), set_other (by omega) (set_other (by omega) h.b0), set_other (by omega) (set_other (by omega) h.b1), set_other (by omega) (set_other (by omega) h.c0), set_other (by omega) (set_other (by omega) h.c1), set_other (by omega) (set_other (by omega) h.r0), set_other (by omega) (set_other (by omega) h.r1), set_other (by omega) (set_other (by omega) h.l0), set_other (by omega) (set_other (by omega) h.l1), set_off (by omega) (set_same h.h0), set_same (set_off (by omega) h.h1), fun i o hi => by rw [World.frozen?_setCell, World.frozen?_setCell]; exact h.fz i o hi⟩
def loR (s : ES) : Int := if s.first then 1099511627776 else s.lo
def hiR (s : ES) : Int := if s.first then -1 else s.hi
theorem next_low {s : ES} {p d n : Int} (hp : 0 ≤ p) (hq : p ≤ 10000000) : loR (s.next p d n) = (if p < loR s then p else loR s) ∧ (s.next p d n).ld = (if p < loR s then d else s.ld) ∧ (s.next p d n).ln = (if p < loR s then n else s.ln) := by
  unfold ES.next ES.low loR
  cases hs : s.first with
  | true => simp; omega
  | false => simp
theorem next_high {s : ES} {p d n : Int} (hp : 0 ≤ p) : hiR (s.next p d n) = (if hiR s < p then p else hiR s) ∧ (s.next p d n).hd = (if hiR s < p then d else s.hd) ∧ (s.next p d n).hn = (if hiR s < p then n else s.hn) := by
  unfold ES.next ES.high hiR
  cases hs : s.first with
  | true => simp; omega
  | false => simp
theorem endsTo_next (l : List Tar) (c : Cla) (i j : Nat) : endsTo l c i (j + 1) = (endsTo l c i j).next (payS l c (c.dlo + i) (c.clo + j)) (c.dlo + i) (c.clo + j) := by
  unfold endsTo; rw [seqTo_next, foldE_snoc]
theorem endsTo_turn (l : List Tar) (c : Cla) (i : Nat) : endsTo l c i (sizeOfR c.clo c.chi) = endsTo l c (i + 1) 0 := by
  unfold endsTo; rw [seqTo_turn]
def RB (w : World) (c : Cla) (s : ES) (W : World) : Prop := RBI w c (loR s) (hiR s) s.ld s.ln s.hd s.hn W
theorem foldE_first (f : Int → Int → Int) (l : List (Int × Int)) (h : l ≠ []) : (foldE f l).first = false := by
  rcases List.eq_nil_or_concat l with rfl | ⟨r, x, rfl⟩
  · exact absurd rfl h
  · rw [List.concat_eq_append, foldE_snoc]; rfl
theorem ends_first {l : List Tar} {c : Cla} (hc : ClaimOK l c) : (endsS l c).first = false := by
  unfold endsS endsTo
  have h1 := hc.day
  have h2 := hc.count
  refine foldE_first _ _ (fun e => ?_)
  have hl : (seqTo c.dlo c.clo (sizeOfR c.clo c.chi) (sizeOfR c.dlo c.dhi) 0).length = 0 := by rw [e]; rfl
  have hD : ∃ k, sizeOfR c.dlo c.dhi = k + 1 := ⟨(c.dhi - c.dlo).toNat, by unfold sizeOfR; omega⟩
  have hC : ∃ k, sizeOfR c.clo c.chi = k + 1 := ⟨(c.chi - c.clo).toNat, by unfold sizeOfR; omega⟩
  obtain ⟨a, ha⟩ := hD
  obtain ⟨b, hb⟩ := hC
  rw [ha, hb] at hl
  simp [seqTo, List.range_succ] at hl
theorem payS_bd {l : List Tar} {c : Cla} (hl : ValidL l) (hc : ClaimOK l c) {d n : Int} (hd : 0 ≤ d) (h0 : 0 ≤ n) (h1 : n ≤ 100) : 0 ≤ payS l c d n ∧ payS l c d n ≤ 10000000 := by
  have hp := partS_bd hl hc.crop.1 hc.crop.2 hd h0 h1
  have hm := pay_wrap hc.value.1 hc.value.2 hp.1 hp.2
  unfold payS payI
  omega
end Go.Proofs.Ytfjecbfcnngacaa
