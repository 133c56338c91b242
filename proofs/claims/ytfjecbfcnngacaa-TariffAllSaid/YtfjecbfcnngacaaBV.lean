/- Contracts: the bounds of all claims together. -/
import Derived.Test.YtfjecbfcnngacaaBU
import Derived.Test.YtfjecbfcnngacaaBN
namespace Go.Proofs.Ytfjecbfcnngacaa
open Go.RowKit Go.Hs
attribute [local irreducible] World.setCell World.alloc

/-- The error of all claims together, and their bounds. -/
def totE (l : List Tar) (cs : List Cla) : Int := if checkS l ≠ 0 then checkS l else if 5 < cs.length then 3 else if claimsB l cs then 0 else 2
def sumLo (l : List Tar) (cs : List Cla) : Int := (cs.map (fun c => (endsS l c).lo)).sum
def sumHi (l : List Tar) (cs : List Cla) : Int := (cs.map (fun c => (endsS l c).hi)).sum
theorem sumLo_snoc (l : List Tar) (cs : List Cla) (c : Cla) : sumLo l (cs ++ [c]) = sumLo l cs + (endsS l c).lo := by simp [sumLo]
theorem sumHi_snoc (l : List Tar) (cs : List Cla) (c : Cla) : sumHi l (cs ++ [c]) = sumHi l cs + (endsS l c).hi := by simp [sumHi]
theorem ends_bd {l : List Tar} {c : Cla} (hl : ValidL l) (hc : ClaimOK l c) : 0 ≤ (endsS l c).lo ∧ (endsS l c).lo ≤ 10000000 ∧ 0 ≤ (endsS l c).hi ∧ (endsS l c).hi ≤ 10000000 := by
  have h1 := ends_order hl hc
  have h2 := ends_spec (l := l) hc
  have h3 := truthB_iff.1 h2.high.1
  have h4 := hc.day
  have h5 := hc.count
  have h6 := payS_bd hl hc (show 0 ≤ (endsS l c).hd by omega) (show 0 ≤ (endsS l c).hn by omega) (show (endsS l c).hn ≤ 100 by omega)
  rw [h2.high.2] at h6
  omega
theorem sum_bd {l : List Tar} (hl : ValidL l) (cs : List Cla) (h : ∀ c, c ∈ cs → ClaimOK l c) : 0 ≤ sumLo l cs ∧ sumLo l cs ≤ 10000000 * cs.length ∧ 0 ≤ sumHi l cs ∧ sumHi l cs ≤ 10000000 * cs.length := by
  induction cs with
  | nil => simp [sumLo, sumHi]
  | cons c r ih =>
    have h1 := ends_bd hl (h c (by simp))
    have h2 := ih (fun x hx => h x (by simp [hx]))
    simp only [sumLo, sumHi, List.map_cons, List.sum_cons, List.length_cons] at h2 ⊢
    omega
theorem claims_ok {l : List Tar} {cs : List Cla} (h : claimsB l cs = true) : ∀ c, c ∈ cs → ClaimOK l c := fun c hc => by
  obtain ⟨i, hi, rfl⟩ := List.getElem_of_mem hc
  have := allB_iff.1 h i hi
  exact claimB_iff.1 (by simpa [hi] using this)

/-- What holds between two rounds of 'Total'. -/
structure TotI (l : List Tar) (cs : List Cla) (p r : Nat) (v : Value) (W0 : World) (S k : Nat) (W : World) : Prop where
  work : WorkAt l p r v W
  but : ExtBut r W0 W
  c0 : W.cell? ⟨S, 0, none⟩ = some (.int .i64 (sumLo l (cs.take k)))
  c1 : W.cell? ⟨S, 1, none⟩ = some (.int .i64 (sumHi l (cs.take k)))
  f0 : ∀ o, W.frozen? ⟨S, o, none⟩ = false
theorem but_frozen {r : Nat} {w w' : World} (h : ExtBut r w w') {b o : Nat} (hb : b < w.heap.size) (hr : b ≠ r) : w'.frozen? ⟨b, o, none⟩ = w.frozen? ⟨b, o, none⟩ :=
  World.frozen?_of_block (w := w) (a := ⟨b, o, none⟩) (h.block b hb hr)

set_option maxRecDepth 100000 in
set_option maxHeartbeats 2000000 in
theorem Total_err (v vc : Value) (l : List Tar) (w : World) (hv : TarsV w v l) (h0 : checkS l ≠ 0) :
    Calls Try.prog 48 #[v, vc] w fun e w' => e = .returned (.tuple #[.agg #[.int .i64 0, .int .i64 0], .int .i64 (checkS l)]) ∧ Ext w w' := by
  have X : Ext w (w.alloc (.cells #[.int .i64 0, .int .i64 0] 40)) := by (repeat (first | exact Ext.refl _ | (with_reducible assumption) | (with_reducible refine Ext.drew ?_) | (with_reducible refine Ext.alloc ?_ _) | (with_reducible refine Ext.drewN ?_ _) | (with_reducible refine Ext.setCell ?_ (by omega) _) | (with_reducible refine Ext.trans ?_ (by with_reducible assumption))))
  have hck := check_any v l _ (hv.ext X)
  have hd : (checkS l != 0) = true := by simp [h0]
  clear h0
  generalize checkS l = ck at *
  go_enter Try.func48, Try.ntmps48
  go_wp2_with fail
  (with_reducible refine hck.mono ?_)
  rintro e w1 ⟨rfl, hx1⟩
  have q0 := hx1.keep (k := w.heap.size) (o := 0) (v := .int .i64 0) (by simp)
  have q1 := hx1.keep (k := w.heap.size) (o := 1) (v := .int .i64 0) (by simp)
  have z0 : w1.frozen? ⟨w.heap.size, 0, none⟩ = false := (hx1.frozen (by simp)).trans (by simp)
  have z1 : w1.frozen? ⟨w.heap.size, 1, none⟩ = false := (hx1.frozen (by simp)).trans (by simp)
  go_wp2_with fail
  have y0 : ((w1.setCell ⟨w.heap.size, 0, none⟩ (.int .i64 0)).setCell ⟨w.heap.size, 1, none⟩ (.int .i64 0)).cell? ⟨w.heap.size, 0, none⟩ = some (.int .i64 0) := set_off (by omega) (set_same q0)
  have y1 : ((w1.setCell ⟨w.heap.size, 0, none⟩ (.int .i64 0)).setCell ⟨w.heap.size, 1, none⟩ (.int .i64 0)).cell? ⟨w.heap.size, 1, none⟩ = some (.int .i64 0) := set_same (set_off (by omega) q1)
  exact bodyPost_ret (v := .tuple #[.agg #[.int .i64 0, .int .i64 0], .int .i64 ck]) (by simp [results, Try.results48, go_sem, y0, y1]) rfl ⟨rfl, ((X.trans hx1).setCell (by omega) _).setCell (by omega) _⟩

set_option maxRecDepth 100000 in
set_option maxHeartbeats 2000000 in
theorem Total_many (v : Value) (a : Option Addr) (n c : Nat) (l : List Tar) (w : World) (hv : TarsV w v l) (h0 : checkS l = 0) (h5 : 5 < n) (hn : n ≤ 1000) :
    Calls Try.prog 48 #[v, .slice a n c] w fun e w' => e = .returned (.tuple #[.agg #[.int .i64 0, .int .i64 0], .int .i64 3]) ∧ Ext w w' := by
  have X : Ext w (w.alloc (.cells #[.int .i64 0, .int .i64 0] 40)) := by (repeat (first | exact Ext.refl _ | (with_reducible assumption) | (with_reducible refine Ext.drew ?_) | (with_reducible refine Ext.alloc ?_ _) | (with_reducible refine Ext.drewN ?_ _) | (with_reducible refine Ext.setCell ?_ (by omega) _) | (with_reducible refine Ext.trans ?_ (by with_reducible assumption))))
  have hck := check_any v l _ (hv.ext X)
  rw [h0] at hck
  clear h0
  go_enter Try.func48, Try.ntmps48
  go_wp2_with fail
  (with_reducible refine hck.mono ?_)
  rintro e w1 ⟨rfl, hx1⟩
  have q0 := hx1.keep (k := w.heap.size) (o := 0) (v := .int .i64 0) (by simp)
  have q1 := hx1.keep (k := w.heap.size) (o := 1) (v := .int .i64 0) (by simp)
  have z0 : w1.frozen? ⟨w.heap.size, 0, none⟩ = false := (hx1.frozen (by simp)).trans (by simp)
  have z1 : w1.frozen? ⟨w.heap.size, 1, none⟩ = false := (hx1.frozen (by simp)).trans (by simp)
  go_wp2_with fail
  have y0 : ((w1.setCell ⟨w.heap.size, 0, none⟩ (.int .i64 0)).setCell ⟨w.heap.size, 1, none⟩ (.int .i64 0)).cell? ⟨w.heap.size, 0, none⟩ = some (.int .i64 0) := set_off (by omega) (set_same q0)
  have y1 : ((w1.setCell ⟨w.heap.size, 0, none⟩ (.int .i64 0)).setCell ⟨w.heap.size, 1, none⟩ (.int .i64 0)).cell? ⟨w.heap.size, 1, none⟩ = some (.int .i64 0) := set_same (set_off (by omega) q1)
  exact bodyPost_ret (v := .tuple #[.agg #[.int .i64 0, .int .i64 0], .int .i64 3]) (by simp [results, Try.results48, go_sem, y0, y1]) rfl ⟨rfl, ((X.trans hx1).setCell (by omega) _).setCell (by omega) _⟩
end Go.Proofs.Ytfjecbfcnngacaa
