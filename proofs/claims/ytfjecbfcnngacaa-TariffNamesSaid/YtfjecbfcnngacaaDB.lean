/- Merged: what the texts say one after another. -/
import Derived.Test.YtfjecbfcnngacaaAD
import Derived.Test.YtfjecbfcnngacaaEG
import Derived.Test.YtfjecbfcnngacaaBJ
import Derived.Test.YtfjecbfcnngacaaDA
import Derived.KernelRfl
/- What the document's examples lay in memory, cell by cell. -/
namespace Go.Hs
open Go.RowKit Go.Proofs.Ytfjecbfcnngacaa
def sl (b n : Nat) : Value := .slice (some ⟨b, 0, none⟩) n n
def it (n : Int) : Value := .int .i64 n
/-- The cells of the twelve blocks. -/
def cellsX (b : Nat) : Nat → List Value
  | 0 => [it 0, it 10]
  | 1 => [it 0, it 50, it 100]
  | 2 => [it 0, it 40, it 80]
  | 3 => [it 0, it 25, it 100]
  | 4 => [sl (b + 2) 3, sl (b + 3) 3]
  | 5 => [sl (b + 4) 2]
  | 6 => [it 0]
  | 7 => [it 0, it 100]
  | 8 => [it 0, it 90]
  | 9 => [sl (b + 8) 2]
  | 10 => [sl (b + 9) 1]
  | 11 => [it 0, .bool true, it 8, sl b 2, sl (b + 1) 3, sl (b + 5) 1, it 30, .bool false, it 10, sl (b + 6) 1, sl (b + 7) 2, sl (b + 10) 1]
  | _ => []
/-- They lie there, but for one block. -/
structure TXE (ex b : Nat) (w : World) : Prop where
  cell : ∀ i o x, i < 12 → i ≠ ex → (cellsX b i)[o]? = some x → w.cell? ⟨b + i, o, none⟩ = some x
  fz : ∀ i o, i < 12 → w.frozen? ⟨b + i, o, none⟩ = false
section
variable {ex b : Nat} {w w' : World}
theorem cellsX_some (i : Nat) (h : i < 12) : ∃ x, (cellsX b i)[0]? = some x := by
  rcases i with _ | _ | _ | _ | _ | _ | _ | _ | _ | _ | _ | _ | i
  all_goals first
    | exact ⟨_, rfl⟩
    | omega
theorem TXE.eg {lo hi : Nat} (h : TXE 12 b w) (hx : EG lo hi w w') (hl : b + 12 ≤ lo ∨ hi ≤ b) : TXE 12 b w' :=
  ⟨fun i o x hi hne hc => hx.keep (by omega) (h.cell i o x hi hne hc), fun i o hi => by
    obtain ⟨x, hx0⟩ := cellsX_some (b := b) i hi
    have hlt : b + i < w.heap.size := lt_of_cell (h.cell i 0 x hi (by omega) hx0)
    rw [hx.frozen hlt (by omega)]; exact h.fz i o hi⟩
theorem TXE.ext (h : TXE 12 b w) (hx : Ext w w') : TXE 12 b w' := h.eg (lo := b + 12) (hi := b + 12) hx.eg (.inl (Nat.le_refl _))
theorem TXE.turn {i0 : Nat} (h : TXE 12 b w) (hx : EG (b + i0) (b + i0 + 1) w w') (hf : ∀ o, i0 < 12 → w'.frozen? ⟨b + i0, o, none⟩ = false) : TXE i0 b w' :=
  ⟨fun i o x hi hne hc => hx.keep (by omega) (h.cell i o x hi (by omega) hc), fun i o hi => by
    by_cases e : i = i0
    · subst e; exact hf o hi
    · obtain ⟨x, hx0⟩ := cellsX_some (b := b) i hi
      have hlt : b + i < w.heap.size := lt_of_cell (h.cell i 0 x hi (by omega) hx0)
      rw [hx.frozen hlt (by omega)]; exact h.fz i o hi⟩
theorem TXE.ints {p : Nat → Bool} (h : TXE ex b w) (i : Nat) (xs : List Int) (hi : i < 12) (he : i ≠ ex) (hp : p (b + i) = false) (hx : cellsX b i = xs.map (.int .i64)) (hl : xs.length ≤ 1000) (ok : ∀ x ∈ xs, -1000 ≤ x ∧ x ≤ 1000) : IntsV (mask p w) (sl (b + i) xs.length) xs :=
  ints_mk xs rfl hl (fun j hj => by
    rw [mask_cell, hp]
    exact h.cell i j _ hi he (by rw [hx]; simp [hj])) ok
theorem TXE.weeks0 {p : Nat → Bool} (h : TXE ex b w) (he : 0 ≠ ex) (hp : p b = false) : IntsV (mask p w) (sl b 2) [0, 10] := h.ints 0 [0, 10] (by decide) he hp rfl (by decide) (by decide)
theorem TXE.counts0 {p : Nat → Bool} (h : TXE ex b w) (he : 1 ≠ ex) (hp : p (b + 1) = false) : IntsV (mask p w) (sl (b + 1) 3) [0, 50, 100] := h.ints 1 [0, 50, 100] (by decide) he hp rfl (by decide) (by decide)
theorem TXE.weeks1 {p : Nat → Bool} (h : TXE ex b w) (he : 6 ≠ ex) (hp : p (b + 6) = false) : IntsV (mask p w) (sl (b + 6) 1) [0] := h.ints 6 [0] (by decide) he hp rfl (by decide) (by decide)
theorem TXE.counts1 {p : Nat → Bool} (h : TXE ex b w) (he : 7 ≠ ex) (hp : p (b + 7) = false) : IntsV (mask p w) (sl (b + 7) 2) [0, 100] := h.ints 7 [0, 100] (by decide) he hp rfl (by decide) (by decide)
theorem TXE.row1 {p : Nat → Bool} (h : TXE ex b w) (h8 : 8 ≠ ex) (h9 : 9 ≠ ex) (p8 : p (b + 8) = false) (p9 : p (b + 9) = false) : Ints2V (mask p w) (sl (b + 9) 1) [[0, 90]] :=
  ints2_mk [[0, 90]] rfl (by decide) (fun i hi => by
    rcases i with _ | i
    · exact ⟨sl (b + 8) 2, by rw [mask_cell, p9]; exact h.cell 9 0 _ (by decide) h9 rfl, h.ints 8 [0, 90] (by decide) h8 p8 rfl (by decide) (by decide)⟩
    · simp at hi)
theorem TXE.rates1 {p : Nat → Bool} (h : TXE ex b w) (h8 : 8 ≠ ex) (h9 : 9 ≠ ex) (h10 : 10 ≠ ex) (p8 : p (b + 8) = false) (p9 : p (b + 9) = false) (p10 : p (b + 10) = false) : Ints3V (mask p w) (sl (b + 10) 1) [[[0, 90]]] :=
  ints3_mk [[[0, 90]]] rfl (by decide) (fun i hi => by
    rcases i with _ | i
    · exact ⟨sl (b + 9) 1, by rw [mask_cell, p10]; exact h.cell 10 0 _ (by decide) h10 rfl, h.row1 h8 h9 p8 p9⟩
    · simp at hi)
/-- The first tariff's rates, of which one list may be another one. -/
theorem TXE.rates0 {p : Nat → Bool} {xs : List Int} (h : TXE ex b w) (h2 : 2 ≠ ex) (h4 : 4 ≠ ex) (h5 : 5 ≠ ex) (p2 : p (b + 2) = false) (p4 : p (b + 4) = false) (p5 : p (b + 5) = false) (hx : IntsV (mask p w) (sl (b + 3) 3) xs) : Ints3V (mask p w) (sl (b + 5) 1) [[[0, 40, 80], xs]] :=
  ints3_mk [[[0, 40, 80], xs]] rfl (by simp) (fun i hi => by
    rcases i with _ | i
    · refine ⟨sl (b + 4) 2, by rw [mask_cell, p5]; exact h.cell 5 0 _ (by decide) h5 rfl, ints2_mk [[0, 40, 80], xs] rfl (by simp) (fun j hj => ?_)⟩
      rcases j with _ | _ | j
      · exact ⟨sl (b + 2) 3, by rw [mask_cell, p4]; exact h.cell 4 0 _ (by decide) h4 rfl, h.ints 2 [0, 40, 80] (by decide) h2 p2 rfl (by decide) (by decide)⟩
      · exact ⟨sl (b + 3) 3, by rw [mask_cell, p4]; exact h.cell 4 1 _ (by decide) h4 rfl, hx⟩
      · simp at hj; omega
    · simp at hi)
theorem TXE.row01 {p : Nat → Bool} (h : TXE ex b w) (h3 : 3 ≠ ex) (p3 : p (b + 3) = false) : IntsV (mask p w) (sl (b + 3) 3) [0, 25, 100] := h.ints 3 [0, 25, 100] (by decide) h3 p3 rfl (by decide) (by decide)
/-- A list of two tariffs out of its parts. -/
theorem mkTwo {p : Nat → Bool} {B : Nat} {u0 u1 : V6} {t0 t1 : Tar} (hB : p B = false) (c0 : Cell6 w B 0 u0) (c1 : Cell6 w B 6 u1) (h0 : TarU (mask p w) u0 t0) (h1 : TarU (mask p w) u1 t1) : TarsV (mask p w) (sl B 2) [t0, t1] := by
  have m : ∀ o v, w.cell? ⟨B, o, none⟩ = some v → (mask p w).cell? ⟨B, o, none⟩ = some v := fun o v h => by rw [mask_cell, hB]; exact h
  refine tars_mk [t0, t1] rfl (by simp) (fun i hi => ?_)
  obtain ⟨a0, a1, a2, a3⟩ := h0
  obtain ⟨d0, d1, d2, d3⟩ := h1
  rcases i with _ | _ | i
  · obtain ⟨e0, e1, e2, e3, e4, e5⟩ := c0
    rw [a0] at e0
    rw [a1] at e1
    rw [a2] at e2
    exact ⟨_, _, _, m _ _ e0, m _ _ e1, m _ _ e2, m _ _ e3, m _ _ e4, m _ _ e5, a3⟩
  · obtain ⟨e0, e1, e2, e3, e4, e5⟩ := c1
    rw [d0] at e0
    rw [d1] at e1
    rw [d2] at e2
    exact ⟨_, _, _, m _ _ e0, m _ _ e1, m _ _ e2, m _ _ e3, m _ _ e4, m _ _ e5, d3⟩
  · simp at hi; omega
/-- The blocks that are none of a list's own, nor new. -/
def wq (b N : Nat) : Nat → Bool := fun k => !(decide (b ≤ k) && decide (k < b + 12)) && decide (k < N)
theorem wq_no {b N k : Nat} : wq b N k = false ↔ (b ≤ k ∧ k < b + 12) ∨ N ≤ k := by
  unfold wq
  simp only [Bool.and_eq_false_iff, Bool.not_eq_false', Bool.and_eq_true, decide_eq_true_eq, decide_eq_false_iff_not, Nat.not_lt]
theorem wq_in {b N i : Nat} (h : i < 12) : wq b N (b + i) = false := wq_no.2 (.inl (by omega))
theorem wq_eg {b N lo hi : Nat} (hx : EG lo hi w w') (h : b + 12 ≤ lo ∨ hi ≤ b) (hN : hi ≤ N) : KC (mask (wq b N) w) (mask (wq b N) w') :=
  mask_kc (fun _ _ h => h) (fun k hk hp => hx.block k hk (by rw [wq_no] at hp; omega))
end
end Go.Hs
namespace Go.Proofs.Ytfjecbfcnngacaa
open Go.RowKit Go.Hs
attribute [local irreducible] World.setCell World.alloc

theorem heap_at {w : World} {o : Obj} {b : Nat} (h : b = w.heap.size) : (w.alloc o).heap[b]? = some o := by subst h; exact heap_alloc_new w o
set_option maxRecDepth 100000 in
set_option maxHeartbeats 4000000 in
theorem two_x (w : World) : Calls Try.prog 56 #[] w fun e w' => e = .returned (.slice (some ⟨w.heap.size + 11, 0, none⟩) 2 2) ∧ TXE 12 w.heap.size w' ∧ Ext w w' ∧ w'.heap.size = w.heap.size + 12 ∧ w'.heap[w.heap.size + 10]? = some (.cells #[.slice (some ⟨w.heap.size + 9, 0, none⟩) 1 1] 66) := by
  go_enter Try.func56, Try.ntmps56
  go_wp2_with fail
  go_ret
  refine ⟨rfl, ⟨fun i o x hi _ hc => ?_, fun i o hi => ?_⟩, by (repeat (first | exact Ext.refl _ | (with_reducible assumption) | (with_reducible refine Ext.drew ?_) | (with_reducible refine Ext.alloc ?_ _) | (with_reducible refine Ext.drewN ?_ _) | (with_reducible refine Ext.setCell ?_ (by omega) _) | (with_reducible refine Ext.trans ?_ (by with_reducible assumption)))), by simp, (((Ext.refl _).alloc _).heap (by simp)).trans (heap_at (by simp))⟩
  · rcases i with _ | _ | _ | _ | _ | _ | _ | _ | _ | _ | _ | _ | i
    all_goals first
      | omega
      | (rcases o with _ | _ | _ | _ | _ | _ | _ | _ | _ | _ | _ | _ | o
         all_goals first
           | (simp [cellsX] at hc; done)
           | (simp only [cellsX, List.getElem?_cons_zero, List.getElem?_cons_succ, Option.some.injEq] at hc
              subst hc
              simp [go_sem, it, sl]))
  · rcases i with _ | _ | _ | _ | _ | _ | _ | _ | _ | _ | _ | _ | i
    all_goals first
      | omega
      | (simp [go_sem]; done)
end Go.Proofs.Ytfjecbfcnngacaa

/- Plain facts: the document's examples changed in place, one way each. -/
namespace Go.Hs
open Go.RowKit Go.Proofs.Ytfjecbfcnngacaa
def t0X : Tar := ⟨0, true, 8, [0, 10], [0, 50, 100], [[[0, 40, 80], [0, 25, 100]]]⟩
def t1X : Tar := ⟨30, false, 10, [0], [0, 100], [[[0, 90]]]⟩
def u0X (b : Nat) : V6 := ⟨it 0, .bool true, it 8, sl b 2, sl (b + 1) 3, sl (b + 5) 1⟩
def u1X (b : Nat) : V6 := ⟨it 30, .bool false, it 10, sl (b + 6) 1, sl (b + 7) 2, sl (b + 10) 1⟩
def fromL : List Tar := [t0X, { t1X with start := 0 }]
def leastXL : List Tar := [{ t0X with least := 101 }, t1X]
def weeksL : List Tar := [{ t0X with weeks := [1, 10] }, t1X]
def countsL : List Tar := [{ t0X with counts := [0, 50, 99] }, t1X]
def ratesL : List Tar := [{ t0X with rates := [[[0, 40, 80], [0, 25, 101]]] }, t1X]
def cropsL : List Tar := [t0X, { t1X with rates := [[[0, 90]], [[0, 0]]] }]
def manyL : List Tar := [{ t0X with weeks := [0, 0, 0, 0, 0] }, t1X]
def wrongL : List Tar := [{ t0X with counts := [0, 20, 40, 60, 100], rates := [[[0, 40, 30, 35, 50], [0, 0, 0, 0, 0]]] }, t1X]
section
variable {b N : Nat} {W : World}
theorem TXE.cell0 {ex : Nat} (h : TXE ex b W) (he : 11 ≠ ex) : Cell6 W (b + 11) 0 (u0X b) :=
  ⟨h.cell 11 0 _ (by decide) he rfl, h.cell 11 1 _ (by decide) he rfl, h.cell 11 2 _ (by decide) he rfl, h.cell 11 3 _ (by decide) he rfl, h.cell 11 4 _ (by decide) he rfl, h.cell 11 5 _ (by decide) he rfl⟩
theorem TXE.cell1 {ex : Nat} (h : TXE ex b W) (he : 11 ≠ ex) : Cell6 W (b + 11) 6 (u1X b) :=
  ⟨h.cell 11 6 _ (by decide) he rfl, h.cell 11 7 _ (by decide) he rfl, h.cell 11 8 _ (by decide) he rfl, h.cell 11 9 _ (by decide) he rfl, h.cell 11 10 _ (by decide) he rfl, h.cell 11 11 _ (by decide) he rfl⟩
theorem TXE.rt0 {ex : Nat} (h : TXE ex b W) (h2 : 2 ≠ ex) (h3 : 3 ≠ ex) (h4 : 4 ≠ ex) (h5 : 5 ≠ ex) : Ints3V (mask (wq b N) W) (sl (b + 5) 1) [[[0, 40, 80], [0, 25, 100]]] :=
  h.rates0 h2 h4 h5 (wq_in (by decide)) (wq_in (by decide)) (wq_in (by decide)) (h.row01 h3 (wq_in (by decide)))
theorem TXE.tu0 {ex : Nat} (h : TXE ex b W) (he : ex = 11 ∨ ex = 12) : TarU (mask (wq b N) W) (u0X b) t0X :=
  ⟨rfl, rfl, rfl, ⟨by simp [t0X, i64ok], by simp [t0X, i64ok], h.weeks0 (by omega) (wq_in (i := 0) (by decide)), h.counts0 (by omega) (wq_in (by decide)), h.rt0 (by omega) (by omega) (by omega) (by omega)⟩⟩
theorem TXE.tu1 {ex : Nat} (h : TXE ex b W) (he : ex = 11 ∨ ex = 12 ∨ ex = 3) : TarU (mask (wq b N) W) (u1X b) t1X :=
  ⟨rfl, rfl, rfl, ⟨by simp [t1X, i64ok], by simp [t1X, i64ok], h.weeks1 (by omega) (wq_in (by decide)), h.counts1 (by omega) (wq_in (by decide)), h.rates1 (by omega) (by omega) (by omega) (wq_in (by decide)) (wq_in (by decide)) (wq_in (by decide))⟩⟩
theorem TXE.store {i0 o : Nat} {v : Value} (h : TXE 12 b W) (hi : i0 < 12) : TXE i0 b (W.setCell ⟨b + i0, o, none⟩ v) :=
  h.turn ((EG.refl W).setIn (T := b + i0) (Nat.le_refl _) (by omega) v) (fun o' _ => by rw [World.frozen?_setCell]; exact h.fz i0 o' hi)
theorem eg_store {i0 o : Nat} {v : Value} (hi : i0 < 12) : EG b (b + 12) W (W.setCell ⟨b + i0, o, none⟩ v) := (EG.refl W).setIn (T := b + i0) (by omega) (by omega) v
theorem mut_from (h : TXE 12 b W) : TarsV (mask (wq b N) (W.setCell ⟨b + 11, 6, none⟩ (.int .i64 0))) (sl (b + 11) 2) fromL := by
  have s := h.store (i0 := 11) (o := 6) (v := .int .i64 0) (by decide)
  obtain ⟨a0, a1, a2, a3, a4, a5⟩ := h.cell0 (by decide)
  obtain ⟨d0, d1, d2, d3, d4, d5⟩ := h.cell1 (by decide)
  obtain ⟨-, -, -, e⟩ := s.tu1 (N := N) (.inl rfl)
  exact mkTwo (u0 := u0X b) (u1 := { u1X b with c0 := it 0 }) (wq_in (by decide)) ⟨set_off (by decide) a0, set_off (by decide) a1, set_off (by decide) a2, set_off (by decide) a3, set_off (by decide) a4, set_off (by decide) a5⟩
    ⟨set_same d0, set_off (by decide) d1, set_off (by decide) d2, set_off (by decide) d3, set_off (by decide) d4, set_off (by decide) d5⟩ (s.tu0 (.inl rfl)) ⟨rfl, rfl, rfl, ⟨by simp [i64ok], e.l, e.weeks, e.counts, e.rates⟩⟩
theorem mut_least (h : TXE 12 b W) : TarsV (mask (wq b N) (W.setCell ⟨b + 11, 2, none⟩ (.int .i64 101))) (sl (b + 11) 2) leastXL := by
  have s := h.store (i0 := 11) (o := 2) (v := .int .i64 101) (by decide)
  obtain ⟨a0, a1, a2, a3, a4, a5⟩ := h.cell0 (by decide)
  obtain ⟨d0, d1, d2, d3, d4, d5⟩ := h.cell1 (by decide)
  obtain ⟨-, -, -, e⟩ := s.tu0 (N := N) (.inl rfl)
  exact mkTwo (u0 := { u0X b with c2 := it 101 }) (u1 := u1X b) (wq_in (by decide)) ⟨set_off (by decide) a0, set_off (by decide) a1, set_same a2, set_off (by decide) a3, set_off (by decide) a4, set_off (by decide) a5⟩
    ⟨set_off (by decide) d0, set_off (by decide) d1, set_off (by decide) d2, set_off (by decide) d3, set_off (by decide) d4, set_off (by decide) d5⟩ ⟨rfl, rfl, rfl, ⟨e.f, by simp [i64ok], e.weeks, e.counts, e.rates⟩⟩ (s.tu1 (.inl rfl))
/-- A cell is set, and a new list of numbers is laid. -/
theorem new_ints {xs : List Int} {cs : Array Value} {t : TypeId} (hc : cs = (xs.map (Value.int .i64)).toArray) (hl : xs.length ≤ 1000) (ok : ∀ x ∈ xs, -1000 ≤ x ∧ x ≤ 1000) {M : Nat} (hM : M = W.heap.size) (hN : N ≤ M) : IntsV (mask (wq b N) (W.alloc (.cells cs t))) (sl M xs.length) xs :=
  ints_mk xs rfl hl (fun i hi => by
    rw [mask_cell, wq_no.2 (.inr hN)]
    subst hM hc
    simp [hi]) ok
theorem mut_weeks {t : TypeId} {cs : Array Value} {xs : List Int} {v : Value} (h : TXE 12 b W) (hN : N ≤ W.heap.size) (hb : b + 12 ≤ W.heap.size) (hc : cs = (xs.map (Value.int .i64)).toArray) (hl : xs.length ≤ 1000) (ok : ∀ x ∈ xs, -1000 ≤ x ∧ x ≤ 1000) (hv : v = sl W.heap.size xs.length) :
    TarsV (mask (wq b N) ((W.setCell ⟨b + 11, 3, none⟩ v).alloc (.cells cs t))) (sl (b + 11) 2) [{ t0X with weeks := xs }, t1X] ∧ EG b (b + 12) W ((W.setCell ⟨b + 11, 3, none⟩ v).alloc (.cells cs t)) := by
  subst hv
  have x1 : Ext (W.setCell ⟨b + 11, 3, none⟩ (sl W.heap.size xs.length)) ((W.setCell ⟨b + 11, 3, none⟩ (sl W.heap.size xs.length)).alloc (.cells cs t)) := (Ext.refl _).alloc _
  have hlt : b + 11 < (W.setCell ⟨b + 11, 3, none⟩ (sl W.heap.size xs.length)).heap.size := by simp; omega
  have s : TXE 11 b ((W.setCell ⟨b + 11, 3, none⟩ (sl W.heap.size xs.length)).alloc (.cells cs t)) := h.turn (i0 := 11) (((EG.refl W).setIn (T := b + 11) (by omega) (by omega) _).alloc _) (fun o _ => (x1.frozen hlt).trans (by rw [World.frozen?_setCell]; exact h.fz 11 o (by decide)))
  obtain ⟨a0, a1, a2, a3, a4, a5⟩ := h.cell0 (by decide)
  obtain ⟨d0, d1, d2, d3, d4, d5⟩ := h.cell1 (by decide)
  obtain ⟨-, -, -, e⟩ := s.tu0 (N := N) (.inl rfl)
  refine ⟨mkTwo (u0 := { u0X b with c3 := sl W.heap.size xs.length }) (u1 := u1X b) (wq_in (by decide)) (Cell6.ext x1 _ _ _ ⟨set_off (by decide) a0, set_off (by decide) a1, set_off (by decide) a2, set_same a3, set_off (by decide) a4, set_off (by decide) a5⟩)
    (Cell6.ext x1 _ _ _ ⟨set_off (by decide) d0, set_off (by decide) d1, set_off (by decide) d2, set_off (by decide) d3, set_off (by decide) d4, set_off (by decide) d5⟩) ⟨rfl, rfl, rfl, ⟨e.f, e.l, new_ints hc hl ok (by simp) hN, e.counts, e.rates⟩⟩ (s.tu1 (.inl rfl)), ((EG.refl W).setIn (T := b + 11) (by omega) (by omega) _).alloc _⟩
theorem mut_counts {t : TypeId} {cs : Array Value} {xs : List Int} {v : Value} (h : TXE 12 b W) (hN : N ≤ W.heap.size) (hb : b + 12 ≤ W.heap.size) (hc : cs = (xs.map (Value.int .i64)).toArray) (hl : xs.length ≤ 1000) (ok : ∀ x ∈ xs, -1000 ≤ x ∧ x ≤ 1000) (hv : v = sl W.heap.size xs.length) :
    TarsV (mask (wq b N) ((W.setCell ⟨b + 11, 4, none⟩ v).alloc (.cells cs t))) (sl (b + 11) 2) [{ t0X with counts := xs }, t1X] ∧ EG b (b + 12) W ((W.setCell ⟨b + 11, 4, none⟩ v).alloc (.cells cs t)) := by
  subst hv
  have x1 : Ext (W.setCell ⟨b + 11, 4, none⟩ (sl W.heap.size xs.length)) ((W.setCell ⟨b + 11, 4, none⟩ (sl W.heap.size xs.length)).alloc (.cells cs t)) := (Ext.refl _).alloc _
  have hlt : b + 11 < (W.setCell ⟨b + 11, 4, none⟩ (sl W.heap.size xs.length)).heap.size := by simp; omega
  have s : TXE 11 b ((W.setCell ⟨b + 11, 4, none⟩ (sl W.heap.size xs.length)).alloc (.cells cs t)) := h.turn (i0 := 11) (((EG.refl W).setIn (T := b + 11) (by omega) (by omega) _).alloc _) (fun o _ => (x1.frozen hlt).trans (by rw [World.frozen?_setCell]; exact h.fz 11 o (by decide)))
  obtain ⟨a0, a1, a2, a3, a4, a5⟩ := h.cell0 (by decide)
  obtain ⟨d0, d1, d2, d3, d4, d5⟩ := h.cell1 (by decide)
  obtain ⟨-, -, -, e⟩ := s.tu0 (N := N) (.inl rfl)
  refine ⟨mkTwo (u0 := { u0X b with c4 := sl W.heap.size xs.length }) (u1 := u1X b) (wq_in (by decide)) (Cell6.ext x1 _ _ _ ⟨set_off (by decide) a0, set_off (by decide) a1, set_off (by decide) a2, set_off (by decide) a3, set_same a4, set_off (by decide) a5⟩)
    (Cell6.ext x1 _ _ _ ⟨set_off (by decide) d0, set_off (by decide) d1, set_off (by decide) d2, set_off (by decide) d3, set_off (by decide) d4, set_off (by decide) d5⟩) ⟨rfl, rfl, rfl, ⟨e.f, e.l, e.weeks, new_ints hc hl ok (by simp) hN, e.rates⟩⟩ (s.tu1 (.inl rfl)), ((EG.refl W).setIn (T := b + 11) (by omega) (by omega) _).alloc _⟩
theorem mut_rates (h : TXE 12 b W) : TarsV (mask (wq b N) (W.setCell ⟨b + 3, 2, none⟩ (.int .i64 101))) (sl (b + 11) 2) ratesL := by
  have s := h.store (i0 := 3) (o := 2) (v := .int .i64 101) (by decide)
  have r3 : IntsV (mask (wq b N) (W.setCell ⟨b + 3, 2, none⟩ (.int .i64 101))) (sl (b + 3) 3) [0, 25, 101] := ints_mk [0, 25, 101] rfl (by decide) (fun i hi => by
    rw [mask_cell, wq_in (by decide)]
    rcases i with _ | _ | _ | i
    · exact set_off (by decide) (h.cell 3 0 _ (by decide) (by decide) rfl)
    · exact set_off (by decide) (h.cell 3 1 _ (by decide) (by decide) rfl)
    · exact set_same (h.cell 3 2 _ (by decide) (by decide) rfl)
    · simp at hi; omega) (by decide)
  exact mkTwo (u0 := u0X b) (u1 := u1X b) (wq_in (by decide)) (s.cell0 (by decide)) (s.cell1 (by decide))
    ⟨rfl, rfl, rfl, ⟨by simp [t0X, i64ok], by simp [t0X, i64ok], s.weeks0 (by decide) (wq_in (i := 0) (by decide)), s.counts0 (by decide) (wq_in (by decide)), s.rates0 (by decide) (by decide) (by decide) (wq_in (by decide)) (wq_in (by decide)) (wq_in (by decide)) r3⟩⟩ (s.tu1 (.inr (.inr rfl)))
/-- Rates that grew by a list: the other blocks stay. -/
theorem mut_crops {e : Nat} {W1 W3 : World} {v' : Value} {M M' : Nat} (h : TXE 12 b W) (hN : N ≤ W.heap.size) (hb : b + 12 ≤ W.heap.size) (hx : Ext W W1) (hg : W1.grownBy W3 (some (b + 10))) (hown : W3.ownsRow (b + 10) e 1 v' 2 [sl (b + 9) 1, sl M 1]) (hat : v'.ownBlock = some (b + 10) ∨ v'.ownBlock = some W1.heap.size)
    (hM : W.heap.size ≤ M) (hM' : W.heap.size ≤ M') (m0 : W1.cell? ⟨M, 0, none⟩ = some (sl M' 2)) (n0 : W1.cell? ⟨M', 0, none⟩ = some (.int .i64 0)) (n1 : W1.cell? ⟨M', 1, none⟩ = some (.int .i64 0)) :
    TarsV (mask (wq b N) (W3.setCell ⟨b + 11, 11, none⟩ v')) (sl (b + 11) 2) cropsL ∧ EG b (b + 12) W (W3.setCell ⟨b + 11, 11, none⟩ v') := by
  have g1 : EG (b + 10) (b + 11) W W3 := hx.eg.trans (EG.grown hg (fun g e => by cases e; omega))
  have g2 : EG (b + 10) (b + 12) W (W3.setCell ⟨b + 11, 11, none⟩ v') := by
    have : EG (b + 10) (b + 12) W W3 := ⟨g1.os, g1.tape, g1.output, g1.size, fun k hk hr => g1.block k hk (by omega)⟩
    exact this.setIn (T := b + 11) (by omega) (by omega) v'
  have kc : KC (mask (fun k => !(decide (b ≤ k) && decide (k < b + 10))) W) (mask (wq b N) (W3.setCell ⟨b + 11, 11, none⟩ v')) := mask_kc (fun k _ hp => wq_no.2 (.inl (by simp at hp; omega))) (fun k hk hp => g2.block k hk (by simp at hp; omega))
  have pin : ∀ i, i < 10 → (fun k => !(decide (b ≤ k) && decide (k < b + 10))) (b + i) = false := fun i hi => by simp; omega
  obtain ⟨a0, a1, a2, a3, a4, a5⟩ := h.cell0 (by decide)
  obtain ⟨d0, d1, d2, d3, d4, d5⟩ := h.cell1 (by decide)
  have o1 : b + 11 < b + 10 ∨ b + 11 ≤ b + 11 := .inr (Nat.le_refl _)
  have row : Ints2V (mask (wq b N) (W3.setCell ⟨b + 11, 11, none⟩ v')) (sl (b + 9) 1) [[0, 90]] := (h.row1 (p := fun k => !(decide (b ≤ k) && decide (k < b + 10))) (by decide) (by decide) (pin 8 (by decide)) (pin 9 (by decide))).kc kc
  have hW1 := hx.size
  have keep : ∀ k o x, W.heap.size ≤ k → W1.cell? ⟨k, o, none⟩ = some x → (mask (wq b N) (W3.setCell ⟨b + 11, 11, none⟩ v')).cell? ⟨k, o, none⟩ = some x := fun k o x hk hc => by
    rw [mask_cell, wq_no.2 (.inr (by omega))]
    exact set_other (by omega) (hg.cell hc (fun e => by have h9 : k = b + 10 := Option.some.inj e; omega))
  have rw' : Ints2V (mask (wq b N) (W3.setCell ⟨b + 11, 11, none⟩ v')) (sl M 1) [[0, 0]] := ints2_mk [[0, 0]] rfl (by decide) (fun i hi => by
    rcases i with _ | i
    · refine ⟨_, keep _ _ _ hM m0, ints_mk [0, 0] rfl (by decide) (fun j hj => ?_) (by decide)⟩
      rcases j with _ | _ | j
      · exact keep _ _ _ hM' n0
      · exact keep _ _ _ hM' n1
      · simp at hj; omega
    · simp at hi)
  have rts : Ints3V (mask (wq b N) (W3.setCell ⟨b + 11, 11, none⟩ v')) v' [[[0, 90]], [[0, 0]]] := by
    rcases own_open hown with ⟨-, h0⟩ | ⟨g, cap, rfl, hB, hgl, hn, hc⟩
    · omega
    · have hgq : wq b N g = false ∧ g ≠ b + 11 := by
        rcases hat with h1 | h1
        · simp [Value.ownBlock] at h1
          subst h1
          exact ⟨wq_in (by decide), by omega⟩
        · simp [Value.ownBlock] at h1
          subst h1
          exact ⟨wq_no.2 (.inr (by omega)), by omega⟩
      have gc : ∀ j x, ([sl (b + 9) 1, sl M 1] : List Value)[j]? = some x → (mask (wq b N) (W3.setCell ⟨b + 11, 11, none⟩ (.slice (some ⟨g, 0, none⟩) 2 cap))).cell? ⟨g, j, none⟩ = some x := fun j x hj => by
        rw [mask_cell, hgq.1]
        exact set_other (Ne.symm hgq.2) (hc j x hj)
      refine ⟨_, cap, rfl, hn, by simp, fun i hi => ⟨g, 0, rfl, ?_⟩⟩
      rcases i with _ | _ | i
      · exact ⟨_, gc 0 _ rfl, row⟩
      · exact ⟨_, gc 1 _ rfl, rw'⟩
      · simp at hi; omega
  refine ⟨?_, ⟨g2.os, g2.tape, g2.output, g2.size, fun k hk hr => g2.block k hk (by omega)⟩⟩
  refine mkTwo (u0 := u0X b) (u1 := { u1X b with c5 := v' }) (wq_in (by decide)) ⟨set_off (by decide) (g1.keep o1 a0), set_off (by decide) (g1.keep o1 a1), set_off (by decide) (g1.keep o1 a2), set_off (by decide) (g1.keep o1 a3), set_off (by decide) (g1.keep o1 a4), set_off (by decide) (g1.keep o1 a5)⟩
    ⟨set_off (by decide) (g1.keep o1 d0), set_off (by decide) (g1.keep o1 d1), set_off (by decide) (g1.keep o1 d2), set_off (by decide) (g1.keep o1 d3), set_off (by decide) (g1.keep o1 d4), set_same (g1.keep o1 d5)⟩ ?_ ⟨rfl, rfl, rfl, ⟨by simp [t1X, i64ok], by simp [t1X, i64ok], ?_, ?_, rts⟩⟩
  · refine TarU.kc kc ⟨rfl, rfl, rfl, ⟨by simp [t0X, i64ok], by simp [t0X, i64ok], h.weeks0 (by decide) (pin 0 (by decide)), h.counts0 (by decide) (pin 1 (by decide)), h.rates0 (by decide) (by decide) (by decide) (pin 2 (by decide)) (pin 4 (by decide)) (pin 5 (by decide)) (h.row01 (by decide) (pin 3 (by decide)))⟩⟩
  · exact (h.weeks1 (p := fun k => !(decide (b ≤ k) && decide (k < b + 10))) (by decide) (pin 6 (by decide))).kc kc
  · exact (h.counts1 (p := fun k => !(decide (b ≤ k) && decide (k < b + 10))) (by decide) (pin 7 (by decide))).kc kc
end
end Go.Hs

/- Closed facts on the document's examples, and what the program answers to them. -/
namespace Go.Proofs.Ytfjecbfcnngacaa
open Go.RowKit Go.Hs
def wideC : Cla := ⟨0, 1050, 0, 11, 20, 25⟩
theorem nm1 : partR twoL 0 5 9 = .tuple #[.int .i64 0, .int .i64 0] := by kernel_rfl
theorem nm2 : partR twoL 0 12 25 = .tuple #[.int .i64 12, .int .i64 0] := by kernel_rfl
theorem nm4 : showR twoL oneC true = .tuple #[.agg #[.int .i64 9, .int .i64 25], .int .i64 0] := by kernel_rfl
theorem nm5 : leastR twoL 0 12 = .tuple #[.int .i64 16, .int .i64 0] := by kernel_rfl
theorem nm9 : partR twoL 1 0 0 = .tuple #[.int .i64 0, .int .i64 2] := by kernel_rfl
theorem nm10 : partR twoL 0 121 0 = .tuple #[.int .i64 0, .int .i64 2] := by kernel_rfl
theorem nm12 : boundsR twoL wideC = .tuple #[.agg #[.int .i64 0, .int .i64 0], .int .i64 2] := by kernel_rfl
theorem nm13 : leastR wrongL 0 20 = .tuple #[.int .i64 0, .int .i64 7] := by kernel_rfl
theorem nm16 : checkS fromL = 1 ∧ checkS leastXL = 1 ∧ checkS weeksL = 1 ∧ checkS countsL = 1 ∧ checkS ratesL = 1 ∧ checkS cropsL = 1 ∧ checkS manyL = 3 ∧ checkS [] = 1 ∧ checkS twoL = 0 ∧ checkS wrongL = 0 := by decide +kernel
theorem mut_wrong {b : Nat} {W : World} {t1 t2 t3 : TypeId} (h : TXE 12 b W) (hs : W.heap.size = b + 12) :
    TarsV (((((((W.setCell ⟨b + 11, 4, none⟩ (.slice (some ⟨b + 12, 0, none⟩) 5 5)).setCell ⟨b + 11, 5, none⟩ (.slice (some ⟨b + 12 + 1 + 1 + 1 + 1, 0, none⟩) 1 1)).alloc (.cells #[.int .i64 0, .int .i64 20, .int .i64 40, .int .i64 60, .int .i64 100] t1)).alloc (.cells #[.int .i64 0, .int .i64 40, .int .i64 30, .int .i64 35, .int .i64 50] t1)).alloc (.cells #[.int .i64 0, .int .i64 0, .int .i64 0, .int .i64 0, .int .i64 0] t1)).alloc
      (.cells #[.slice (some ⟨b + 12 + 1, 0, none⟩) 5 5, .slice (some ⟨b + 12 + 1 + 1, 0, none⟩) 5 5] t2)).alloc (.cells #[.slice (some ⟨b + 12 + 1 + 1 + 1, 0, none⟩) 2 2] t3)) (.slice (some ⟨b + 11, 0, none⟩) 2 2) wrongL := by
  obtain ⟨W2, hW2⟩ : ∃ x, x = (W.setCell ⟨b + 11, 4, none⟩ (.slice (some ⟨b + 12, 0, none⟩) 5 5)).setCell ⟨b + 11, 5, none⟩ (.slice (some ⟨b + 12 + 1 + 1 + 1 + 1, 0, none⟩) 1 1) := ⟨_, rfl⟩
  rw [← hW2]
  have hs2 : W2.heap.size = b + 12 := by rw [hW2]; simp [hs]
  have g2 : EG (b + 11) (b + 12) W W2 := by rw [hW2]; exact (((EG.refl W).setIn (T := b + 11) (by omega) (by omega) _).setIn (T := b + 11) (by omega) (by omega) _)
  obtain ⟨a0, a1, a2, a3, a4, a5⟩ := h.cell0 (by decide)
  obtain ⟨d0, d1, d2, d3, d4, d5⟩ := h.cell1 (by decide)
  have c0 : Cell6 W2 (b + 11) 0 { u0X b with c4 := .slice (some ⟨b + 12, 0, none⟩) 5 5, c5 := .slice (some ⟨b + 12 + 1 + 1 + 1 + 1, 0, none⟩) 1 1 } := by
    rw [hW2]
    exact ⟨set_off (by decide) (set_off (by decide) a0), set_off (by decide) (set_off (by decide) a1), set_off (by decide) (set_off (by decide) a2), set_off (by decide) (set_off (by decide) a3), set_off (by decide) (set_same a4), set_same (set_off (by decide) a5)⟩
  have c1 : Cell6 W2 (b + 11) 6 (u1X b) := by
    rw [hW2]
    exact ⟨set_off (by decide) (set_off (by decide) d0), set_off (by decide) (set_off (by decide) d1), set_off (by decide) (set_off (by decide) d2), set_off (by decide) (set_off (by decide) d3), set_off (by decide) (set_off (by decide) d4), set_off (by decide) (set_off (by decide) d5)⟩
  have f2 : ∀ o, W2.frozen? ⟨b + 11, o, none⟩ = false := fun o => by rw [hW2, World.frozen?_setCell, World.frozen?_setCell]; exact h.fz 11 o (by decide)
  clear hW2 a0 a1 a2 a3 a4 a5 d0 d1 d2 d3 d4 d5
  obtain ⟨A1, hA1⟩ : ∃ x, x = W2.alloc (.cells #[.int .i64 0, .int .i64 20, .int .i64 40, .int .i64 60, .int .i64 100] t1) := ⟨_, rfl⟩
  obtain ⟨A2, hA2⟩ : ∃ x, x = A1.alloc (.cells #[.int .i64 0, .int .i64 40, .int .i64 30, .int .i64 35, .int .i64 50] t1) := ⟨_, rfl⟩
  obtain ⟨A3, hA3⟩ : ∃ x, x = A2.alloc (.cells #[.int .i64 0, .int .i64 0, .int .i64 0, .int .i64 0, .int .i64 0] t1) := ⟨_, rfl⟩
  obtain ⟨A4, hA4⟩ : ∃ x, x = A3.alloc (.cells #[.slice (some ⟨b + 12 + 1, 0, none⟩) 5 5, .slice (some ⟨b + 12 + 1 + 1, 0, none⟩) 5 5] t2) := ⟨_, rfl⟩
  obtain ⟨A5, hA5⟩ : ∃ x, x = A4.alloc (.cells #[.slice (some ⟨b + 12 + 1 + 1 + 1, 0, none⟩) 2 2] t3) := ⟨_, rfl⟩
  rw [← hA1, ← hA2, ← hA3, ← hA4, ← hA5]
  have s1 : A1.heap.size = b + 12 + 1 := by rw [hA1]; simp [hs2]
  have s2 : A2.heap.size = b + 12 + 1 + 1 := by rw [hA2]; simp [s1]
  have s3 : A3.heap.size = b + 12 + 1 + 1 + 1 := by rw [hA3]; simp [s2]
  have s4 : A4.heap.size = b + 12 + 1 + 1 + 1 + 1 := by rw [hA4]; simp [s3]
  have x5 : Ext A4 A5 := by rw [hA5]; exact (Ext.refl _).alloc _
  have x4 : Ext A3 A5 := Ext.trans (by rw [hA4]; exact (Ext.refl _).alloc _) x5
  have x3 : Ext A2 A5 := Ext.trans (by rw [hA3]; exact (Ext.refl _).alloc _) x4
  have x2 : Ext A1 A5 := Ext.trans (by rw [hA2]; exact (Ext.refl _).alloc _) x3
  have x1 : Ext W2 A5 := Ext.trans (by rw [hA1]; exact (Ext.refl _).alloc _) x2
  have k1 : ∀ i x, (#[Value.int .i64 0, .int .i64 20, .int .i64 40, .int .i64 60, .int .i64 100] : Array Value)[i]? = some x → A5.cell? ⟨b + 12, i, none⟩ = some x := fun i x hx => x2.keep (by rw [hA1]; exact alloc_at hs2.symm hx)
  have k2 : ∀ i x, (#[Value.int .i64 0, .int .i64 40, .int .i64 30, .int .i64 35, .int .i64 50] : Array Value)[i]? = some x → A5.cell? ⟨b + 12 + 1, i, none⟩ = some x := fun i x hx => x3.keep (by rw [hA2]; exact alloc_at s1.symm hx)
  have k3 : ∀ i x, (#[Value.int .i64 0, .int .i64 0, .int .i64 0, .int .i64 0, .int .i64 0] : Array Value)[i]? = some x → A5.cell? ⟨b + 12 + 1 + 1, i, none⟩ = some x := fun i x hx => x4.keep (by rw [hA3]; exact alloc_at s2.symm hx)
  have k4 : ∀ i x, (#[Value.slice (some ⟨b + 12 + 1, 0, none⟩) 5 5, .slice (some ⟨b + 12 + 1 + 1, 0, none⟩) 5 5] : Array Value)[i]? = some x → A5.cell? ⟨b + 12 + 1 + 1 + 1, i, none⟩ = some x := fun i x hx => x5.keep (by rw [hA4]; exact alloc_at s3.symm hx)
  have k5 : A5.cell? ⟨b + 12 + 1 + 1 + 1 + 1, 0, none⟩ = some (.slice (some ⟨b + 12 + 1 + 1 + 1, 0, none⟩) 2 2) := by rw [hA5]; exact alloc_at s4.symm rfl
  have s : TXE 11 b A5 := h.turn (i0 := 11) (g2.ext x1) (fun o _ => (x1.frozen (by omega)).trans (f2 o))

  have iv : ∀ {B : Nat} {xs : List Int} {n : Nat}, n = xs.length → xs.length ≤ 1000 → (∀ x ∈ xs, -1000 ≤ x ∧ x ≤ 1000) → (∀ i, i < xs.length → A5.cell? ⟨B, i, none⟩ = some (.int .i64 (xs.getD i 0))) → IntsV (mask (fun _ => false) A5) (.slice (some ⟨B, 0, none⟩) n n) xs := fun hn hl ok hc => ints_mk _ hn hl (fun i hi => by rw [mask_cell]; exact hc i hi) ok
  have v1 : IntsV (mask (fun _ => false) A5) (.slice (some ⟨b + 12, 0, none⟩) 5 5) [0, 20, 40, 60, 100] := iv rfl (by decide) (by decide) (fun i hi => k1 i _ (by rcases i with _ | _ | _ | _ | _ | i <;> first | rfl | (simp at hi; omega)))
  have v2 : IntsV (mask (fun _ => false) A5) (.slice (some ⟨b + 12 + 1, 0, none⟩) 5 5) [0, 40, 30, 35, 50] := iv rfl (by decide) (by decide) (fun i hi => k2 i _ (by rcases i with _ | _ | _ | _ | _ | i <;> first | rfl | (simp at hi; omega)))
  have v3 : IntsV (mask (fun _ => false) A5) (.slice (some ⟨b + 12 + 1 + 1, 0, none⟩) 5 5) [0, 0, 0, 0, 0] := iv rfl (by decide) (by decide) (fun i hi => k3 i _ (by rcases i with _ | _ | _ | _ | _ | i <;> first | rfl | (simp at hi; omega)))
  have v4 : Ints3V (mask (fun _ => false) A5) (.slice (some ⟨b + 12 + 1 + 1 + 1 + 1, 0, none⟩) 1 1) [[[0, 40, 30, 35, 50], [0, 0, 0, 0, 0]]] := ints3_mk _ rfl (by decide) (fun i hi => by
    rcases i with _ | i
    · refine ⟨_, by rw [mask_cell]; exact k5, ints2_mk _ rfl (by decide) (fun j hj => ?_)⟩
      rcases j with _ | _ | j
      · exact ⟨_, by rw [mask_cell]; exact k4 0 _ rfl, v2⟩
      · exact ⟨_, by rw [mask_cell]; exact k4 1 _ rfl, v3⟩
      · simp at hj; omega
    · simp at hi)
  have := mkTwo (p := fun _ => false) (t0 := { t0X with counts := [0, 20, 40, 60, 100], rates := [[[0, 40, 30, 35, 50], [0, 0, 0, 0, 0]]] }) (t1 := t1X) rfl (Cell6.ext x1 _ _ _ c0) (Cell6.ext x1 _ _ _ c1)
    ⟨rfl, rfl, rfl, ⟨by simp [t0X, i64ok], by simp [t0X, i64ok], s.weeks0 (by decide) rfl, v1, v4⟩⟩
    ⟨rfl, rfl, rfl, ⟨by simp [t1X, i64ok], by simp [t1X, i64ok], s.weeks1 (by decide) rfl, s.counts1 (by decide) rfl, s.rates1 (by decide) (by decide) (by decide) rfl rfl rfl⟩⟩
  exact this.kc (mask_kc0 _ _)
end Go.Proofs.Ytfjecbfcnngacaa
