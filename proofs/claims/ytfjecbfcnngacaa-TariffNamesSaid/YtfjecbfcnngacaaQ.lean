/- Words: the bounds of a claim, truth by truth. -/
import Derived.Test.YtfjecbfcnngacaaX
import Derived.RangeFuncRecord
namespace Go.Hs
open Go.RowKit

/-- The bounds so far, with the first truths that have them; 'first': no truth has come yet. -/
structure ES where
  first : Bool
  lo : Int
  hi : Int
  ld : Int
  ln : Int
  hd : Int
  hn : Int
def ES.start : ES := ⟨true, 0, 0, 0, 0, 0, 0⟩
def ES.low (s : ES) (p : Int) : Bool := s.first || decide (p < s.lo)
def ES.high (s : ES) (p : Int) : Bool := s.first || decide (s.hi < p)
def ES.next (s : ES) (p d n : Int) : ES :=
  { first := false, lo := if s.low p then p else s.lo, hi := if s.high p then p else s.hi, ld := if s.low p then d else s.ld, ln := if s.low p then n else s.ln, hd := if s.high p then d else s.hd, hn := if s.high p then n else s.hn }
/-- The truths of a claim up to the day d and the count n (both counted from the ranges' ends). -/
def seqTo (dlo clo : Int) (C : Nat) (d n : Nat) : List (Int × Int) :=
  (List.range d).flatMap (fun (i : Nat) => (List.range C).map (fun (j : Nat) => (dlo + (i : Int), clo + (j : Int)))) ++ (List.range n).map (fun (j : Nat) => (dlo + (d : Int), clo + (j : Int)))
theorem seqTo_next (dlo clo : Int) (C d n : Nat) : seqTo dlo clo C d (n + 1) = seqTo dlo clo C d n ++ [(dlo + (d : Int), clo + (n : Int))] := by
  simp [seqTo, List.range_succ]
theorem seqTo_turn (dlo clo : Int) (C d : Nat) : seqTo dlo clo C d C = seqTo dlo clo C (d + 1) 0 := by
  simp [seqTo, List.range_succ, List.flatMap_append]
def foldE (f : Int → Int → Int) (l : List (Int × Int)) : ES := l.foldl (fun s t => s.next (f t.1 t.2) t.1 t.2) ES.start
theorem foldE_snoc (f : Int → Int → Int) (l : List (Int × Int)) (t : Int × Int) : foldE f (l ++ [t]) = (foldE f l).next (f t.1 t.2) t.1 t.2 := by simp [foldE]
end Go.Hs
namespace Go.Proofs.Ytfjecbfcnngacaa
open Go.RowKit Go.Hs
def sizeOfR (lo hi : Int) : Nat := (hi - lo + 1).toNat
def endsTo (l : List Tar) (c : Cla) (d n : Nat) : ES := foldE (payS l c) (seqTo c.dlo c.clo (sizeOfR c.clo c.chi) d n)
def endsS (l : List Tar) (c : Cla) : ES := endsTo l c (sizeOfR c.dlo c.dhi) 0

/-- What holds between two rounds of 'ends'. -/
structure EndsI (l : List Tar) (c : Cla) (p r : Nat) (w0 : World) (B L D : Nat) (rec : Loop) (s : ES) (W : World) : Prop where
  but : ExtBut r w0 W
  memo : Memo (partS l) r W
  pb : W.cell? ⟨B, 0, none⟩ = some (.pointer (some ⟨p, 0, none⟩))
  cb : Cell6 W (B + 1) 0 c.u
  tb : Cell6 W (B + 6) 0 c.u
  r0 : W.cell? ⟨B + 2, 0, none⟩ = some (.int .i64 s.lo)
  r1 : W.cell? ⟨B + 2, 1, none⟩ = some (.int .i64 s.hi)
  l0 : W.cell? ⟨B + 3, 0, none⟩ = some (.int .i64 s.ld)
  l1 : W.cell? ⟨B + 3, 1, none⟩ = some (.int .i64 s.ln)
  h0 : W.cell? ⟨B + 4, 0, none⟩ = some (.int .i64 s.hd)
  h1 : W.cell? ⟨B + 4, 1, none⟩ = some (.int .i64 s.hn)
  f0 : W.cell? ⟨B + 5, 0, none⟩ = some (.bool s.first)
  fr2 : ∀ o, W.frozen? ⟨B + 2, o, none⟩ = false
  fr3 : ∀ o, W.frozen? ⟨B + 3, o, none⟩ = false
  fr4 : ∀ o, W.frozen? ⟨B + 4, o, none⟩ = false
  fr5 : ∀ o, W.frozen? ⟨B + 5, o, none⟩ = false
  lo : W.heap[L]? = some (.loop rec)
  de : W.heap[D]? = some (.deferred (some []))

theorem putObj_cell {w : World} {r k o : Nat} (h : r ≠ k) (x : Obj) : (w.putObj r x).cell? ⟨k, o, none⟩ = w.cell? ⟨k, o, none⟩ :=
  World.cell?_of_block (w := w) (a := ⟨k, o, none⟩) (World.putObj_heap_other (Ne.symm h))
theorem frozen_of_heap {w w' : World} {k : Nat} (h : w'.heap[k]? = w.heap[k]?) (o : Nat) : w'.frozen? ⟨k, o, none⟩ = w.frozen? ⟨k, o, none⟩ := World.frozen?_of_block (w := w) (a := ⟨k, o, none⟩) h

section
variable {l : List Tar} {c : Cla} {p r : Nat} {w0 : World} {B L D : Nat} {rec : Loop} {s : ES} {W W' : World}

/-- A step that keeps all cells, the marks of the variables' blocks, and the record. -/
theorem EndsI.step (h : EndsI l c p r w0 B L D rec s W) (hb : ExtBut r W W') (hm : Memo (partS l) r W') : EndsI l c p r w0 B L D rec s W' := by
  have hn := h.memo.noCells
  have k := hb.kc hn
  have ne : ∀ b o v, W.cell? ⟨b, o, none⟩ = some v → W'.heap[b]? = W.heap[b]? := fun b o v hc => hb.block b (lt_of_cell (a := ⟨b, o, none⟩) hc) (by rintro rfl; rw [hn o] at hc; cases hc)
  obtain ⟨es, clock, hr, -⟩ := id h.memo
  have k6 : ∀ b, Cell6 W b 0 c.u → Cell6 W' b 0 c.u := fun b hc => ⟨k _ _ _ hc.1, k _ _ _ hc.2.1, k _ _ _ hc.2.2.1, k _ _ _ hc.2.2.2.1, k _ _ _ hc.2.2.2.2.1, k _ _ _ hc.2.2.2.2.2⟩
  refine ⟨h.but.trans hb, hm, k _ _ _ h.pb, k6 _ h.cb, k6 _ h.tb, k _ _ _ h.r0, k _ _ _ h.r1, k _ _ _ h.l0, k _ _ _ h.l1, k _ _ _ h.h0, k _ _ _ h.h1, k _ _ _ h.f0, ?_, ?_, ?_, ?_, ?_, ?_⟩
  · intro o; rw [frozen_of_heap (ne _ _ _ h.r0)]; exact h.fr2 o
  · intro o; rw [frozen_of_heap (ne _ _ _ h.l0)]; exact h.fr3 o
  · intro o; rw [frozen_of_heap (ne _ _ _ h.h0)]; exact h.fr4 o
  · intro o; rw [frozen_of_heap (ne _ _ _ h.f0)]; exact h.fr5 o
  · rw [hb.block L (Array.getElem?_eq_some_iff.1 h.lo).1 (by rintro rfl; rw [h.lo] at hr; cases hr)]; exact h.lo
  · rw [hb.block D (Array.getElem?_eq_some_iff.1 h.de).1 (by rintro rfl; rw [h.de] at hr; cases hr)]; exact h.de

theorem EndsI.alloc (h : EndsI l c p r w0 B L D rec s W) (o : Obj) : EndsI l c p r w0 B L D rec s (W.alloc o) :=
  h.step (((Ext.refl W).alloc o).but r) (h.memo.ext ((Ext.refl W).alloc o))
theorem EndsI.drew (h : EndsI l c p r w0 B L D rec s W) : EndsI l c p r w0 B L D rec s W.drew :=
  h.step (((Ext.refl W).drew).but r) (h.memo.ext ((Ext.refl W).drew))

/-- The record turns. -/
theorem EndsI.turn (h : EndsI l c p r w0 B L D rec s W) (hL : w0.heap.size ≤ L) (rec' : Loop) : EndsI l c p r w0 B L D rec' s (W.putObj L (.loop rec')) := by
  obtain ⟨es, clock, hr, he⟩ := id h.memo
  have ho : ∀ k, k ≠ L → (W.putObj L (.loop rec')).heap[k]? = W.heap[k]? := fun k hk => World.putObj_heap_other hk
  have nL : ∀ b o v, W.cell? ⟨b, o, none⟩ = some v → b ≠ L := fun b o v hc => by
    rintro rfl
    unfold World.cell? at hc
    rw [h.lo] at hc
    cases hc
  have k : KC W (W.putObj L (.loop rec')) := fun b o v hc => by
    rw [World.cell?_of_block (w := W) (a := ⟨b, o, none⟩) (ho b (nL b o v hc))]; exact hc
  have k6 : ∀ b, Cell6 W b 0 c.u → Cell6 (W.putObj L (.loop rec')) b 0 c.u := fun b hc => ⟨k _ _ _ hc.1, k _ _ _ hc.2.1, k _ _ _ hc.2.2.1, k _ _ _ hc.2.2.2.1, k _ _ _ hc.2.2.2.2.1, k _ _ _ hc.2.2.2.2.2⟩
  refine ⟨⟨h.but.os, h.but.tape, h.but.output, by simp; exact h.but.size, fun i hi hir => (ho i (by omega)).trans (h.but.block i hi hir)⟩, ⟨es, clock, by rw [ho r (by rintro rfl; rw [h.lo] at hr; cases hr)]; exact hr, he⟩,
    k _ _ _ h.pb, k6 _ h.cb, k6 _ h.tb, k _ _ _ h.r0, k _ _ _ h.r1, k _ _ _ h.l0, k _ _ _ h.l1, k _ _ _ h.h0, k _ _ _ h.h1, k _ _ _ h.f0, ?_, ?_, ?_, ?_, ?_, ?_⟩
  · intro o; rw [frozen_of_heap (ho _ (nL _ _ _ h.r0))]; exact h.fr2 o
  · intro o; rw [frozen_of_heap (ho _ (nL _ _ _ h.l0))]; exact h.fr3 o
  · intro o; rw [frozen_of_heap (ho _ (nL _ _ _ h.h0))]; exact h.fr4 o
  · intro o; rw [frozen_of_heap (ho _ (nL _ _ _ h.f0))]; exact h.fr5 o
  · exact World.putObj_heap_same (Array.getElem?_eq_some_iff.1 h.lo).1
  · rw [ho D (by rintro rfl; have := h.lo.symm.trans h.de; cases this)]; exact h.de

theorem addr_ne {a b i j : Nat} (h : a ≠ b ∨ i ≠ j) : (⟨a, i, none⟩ : Addr) ≠ ⟨b, j, none⟩ := by
  rintro e; cases e; simp at h

/-- A variable of 'ends' is set: what is said of the other blocks stays. -/
theorem EndsI.set (h : EndsI l c p r w0 B L D rec s W) (hB : w0.heap.size ≤ B) (hr0 : r < B) (k o : Nat) (v : Value) (hk : B + 2 ≤ k ∧ k ≤ B + 5) (s' : ES)
    (q : (k = B + 2 ∧ o = 0 ∧ v = .int .i64 s'.lo ∧ s' = { s with lo := s'.lo }) ∨ (k = B + 2 ∧ o = 1 ∧ v = .int .i64 s'.hi ∧ s' = { s with hi := s'.hi }) ∨
      (k = B + 3 ∧ o = 0 ∧ v = .int .i64 s'.ld ∧ s' = { s with ld := s'.ld }) ∨ (k = B + 3 ∧ o = 1 ∧ v = .int .i64 s'.ln ∧ s' = { s with ln := s'.ln }) ∨
      (k = B + 4 ∧ o = 0 ∧ v = .int .i64 s'.hd ∧ s' = { s with hd := s'.hd }) ∨ (k = B + 4 ∧ o = 1 ∧ v = .int .i64 s'.hn ∧ s' = { s with hn := s'.hn }) ∨
      (k = B + 5 ∧ o = 0 ∧ v = .bool s'.first ∧ s' = { s with first := s'.first })) : EndsI l c p r w0 B L D rec s' (W.setCell ⟨k, o, none⟩ v) := by
  obtain ⟨es, clock, hr, he⟩ := id h.memo
  have ho : ∀ b, b ≠ k → (W.setCell ⟨k, o, none⟩ v).heap[b]? = W.heap[b]? := fun b hb => Below.heap_setCell W ⟨k, o, none⟩ v b hb
  have oth : ∀ b i x, b ≠ k ∨ i ≠ o → W.cell? ⟨b, i, none⟩ = some x → (W.setCell ⟨k, o, none⟩ v).cell? ⟨b, i, none⟩ = some x := fun b i x hne hc => by
    rw [World.cell?_setCell_other (h := addr_ne (by omega))]; exact hc
  have sm : ∀ x, W.cell? ⟨k, o, none⟩ = some x → (W.setCell ⟨k, o, none⟩ v).cell? ⟨k, o, none⟩ = some v := fun x hx => World.cell?_setCell_same W _ v hx
  have k6 : ∀ b, b ≠ k → Cell6 W b 0 c.u → Cell6 (W.setCell ⟨k, o, none⟩ v) b 0 c.u := fun b hb hc => ⟨oth _ _ _ (.inl hb) hc.1, oth _ _ _ (.inl hb) hc.2.1, oth _ _ _ (.inl hb) hc.2.2.1, oth _ _ _ (.inl hb) hc.2.2.2.1, oth _ _ _ (.inl hb) hc.2.2.2.2.1, oth _ _ _ (.inl hb) hc.2.2.2.2.2⟩
  have nk : ∀ b (x : Obj), W.heap[b]? = some x → (∀ a e f, x ≠ .cells a e f) → b ≠ k := fun b x hx hnc => by
    rintro rfl
    have : ∃ i y, W.cell? ⟨b, i, none⟩ = some y := by
      have e : b = B + 2 ∨ b = B + 3 ∨ b = B + 4 ∨ b = B + 5 := by omega
      rcases e with rfl | rfl | rfl | rfl
      · exact ⟨_, _, h.r0⟩
      · exact ⟨_, _, h.l0⟩
      · exact ⟨_, _, h.h0⟩
      · exact ⟨_, _, h.f0⟩
    obtain ⟨i, y, hy⟩ := this
    unfold World.cell? at hy
    simp only [hx] at hy
    cases x with
    | cells a e f => exact hnc _ _ _ rfl
    | _ => cases hy
  refine ⟨⟨h.but.os, h.but.tape, h.but.output, by rw [World.size_setCell]; exact h.but.size, fun i hi hir => (ho i (by omega)).trans (h.but.block i hi hir)⟩, ⟨es, clock, by rw [ho r (by omega)]; exact hr, he⟩,
    oth _ _ _ (.inl (by omega)) h.pb, k6 _ (by omega) h.cb, k6 _ (by omega) h.tb, ?_, ?_, ?_, ?_, ?_, ?_, ?_, fun o => by rw [World.frozen?_setCell]; exact h.fr2 o, fun o => by rw [World.frozen?_setCell]; exact h.fr3 o, fun o => by rw [World.frozen?_setCell]; exact h.fr4 o, fun o => by rw [World.frozen?_setCell]; exact h.fr5 o,
    by rw [ho L (nk _ _ h.lo (by intros; simp))]; exact h.lo, by rw [ho D (nk _ _ h.de (by intros; simp))]; exact h.de⟩
  all_goals
    rcases q with ⟨rfl, rfl, rfl, e⟩ | ⟨rfl, rfl, rfl, e⟩ | ⟨rfl, rfl, rfl, e⟩ | ⟨rfl, rfl, rfl, e⟩ | ⟨rfl, rfl, rfl, e⟩ | ⟨rfl, rfl, rfl, e⟩ | ⟨rfl, rfl, rfl, e⟩
    all_goals first
      | exact sm _ h.r0
      | exact sm _ h.r1
      | exact sm _ h.l0
      | exact sm _ h.l1
      | exact sm _ h.h0
      | exact sm _ h.h1
      | exact sm _ h.f0
      | (rw [e]; first
          | exact oth _ _ _ (by omega) h.r0
          | exact oth _ _ _ (by omega) h.r1
          | exact oth _ _ _ (by omega) h.l0
          | exact oth _ _ _ (by omega) h.l1
          | exact oth _ _ _ (by omega) h.h0
          | exact oth _ _ _ (by omega) h.h1
          | exact oth _ _ _ (by omega) h.f0)
end

section
variable {l : List Tar} {c : Cla} {p r : Nat} {w0 : World} {B L D : Nat} {rec : Loop} {s : ES} {W : World}
theorem EndsI.setLo (h : EndsI l c p r w0 B L D rec s W) (hB : w0.heap.size ≤ B) (hr0 : r < B) (x : Int) : EndsI l c p r w0 B L D rec { s with lo := x } (W.setCell ⟨B + 2, 0, none⟩ (.int .i64 x)) :=
  h.set hB hr0 (B + 2) 0 _ (by omega) { s with lo := x } (.inl ⟨rfl, rfl, rfl, rfl⟩)
theorem EndsI.setHi (h : EndsI l c p r w0 B L D rec s W) (hB : w0.heap.size ≤ B) (hr0 : r < B) (x : Int) : EndsI l c p r w0 B L D rec { s with hi := x } (W.setCell ⟨B + 2, 1, none⟩ (.int .i64 x)) :=
  h.set hB hr0 (B + 2) 1 _ (by omega) { s with hi := x } (.inr (.inl ⟨rfl, rfl, rfl, rfl⟩))
theorem EndsI.setLd (h : EndsI l c p r w0 B L D rec s W) (hB : w0.heap.size ≤ B) (hr0 : r < B) (x : Int) : EndsI l c p r w0 B L D rec { s with ld := x } (W.setCell ⟨B + 3, 0, none⟩ (.int .i64 x)) :=
  h.set hB hr0 (B + 3) 0 _ (by omega) { s with ld := x } (.inr (.inr (.inl ⟨rfl, rfl, rfl, rfl⟩)))
theorem EndsI.setLn (h : EndsI l c p r w0 B L D rec s W) (hB : w0.heap.size ≤ B) (hr0 : r < B) (x : Int) : EndsI l c p r w0 B L D rec { s with ln := x } (W.setCell ⟨B + 3, 1, none⟩ (.int .i64 x)) :=
  h.set hB hr0 (B + 3) 1 _ (by omega) { s with ln := x } (.inr (.inr (.inr (.inl ⟨rfl, rfl, rfl, rfl⟩))))
theorem EndsI.setHd (h : EndsI l c p r w0 B L D rec s W) (hB : w0.heap.size ≤ B) (hr0 : r < B) (x : Int) : EndsI l c p r w0 B L D rec { s with hd := x } (W.setCell ⟨B + 4, 0, none⟩ (.int .i64 x)) :=
  h.set hB hr0 (B + 4) 0 _ (by omega) { s with hd := x } (.inr (.inr (.inr (.inr (.inl ⟨rfl, rfl, rfl, rfl⟩)))))
theorem EndsI.setHn (h : EndsI l c p r w0 B L D rec s W) (hB : w0.heap.size ≤ B) (hr0 : r < B) (x : Int) : EndsI l c p r w0 B L D rec { s with hn := x } (W.setCell ⟨B + 4, 1, none⟩ (.int .i64 x)) :=
  h.set hB hr0 (B + 4) 1 _ (by omega) { s with hn := x } (.inr (.inr (.inr (.inr (.inr (.inl ⟨rfl, rfl, rfl, rfl⟩))))))
theorem EndsI.setF (h : EndsI l c p r w0 B L D rec s W) (hB : w0.heap.size ≤ B) (hr0 : r < B) (x : Bool) : EndsI l c p r w0 B L D rec { s with first := x } (W.setCell ⟨B + 5, 0, none⟩ (.bool x)) :=
  h.set hB hr0 (B + 5) 0 _ (by omega) { s with first := x } (.inr (.inr (.inr (.inr (.inr (.inr ⟨rfl, rfl, rfl, rfl⟩))))))
end

/-- The cells, spelled as the walk spells them. -/
theorem EndsI.flat {l : List Tar} {c : Cla} {p r : Nat} {w0 : World} {B L D : Nat} {rec : Loop} {s : ES} {W : World} (h : EndsI l c p r w0 B L D rec s W) :
    W.cell? ⟨B, 0, none⟩ = some (.pointer (some ⟨p, 0, none⟩)) ∧
    (W.cell? ⟨B + 1, 0, none⟩ = some (.int .i64 c.crop) ∧ W.cell? ⟨B + 1, 1, none⟩ = some (.int .i64 c.value) ∧ W.cell? ⟨B + 1, 2, none⟩ = some (.int .i64 c.dlo) ∧ W.cell? ⟨B + 1, 3, none⟩ = some (.int .i64 c.dhi) ∧ W.cell? ⟨B + 1, 4, none⟩ = some (.int .i64 c.clo) ∧ W.cell? ⟨B + 1, 5, none⟩ = some (.int .i64 c.chi)) ∧
    (W.cell? ⟨B + 1 + 1, 0, none⟩ = some (.int .i64 s.lo) ∧ W.cell? ⟨B + 1 + 1, 1, none⟩ = some (.int .i64 s.hi)) ∧
    (W.cell? ⟨B + 1 + 1 + 1, 0, none⟩ = some (.int .i64 s.ld) ∧ W.cell? ⟨B + 1 + 1 + 1, 1, none⟩ = some (.int .i64 s.ln)) ∧
    (W.cell? ⟨B + 1 + 1 + 1 + 1, 0, none⟩ = some (.int .i64 s.hd) ∧ W.cell? ⟨B + 1 + 1 + 1 + 1, 1, none⟩ = some (.int .i64 s.hn)) ∧
    W.cell? ⟨B + 1 + 1 + 1 + 1 + 1, 0, none⟩ = some (.bool s.first) :=
  ⟨h.pb, ⟨h.cb.1, h.cb.2.1, h.cb.2.2.1, h.cb.2.2.2.1, h.cb.2.2.2.2.1, h.cb.2.2.2.2.2⟩, ⟨h.r0, h.r1⟩, ⟨h.l0, h.l1⟩, ⟨h.h0, h.h1⟩, h.f0⟩
theorem EndsI.flatF {l : List Tar} {c : Cla} {p r : Nat} {w0 : World} {B L D : Nat} {rec : Loop} {s : ES} {W : World} (h : EndsI l c p r w0 B L D rec s W) :
    (∀ o, W.frozen? ⟨B + 1 + 1, o, none⟩ = false) ∧ (∀ o, W.frozen? ⟨B + 1 + 1 + 1, o, none⟩ = false) ∧ (∀ o, W.frozen? ⟨B + 1 + 1 + 1 + 1, o, none⟩ = false) ∧ (∀ o, W.frozen? ⟨B + 1 + 1 + 1 + 1 + 1, o, none⟩ = false) := ⟨h.fr2, h.fr3, h.fr4, h.fr5⟩

/-- The blocks that 'ends' lays ahead of its loop. -/
abbrev endsW (w : World) (p : Nat) (c : Cla) : World :=
  ((((((w.alloc (.cells #[.pointer (some ⟨p, 0, none⟩)] 97)).alloc (.cells #[.int .i64 c.crop, .int .i64 c.value, .int .i64 c.dlo, .int .i64 c.dhi, .int .i64 c.clo, .int .i64 c.chi] 44)).alloc
    (.cells #[.int .i64 0, .int .i64 0] 40)).alloc (.cells #[.int .i64 0, .int .i64 0] 47)).alloc (.cells #[.int .i64 0, .int .i64 0] 47)).alloc (.cells #[.bool true] 4)).alloc
    (.cells #[.int .i64 c.crop, .int .i64 c.value, .int .i64 c.dlo, .int .i64 c.dhi, .int .i64 c.clo, .int .i64 c.chi] 44)

set_option maxHeartbeats 1000000 in
theorem endsW_I (l : List Tar) (c : Cla) (p r : Nat) (v : Value) (w : World) (hw : WorkAt l p r v w) (rec : Loop) :
    EndsI l c p r w w.heap.size (w.heap.size + 8) (w.heap.size + 7) rec ES.start (((endsW w p c).alloc (.deferred (some []))).alloc (.loop rec)) := by
  have X0 : Ext w (endsW w p c) := by (repeat (first | exact Ext.refl _ | (with_reducible assumption) | (with_reducible refine Ext.drew ?_) | (with_reducible refine Ext.alloc ?_ _) | (with_reducible refine Ext.drewN ?_ _) | (with_reducible refine Ext.setCell ?_ (by omega) _) | (with_reducible refine Ext.trans ?_ (by with_reducible assumption))))
  have X1 : Ext (endsW w p c) (((endsW w p c).alloc (.deferred (some []))).alloc (.loop rec)) := by (repeat (first | exact Ext.refl _ | (with_reducible assumption) | (with_reducible refine Ext.drew ?_) | (with_reducible refine Ext.alloc ?_ _) | (with_reducible refine Ext.drewN ?_ _) | (with_reducible refine Ext.setCell ?_ (by omega) _) | (with_reducible refine Ext.trans ?_ (by with_reducible assumption))))
  have hs : (endsW w p c).heap.size = w.heap.size + 7 := by simp [endsW]
  have hk : ∀ k o v, (endsW w p c).cell? ⟨k, o, none⟩ = some v → (((endsW w p c).alloc (.deferred (some []))).alloc (.loop rec)).cell? ⟨k, o, none⟩ = some v := fun k o v h => X1.keep h
  refine ⟨(X0.trans X1).but r, hw.memo.ext (X0.trans X1), hk _ _ _ (by simp [endsW, go_sem]), Cell6.ext X1 _ _ _ (by simp [endsW, Cell6, go_sem]), Cell6.ext X1 _ _ _ (by simp [endsW, Cell6, go_sem]), hk _ _ _ (by simp [endsW, ES.start, go_sem]), hk _ _ _ (by simp [endsW, ES.start, go_sem]), hk _ _ _ (by simp [endsW, ES.start, go_sem]), hk _ _ _ (by simp [endsW, ES.start, go_sem]), hk _ _ _ (by simp [endsW, ES.start, go_sem]), hk _ _ _ (by simp [endsW, ES.start, go_sem]), hk _ _ _ (by simp [endsW, ES.start, go_sem]), ?_, ?_, ?_, ?_, ?_, ?_⟩
  · intro o; rw [X1.frozen (by rw [hs]; omega)]; simp [endsW, go_sem]
  · intro o; rw [X1.frozen (by rw [hs]; omega)]; simp [endsW, go_sem]
  · intro o; rw [X1.frozen (by rw [hs]; omega)]; simp [endsW, go_sem]
  · intro o; rw [X1.frozen (by rw [hs]; omega)]; simp [endsW, go_sem]
  · have := World.alloc_heap_new ((endsW w p c).alloc (.deferred (some []))) (.loop rec)
    rwa [World.size_alloc, hs] at this
  · rw [Below.heap_alloc _ _ _ (by rw [World.size_alloc, hs]; omega)]
    have := World.alloc_heap_new (endsW w p c) (.deferred (some []))
    rwa [hs] at this
end Go.Proofs.Ytfjecbfcnngacaa
