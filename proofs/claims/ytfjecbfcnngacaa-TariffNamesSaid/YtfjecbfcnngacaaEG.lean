/- Words about memory: worlds in which a range of blocks may turn. -/
import Derived.Test.YtfjecbfcnngacaaAF
namespace Go.Hs
open Go.RowKit
/-- The world has grown; the blocks from lo to hi may have turned. -/
structure EG (lo hi : Nat) (w w' : World) : Prop where
  os : w'.os = w.os
  tape : w'.tape = w.tape
  output : w'.output = w.output
  size : w.heap.size ≤ w'.heap.size
  block : ∀ k, k < w.heap.size → k < lo ∨ hi ≤ k → w'.heap[k]? = w.heap[k]?
theorem Ext.eg {lo hi : Nat} {w w' : World} (h : Ext w w') : EG lo hi w w' := ⟨h.os, h.tape, h.output, h.size, fun k hk _ => h.block k hk⟩
theorem EG.refl {lo hi : Nat} (w : World) : EG lo hi w w := (Ext.refl w).eg
theorem EG.trans {lo hi : Nat} {a b c : World} (h : EG lo hi a b) (k : EG lo hi b c) : EG lo hi a c :=
  ⟨k.os.trans h.os, k.tape.trans h.tape, k.output.trans h.output, Nat.le_trans h.size k.size, fun i hi hr => (k.block i (Nat.lt_of_lt_of_le hi h.size) hr).trans (h.block i hi hr)⟩
theorem EG.ext {lo hi : Nat} {a b c : World} (h : EG lo hi a b) (k : Ext b c) : EG lo hi a c := h.trans k.eg
theorem EG.drew {lo hi : Nat} {a b : World} (h : EG lo hi a b) : EG lo hi a b.drew := h.ext (Ext.refl b).drew
theorem EG.drewN {lo hi : Nat} {a b : World} (h : EG lo hi a b) (n : Nat) : EG lo hi a (b.drewN n) := h.ext ((Ext.refl b).drewN n)
theorem EG.alloc {lo hi : Nat} {a b : World} (h : EG lo hi a b) (o : Obj) : EG lo hi a (b.alloc o) := h.ext ((Ext.refl b).alloc o)
theorem EG.grown {lo hi : Nat} {a b : World} {o : Option Nat} (h : a.grownBy b o) (ho : ∀ g, o = some g → lo ≤ g ∧ g < hi) : EG lo hi a b :=
  ⟨h.os, h.tape, h.output, h.size, fun i hi hr => h.block i hi (fun e => by have := ho i e.symm; omega)⟩
theorem EG.keep {lo hi : Nat} {a b : World} (h : EG lo hi a b) {k o : Nat} {v : Value} (hr : k < lo ∨ hi ≤ k) (hc : a.cell? ⟨k, o, none⟩ = some v) : b.cell? ⟨k, o, none⟩ = some v := by
  rw [World.cell?_of_block (w := a) (a := ⟨k, o, none⟩) (h.block k (lt_of_cell (a := ⟨k, o, none⟩) hc) hr)]; exact hc
theorem EG.frozen {lo hi : Nat} {a b : World} (h : EG lo hi a b) {k o : Nat} (hk : k < a.heap.size) (hr : k < lo ∨ hi ≤ k) : b.frozen? ⟨k, o, none⟩ = a.frozen? ⟨k, o, none⟩ :=
  World.frozen?_of_block (w := a) (a := ⟨k, o, none⟩) (h.block k hk hr)
/-- From a world on in which the turned blocks did not lie yet. -/
theorem EG.over {lo hi : Nat} {W a b : World} (h : Ext W a) (hl : W.heap.size ≤ lo) (k : EG lo hi a b) : Ext W b :=
  ⟨k.os.trans h.os, k.tape.trans h.tape, k.output.trans h.output, Nat.le_trans h.size k.size, fun i hi => (k.block i (Nat.lt_of_lt_of_le hi h.size) (.inl (by omega))).trans (h.block i hi)⟩
theorem EG.setCell {lo hi : Nat} {a b : World} {T i : Nat} (h : EG lo hi a b) (hT : a.heap.size ≤ T) (x : Value) : EG lo hi a (b.setCell ⟨T, i, none⟩ x) :=
  have E : Below 0 b (b.setCell ⟨T, i, none⟩ x) := Below.setCell (Below.refl 0 b) (Nat.zero_le _) x
  ⟨E.os.trans h.os, E.tape.trans h.tape, E.output.trans h.output, Nat.le_trans h.size E.size, fun k hk hr => (Below.heap_setCell _ _ _ _ (show k ≠ T by omega)).trans (h.block k hk hr)⟩
end Go.Hs
