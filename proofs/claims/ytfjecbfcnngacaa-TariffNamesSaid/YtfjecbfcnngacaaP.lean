/- Words about memory: a world in which all cells are kept, and one block, a map, may turn. -/
import Derived.Test.YtfjecbfcnngacaaN
namespace Go.Hs
open Go.RowKit

/-- Every cell reads as it did. -/
def KC (w w' : World) : Prop := ∀ k o v, w.cell? ⟨k, o, none⟩ = some v → w'.cell? ⟨k, o, none⟩ = some v
theorem Ext.kc {w w' : World} (h : Ext w w') : KC w w' := fun _ _ _ hc => h.keep hc
theorem KC.refl (w : World) : KC w w := fun _ _ _ h => h
theorem KC.trans {a b c : World} (h : KC a b) (k : KC b c) : KC a c := fun _ _ _ x => k _ _ _ (h _ _ _ x)

theorem IntAt.kc {w w' : World} (h : KC w w') (b o : Nat) (x : Int) (hi : IntAt w b o x) : IntAt w' b o x := ⟨h _ _ _ hi.1, hi.2⟩
theorem IntsV.kc {w w' : World} {v : Value} {xs : List Int} (h : KC w w') (k : IntsV w v xs) : IntsV w' v xs := SliceV.ext (IntAt.kc h) k
theorem IntsAt.kc {w w' : World} (h : KC w w') (b o : Nat) (xs : List Int) (k : IntsAt w b o xs) : IntsAt w' b o xs := let ⟨v, h1, h2⟩ := k; ⟨v, h _ _ _ h1, h2.kc h⟩
theorem Ints2V.kc {w w' : World} {v : Value} {xs : List (List Int)} (h : KC w w') (k : Ints2V w v xs) : Ints2V w' v xs := SliceV.ext (IntsAt.kc h) k
theorem Ints2At.kc {w w' : World} (h : KC w w') (b o : Nat) (xs : List (List Int)) (k : Ints2At w b o xs) : Ints2At w' b o xs := let ⟨v, h1, h2⟩ := k; ⟨v, h _ _ _ h1, h2.kc h⟩
theorem Ints3V.kc {w w' : World} {v : Value} {xs : List (List (List Int))} (h : KC w w') (k : Ints3V w v xs) : Ints3V w' v xs := SliceV.ext (Ints2At.kc h) k
theorem TarC.kc {w w' : World} {c3 c4 c5 : Value} {t : Tar} (h : KC w w') (k : TarC w c3 c4 c5 t) : TarC w' c3 c4 c5 t := ⟨k.f, k.l, k.weeks.kc h, k.counts.kc h, k.rates.kc h⟩
theorem TarAt.kc {w w' : World} (h : KC w w') (b o : Nat) (t : Tar) (k : TarAt w b o t) : TarAt w' b o t := by
  obtain ⟨c3, c4, c5, h0, h1, h2, h3, h4, h5, hc⟩ := k
  exact ⟨c3, c4, c5, h _ _ _ h0, h _ _ _ h1, h _ _ _ h2, h _ _ _ h3, h _ _ _ h4, h _ _ _ h5, hc.kc h⟩
theorem TarsV.kc {w w' : World} {v : Value} {xs : List Tar} (h : KC w w') (k : TarsV w v xs) : TarsV w' v xs := SliceV.ext (TarAt.kc h) k

/-- The world has grown, and block r alone may have turned. -/
structure ExtBut (r : Nat) (w w' : World) : Prop where
  os : w'.os = w.os
  tape : w'.tape = w.tape
  output : w'.output = w.output
  size : w.heap.size ≤ w'.heap.size
  block : ∀ k, k < w.heap.size → k ≠ r → w'.heap[k]? = w.heap[k]?
theorem Ext.but {w w' : World} (h : Ext w w') (r : Nat) : ExtBut r w w' := ⟨h.os, h.tape, h.output, h.size, fun k hk _ => h.block k hk⟩
theorem ExtBut.refl (r : Nat) (w : World) : ExtBut r w w := (Ext.refl w).but r
theorem ExtBut.trans {r : Nat} {a b c : World} (h : ExtBut r a b) (k : ExtBut r b c) : ExtBut r a c :=
  ⟨k.os.trans h.os, k.tape.trans h.tape, k.output.trans h.output, Nat.le_trans h.size k.size, fun i hi hr => (k.block i (Nat.lt_of_lt_of_le hi h.size) hr).trans (h.block i hi hr)⟩
theorem ExtBut.drew {r : Nat} {a b : World} (h : ExtBut r a b) : ExtBut r a b.drew := ⟨h.os, h.tape, h.output, h.size, h.block⟩
theorem ExtBut.drewN {r : Nat} {a b : World} (h : ExtBut r a b) (n : Nat) : ExtBut r a (b.drewN n) := ⟨h.os, h.tape, h.output, h.size, h.block⟩
/-- From a world on in which block r did not lie yet. -/
theorem ExtBut.ext {r : Nat} {a b c : World} (h : Ext a b) (hr : a.heap.size ≤ r) (k : ExtBut r b c) : Ext a c :=
  ⟨k.os.trans h.os, k.tape.trans h.tape, k.output.trans h.output, Nat.le_trans h.size k.size, fun i hi => (k.block i (Nat.lt_of_lt_of_le hi h.size) (by omega)).trans (h.block i hi)⟩

/-- The block is no row of cells. -/
def NoCells (w : World) (r : Nat) : Prop := ∀ o, w.cell? ⟨r, o, none⟩ = none
theorem ExtBut.kc {r : Nat} {w w' : World} (h : ExtBut r w w') (hn : NoCells w r) : KC w w' := fun k o v hc => by
  have hk : k < w.heap.size := lt_of_cell (a := ⟨k, o, none⟩) hc
  have hr : k ≠ r := by rintro rfl; rw [hn o] at hc; cases hc
  rw [World.cell?_of_block (w := w) (a := ⟨k, o, none⟩) (h.block k hk hr)]; exact hc
end Go.Hs
namespace Go.Hs
open Go.RowKit
/-- What the tariff of a day is, in its box. -/
def PartCut (W : World) (t : Tar) (v : Value) (w : World) : Prop := ∃ B u, v = .pointer (some ⟨B, 0, none⟩) ∧ Cell6 w B 0 u ∧ TarU w u t ∧ Ext W w ∧ W.heap.size ≤ B
theorem PartCut.late {W w2 : World} {t : Tar} {u : V6} (hx : Ext W w2) (hu : TarU W u t) (T : TypeId) : PartCut W t (.pointer (some ⟨w2.heap.size, 0, none⟩)) (w2.alloc (.cells #[u.c0, u.c1, u.c2, u.c3, u.c4, u.c5] T)) :=
  ⟨_, u, rfl, by simp [Cell6], hu.ext (hx.alloc _), hx.alloc _, hx.size⟩
theorem PartCut.early {W w2 : World} {t : Tar} {u z : V6} {B : Nat} (hx : Ext W w2) (hB : W.heap.size ≤ B) (hz : Cell6 w2 B 0 z) (hu : TarU W u t) : PartCut W t (.pointer (some ⟨B, 0, none⟩)) (World.set6 w2 B u) :=
  ⟨_, u, rfl, set6_cell hz, hu.ext (hx.set6 hB u), hx.set6 hB u, hB⟩
end Go.Hs

namespace Go.Hs
open Go.RowKit
/-- What 'loss' makes of the tariff of a day. -/
theorem loss_pre {l : List Tar} (hl : ValidL l) {c d : Int} (hc0 : 0 ≤ c) (hc1 : c < cropsN l) (hd : 0 ≤ d) :
    c < (atS l d).rates.length ∧ weekTo (atS l d).weeks d (atS l d).weeks.length < ((atS l d).rates.getD c.toNat []).length ∧ CountsOK (atS l d).counts ∧
    RowOK (atS l d).counts.length (((atS l d).rates.getD c.toNat []).getD (weekTo (atS l d).weeks d (atS l d).weeks.length) []) := by
  obtain ⟨hv, hcr⟩ := hl.at hd
  have hr := hv.rows c.toNat (by omega)
  exact ⟨by omega, by rw [hr.1]; exact hv.week_lt d, hv.countsOK, hr.2 _ (hv.week_lt d)⟩
end Go.Hs

namespace Go.Hs
open Go.RowKit
theorem pay_wrap {va ps : Int} (a1 : 0 ≤ va) (a2 : va ≤ 100000) (b1 : 0 ≤ ps) (b2 : ps ≤ 100) : 0 ≤ va * ps ∧ va * ps ≤ 10000000 := prod_bd a1 a2 b1 b2
/-- What is paid on a value. -/
def payI (va ps : Int) : Int := va * ps / 100
end Go.Hs
