/- Bundled: what the texts L A UB M UA UD say one after another. -/
import Derived.WalkKit
import Derived.WalkSpells
import Derived.WalkLawsBesides
import Derived.BigQuiet
import Derived.Deep.QuietTactic
import Derived.Lib.Hide
import Derived.Test.YtedblocbcjoolaaRows
import Derived.OwnWalkIn
import Derived.TacticsInMore
import Derived.RegionIn
import Derived.LoopIn
import Derived.RangeFuncIn
import Derived.RangeFuncLeaves
import Derived.RangeFuncCalls
import Derived.RangeFuncRecord
/- Words about memory, of no program: what lies below a heap's end stays; lists that lie in memory. -/
namespace Go.Hs
open Go.RowKit

/-- The world has grown: all that lay before lies as it lay. -/
def Ext (w w' : World) : Prop := Below w.heap.size w w'

theorem Ext.refl (w : World) : Ext w w := Below.refl _ _
theorem Ext.trans {a b c : World} (h : Ext a b) (k : Ext b c) : Ext a c := Below.trans h (Below.mono k h.size)
theorem Ext.size {a b : World} (h : Ext a b) : a.heap.size ≤ b.heap.size := Below.size h
theorem Ext.drew {a b : World} (h : Ext a b) : Ext a b.drew := Below.drew h
theorem Ext.alloc {a b : World} (h : Ext a b) (o : Obj) : Ext a (b.alloc o) := Below.alloc h h.size o
theorem Ext.cell {a b : World} (h : Ext a b) {k o : Nat} (hk : k < a.heap.size) : b.cell? ⟨k, o, none⟩ = a.cell? ⟨k, o, none⟩ := Below.cell (p := ⟨k, o, none⟩) h hk
theorem Ext.frozen {a b : World} (h : Ext a b) {k o : Nat} (hk : k < a.heap.size) : b.frozen? ⟨k, o, none⟩ = a.frozen? ⟨k, o, none⟩ := Below.frozen (p := ⟨k, o, none⟩) h hk
theorem Ext.heap {a b : World} (h : Ext a b) {k : Nat} (hk : k < a.heap.size) : b.heap[k]? = a.heap[k]? := Below.block h k hk

theorem lt_of_cell {w : World} {a : Addr} {v : Value} (h : w.cell? a = some v) : a.block < w.heap.size := by
  unfold World.cell? at h
  split at h
  · rename_i hh
    exact (Array.getElem?_eq_some_iff.1 hh).1
  · cases h

theorem Ext.keep {a b : World} (h : Ext a b) {k o : Nat} {v : Value} (hc : a.cell? ⟨k, o, none⟩ = some v) : b.cell? ⟨k, o, none⟩ = some v := by
  rw [h.cell (lt_of_cell (a := ⟨k, o, none⟩) hc)]; exact hc

/-- A list in memory, k cells an element. -/
def Rows {α : Type} (R : World → Nat → Nat → α → Prop) (k : Nat) (w : World) (a : Option Addr) (xs : List α) : Prop :=
  ∀ (i : Nat) (h : i < xs.length), ∃ b off, a = some ⟨b, off, none⟩ ∧ R w b (off + i * k) xs[i]

theorem Rows.at {α : Type} {R : World → Nat → Nat → α → Prop} {k : Nat} {w : World} {b off : Nat} {xs : List α} (h : Rows R k w (some ⟨b, off, none⟩) xs) (i : Nat) (hi : i < xs.length) : R w b (off + i * k) xs[i] := by
  obtain ⟨b', off', he, hr⟩ := h i hi
  cases he; exact hr

theorem Rows.ext {α : Type} {R : World → Nat → Nat → α → Prop} {k : Nat} {w w' : World} {a : Option Addr} {xs : List α} (hR : ∀ b o x, R w b o x → R w' b o x) (h : Rows R k w a xs) : Rows R k w' a xs :=
  fun i hi => let ⟨b, off, he, hr⟩ := h i hi; ⟨b, off, he, hR _ _ _ hr⟩

/-- A slice that reads as a list. -/
def SliceV {α : Type} (R : World → Nat → Nat → α → Prop) (k : Nat) (w : World) (v : Value) (xs : List α) : Prop :=
  ∃ a cap, v = .slice a xs.length cap ∧ xs.length ≤ cap ∧ xs.length ≤ 140737488351232 ∧ Rows R k w a xs

theorem SliceV.ext {α : Type} {R : World → Nat → Nat → α → Prop} {k : Nat} {w w' : World} {v : Value} {xs : List α} (hR : ∀ b o x, R w b o x → R w' b o x) (h : SliceV R k w v xs) : SliceV R k w' v xs :=
  let ⟨a, cap, he, h1, h2, hr⟩ := h; ⟨a, cap, he, h1, h2, hr.ext hR⟩

def IntAt (w : World) (b o : Nat) (x : Int) : Prop := w.cell? ⟨b, o, none⟩ = some (.int .i64 x) ∧ -9223372036854775808 ≤ x ∧ x ≤ 9223372036854775807
theorem IntAt.ext {w w' : World} (h : Ext w w') (b o : Nat) (x : Int) (hi : IntAt w b o x) : IntAt w' b o x := ⟨h.keep hi.1, hi.2⟩

def IntsV : World → Value → List Int → Prop := SliceV IntAt 1
theorem IntsV.ext {w w' : World} {v : Value} {xs : List Int} (h : Ext w w') (k : IntsV w v xs) : IntsV w' v xs := SliceV.ext (IntAt.ext h) k

def IntsAt (w : World) (b o : Nat) (xs : List Int) : Prop := ∃ v, w.cell? ⟨b, o, none⟩ = some v ∧ IntsV w v xs
theorem IntsAt.ext {w w' : World} (h : Ext w w') (b o : Nat) (xs : List Int) (k : IntsAt w b o xs) : IntsAt w' b o xs := let ⟨v, h1, h2⟩ := k; ⟨v, h.keep h1, h2.ext h⟩

def Ints2V : World → Value → List (List Int) → Prop := SliceV IntsAt 1
theorem Ints2V.ext {w w' : World} {v : Value} {xs : List (List Int)} (h : Ext w w') (k : Ints2V w v xs) : Ints2V w' v xs := SliceV.ext (IntsAt.ext h) k
def Ints2At (w : World) (b o : Nat) (xs : List (List Int)) : Prop := ∃ v, w.cell? ⟨b, o, none⟩ = some v ∧ Ints2V w v xs
theorem Ints2At.ext {w w' : World} (h : Ext w w') (b o : Nat) (xs : List (List Int)) (k : Ints2At w b o xs) : Ints2At w' b o xs := let ⟨v, h1, h2⟩ := k; ⟨v, h.keep h1, h2.ext h⟩
def Ints3V : World → Value → List (List (List Int)) → Prop := SliceV Ints2At 1
theorem Ints3V.ext {w w' : World} {v : Value} {xs : List (List (List Int))} (h : Ext w w') (k : Ints3V w v xs) : Ints3V w' v xs := SliceV.ext (Ints2At.ext h) k

/-- A tariff, as the document has it. -/
structure Tar where
  start : Int
  whole : Bool
  least : Int
  weeks : List Int
  counts : List Int
  rates : List (List (List Int))

def i64ok (x : Int) : Prop := -9223372036854775808 ≤ x ∧ x ≤ 9223372036854775807

/-- Six cells' values that read as a tariff. -/
structure TarC (w : World) (c3 c4 c5 : Value) (t : Tar) : Prop where
  f : i64ok t.start
  l : i64ok t.least
  weeks : IntsV w c3 t.weeks
  counts : IntsV w c4 t.counts
  rates : Ints3V w c5 t.rates
theorem TarC.ext {w w' : World} {c3 c4 c5 : Value} {t : Tar} (h : Ext w w') (k : TarC w c3 c4 c5 t) : TarC w' c3 c4 c5 t := ⟨k.f, k.l, k.weeks.ext h, k.counts.ext h, k.rates.ext h⟩

def TarAt (w : World) (b o : Nat) (t : Tar) : Prop := ∃ c3 c4 c5,
  w.cell? ⟨b, o, none⟩ = some (.int .i64 t.start) ∧ w.cell? ⟨b, o + 1, none⟩ = some (.bool t.whole) ∧ w.cell? ⟨b, o + 2, none⟩ = some (.int .i64 t.least) ∧
  w.cell? ⟨b, o + 3, none⟩ = some c3 ∧ w.cell? ⟨b, o + 4, none⟩ = some c4 ∧ w.cell? ⟨b, o + 5, none⟩ = some c5 ∧ TarC w c3 c4 c5 t
theorem TarAt.ext {w w' : World} (h : Ext w w') (b o : Nat) (t : Tar) (k : TarAt w b o t) : TarAt w' b o t := by
  obtain ⟨c3, c4, c5, h0, h1, h2, h3, h4, h5, hc⟩ := k
  exact ⟨c3, c4, c5, h.keep h0, h.keep h1, h.keep h2, h.keep h3, h.keep h4, h.keep h5, hc.ext h⟩
def TarsV : World → Value → List Tar → Prop := SliceV TarAt 6
theorem TarsV.ext {w w' : World} {v : Value} {xs : List Tar} (h : Ext w w') (k : TarsV w v xs) : TarsV w' v xs := SliceV.ext (TarAt.ext h) k

end Go.Hs
namespace Go.Hs
open Go.RowKit
def inR (n lo hi : Int) : Bool := decide (lo ≤ n) && decide (n ≤ hi)

/-- The cells of a slice whose elements have one cell each. -/
def Cells1 (w : World) (a : Option Addr) (us : List Value) : Prop := ∀ (i : Nat) (h : i < us.length), ∃ b off, a = some ⟨b, off, none⟩ ∧ w.cell? ⟨b, off + i, none⟩ = some us[i]

/-- What a search by a function leaves: the first index whose answer is true, or -1. -/
def IdxPost (n : Nat) (p : Nat → Bool) (I : Nat → World → Prop) (e : Ending) (w : World) : Prop :=
  (∃ i, i < n ∧ p i = true ∧ (∀ m, m < i → p m = false) ∧ e = .returned (.int .i64 i) ∧ I (i + 1) w) ∨ ((∀ m, m < n → p m = false) ∧ e = .returned (.int .i64 (-1)) ∧ I n w)
end Go.Hs
namespace Go.Hs
open Go.RowKit
structure V6 where
  c0 : Value
  c1 : Value
  c2 : Value
  c3 : Value
  c4 : Value
  c5 : Value
abbrev V6.val (x : V6) : Value := .agg #[x.c0, x.c1, x.c2, x.c3, x.c4, x.c5]
def Cell6 (w : World) (b o : Nat) (x : V6) : Prop :=
  w.cell? ⟨b, o, none⟩ = some x.c0 ∧ w.cell? ⟨b, o + 1, none⟩ = some x.c1 ∧ w.cell? ⟨b, o + 2, none⟩ = some x.c2 ∧
  w.cell? ⟨b, o + 3, none⟩ = some x.c3 ∧ w.cell? ⟨b, o + 4, none⟩ = some x.c4 ∧ w.cell? ⟨b, o + 5, none⟩ = some x.c5
theorem Cell6.ext {w w' : World} (h : Ext w w') (b o : Nat) (x : V6) (k : Cell6 w b o x) : Cell6 w' b o x :=
  ⟨h.keep k.1, h.keep k.2.1, h.keep k.2.2.1, h.keep k.2.2.2.1, h.keep k.2.2.2.2.1, h.keep k.2.2.2.2.2⟩
/-- The cells of a slice whose elements have six cells each. -/
def Cells6 (w : World) (a : Option Addr) (us : List V6) : Prop := ∀ (i : Nat) (h : i < us.length), ∃ b off, a = some ⟨b, off, none⟩ ∧ Cell6 w b (off + i * 6) us[i]
end Go.Hs

namespace Go.Hs
open Go.RowKit
def anyB (n : Nat) (p : Nat → Bool) : Bool := (List.range n).any p
def allB (n : Nat) (p : Nat → Bool) : Bool := (List.range n).all p
theorem allB_iff {n : Nat} {p : Nat → Bool} : allB n p = true ↔ ∀ i, i < n → p i = true := by simp [allB]
theorem anyB_iff {n : Nat} {p : Nat → Bool} : anyB n p = true ↔ ∃ i, i < n ∧ p i = true := by simp [anyB]

def ContPost (n : Nat) (p : Nat → Bool) (I : Nat → World → Prop) (e : Ending) (w : World) : Prop :=
  ∃ i, i ≤ n ∧ I i w ∧ e = .returned (.bool (anyB n p))
theorem ContPost.yes {n : Nat} {p : Nat → Bool} {I : Nat → World → Prop} {e : Ending} {w : World} {i : Nat} (h1 : i < n) (h2 : p i = true) (he : e = .returned (.bool true)) (h : I (i + 1) w) : ContPost n p I e w :=
  ⟨i + 1, h1, h, by rw [he, anyB_iff.2 ⟨i, h1, h2⟩]⟩
theorem ContPost.no {n : Nat} {p : Nat → Bool} {I : Nat → World → Prop} {e : Ending} {w : World} (h2 : ∀ m, m < n → p m = false) (he : e = .returned (.bool false)) (h : I n w) : ContPost n p I e w :=
  ⟨n, Nat.le_refl _, h, by
    have : anyB n p = false := by
      rw [← Bool.not_eq_true, anyB_iff]
      rintro ⟨i, hi, hp⟩
      rw [h2 i hi] at hp; cases hp
    rw [he, this]⟩

/-- Blocks from B on are kept. -/
def Kept (B : Nat) (w1 w2 : World) : Prop := w1.heap.size ≤ w2.heap.size ∧ ∀ k, B ≤ k → k < w1.heap.size → w2.heap[k]? = w1.heap[k]?
theorem Ext.kept {w1 w2 : World} (h : Ext w1 w2) (B : Nat) : Kept B w1 w2 := ⟨h.size, fun _ _ hk => h.heap hk⟩
theorem Kept.trans {B : Nat} {w1 w2 w3 : World} (h : Kept B w1 w2) (k : Kept B w2 w3) : Kept B w1 w3 :=
  ⟨Nat.le_trans h.1 k.1, fun i hB hi => (k.2 i hB (Nat.lt_of_lt_of_le hi h.1)).trans (h.2 i hB hi)⟩
theorem Kept.cell {B : Nat} {w1 w2 : World} (h : Kept B w1 w2) {b o : Nat} {v : Value} (hB : B ≤ b) (hc : w1.cell? ⟨b, o, none⟩ = some v) : w2.cell? ⟨b, o, none⟩ = some v := by
  rw [World.cell?_of_block (w := w1) (h.2 b hB (lt_of_cell (a := ⟨b, o, none⟩) hc))]; exact hc

structure AllInv (w0 : World) (fv : Value) (I : Nat → World → Prop) (i : Nat) (w : World) : Prop where
  cell : w.cell? ⟨w0.heap.size, 0, none⟩ = some fv
  size : w0.heap.size < w.heap.size
  inv : I i w
theorem AllInv.next {w0 : World} {fv : Value} {I : Nat → World → Prop} {i : Nat} {w1 w2 w3 : World} (h : AllInv w0 fv I i w1) (hx : Ext w1 w2) (hi : I (i + 1) w3) (hk : Kept w0.heap.size w2 w3) : AllInv w0 fv I (i + 1) w3 :=
  ⟨hk.cell (Nat.le_refl _) (hx.keep h.cell), Nat.lt_of_lt_of_le h.size (Nat.le_trans hx.size hk.1), hi⟩

def AllPost (n : Nat) (q : Nat → Bool) (I : Nat → World → Prop) (e : Ending) (w : World) : Prop :=
  ∃ i, i ≤ n ∧ I i w ∧ e = .returned (.bool (allB n q))
end Go.Hs
namespace Go.Hs
open Go.RowKit
def prevOf (xs : List Int) (i : Nat) : Int := if i = 0 then -1 else xs.getD (i - 1) 0
def risesB (xs : List Int) (most : Int) : Bool := decide (0 < xs.length) && (xs.getD 0 1 == 0) && allB xs.length (fun i => inR (xs.getD i 0) (wrap64 (prevOf xs i + 1)) most)
def fewB (t : Tar) : Bool := decide (t.weeks.length ≤ 4) && decide (t.counts.length ≤ 5) && decide (t.rates.length ≤ 3)

/-- What a slice's reading gives: the values of its cells. -/
theorem SliceV.values {α : Type} {R : World → Nat → Nat → α → Prop} {S : World → Value → α → Prop} {w : World} {a : Option Addr} {xs : List α}
    (hRS : ∀ b o x, R w b o x → ∃ v, w.cell? ⟨b, o, none⟩ = some v ∧ S w v x) (h : Rows R 1 w a xs) :
    ∃ us : List Value, us.length = xs.length ∧ Cells1 w a us ∧ ∀ i (h1 : i < us.length) (h2 : i < xs.length), S w us[i] xs[i] := by
  have hex : ∀ i : Nat, ∃ u : Value, ∀ h2 : i < xs.length, (∃ b off, a = some ⟨b, off, none⟩ ∧ w.cell? ⟨b, off + i, none⟩ = some u) ∧ S w u xs[i] := by
    intro i
    by_cases h2 : i < xs.length
    · obtain ⟨b, off, he, hr⟩ := h i h2
      obtain ⟨v, hv, hs⟩ := hRS _ _ _ hr
      exact ⟨v, fun _ => ⟨⟨b, off, he, by simpa using hv⟩, hs⟩⟩
    · exact ⟨undef, fun h => absurd h h2⟩
  refine ⟨(List.range xs.length).map (fun i => Classical.choose (hex i)), by simp, ?_, ?_⟩
  · intro i hi
    simp at hi
    have := (Classical.choose_spec (hex i) hi).1
    obtain ⟨b, off, he, hc⟩ := this
    exact ⟨b, off, he, by simpa using hc⟩
  · intro i h1 h2
    have := (Classical.choose_spec (hex i) h2).2
    simpa using this

theorem IntsV.cells {w : World} {v : Value} {xs : List Int} (h : IntsV w v xs) : ∃ a c, v = .slice a xs.length c ∧ xs.length ≤ c ∧ xs.length ≤ 140737488351232 ∧ Cells1 w a (xs.map (.int .i64)) ∧ (∀ x ∈ xs, i64ok x) := by
  obtain ⟨a, c, he, h1, h2, hr⟩ := h
  refine ⟨a, c, he, h1, h2, ?_, ?_⟩
  · intro i hi
    simp at hi
    obtain ⟨b, off, he, hc⟩ := hr i hi
    exact ⟨b, off, he, by simpa using hc.1⟩
  · intro x hx
    obtain ⟨i, hi, rfl⟩ := List.getElem_of_mem hx
    obtain ⟨b, off, he, hc⟩ := hr i hi
    exact hc.2

theorem Ints2V.cells {w : World} {v : Value} {xs : List (List Int)} (h : Ints2V w v xs) : ∃ a c us, v = .slice a us.length c ∧ us.length = xs.length ∧ us.length ≤ c ∧ us.length ≤ 140737488351232 ∧ Cells1 w a us ∧ ∀ i (h1 : i < us.length) (h2 : i < xs.length), IntsV w us[i] xs[i] := by
  obtain ⟨a, c, he, h1, h2, hr⟩ := h
  obtain ⟨us, hl, hc, hs⟩ := SliceV.values (S := IntsV) (fun b o x h => h) hr
  exact ⟨a, c, us, by rw [hl]; exact he, hl, by omega, by omega, hc, hs⟩

theorem Ints3V.cells {w : World} {v : Value} {xs : List (List (List Int))} (h : Ints3V w v xs) : ∃ a c us, v = .slice a us.length c ∧ us.length = xs.length ∧ us.length ≤ c ∧ us.length ≤ 140737488351232 ∧ Cells1 w a us ∧ ∀ i (h1 : i < us.length) (h2 : i < xs.length), Ints2V w us[i] xs[i] := by
  obtain ⟨a, c, he, h1, h2, hr⟩ := h
  obtain ⟨us, hl, hc, hs⟩ := SliceV.values (S := Ints2V) (fun b o x h => h) hr
  exact ⟨a, c, us, by rw [hl]; exact he, hl, by omega, by omega, hc, hs⟩

/-- Six values that read as a tariff. -/
def TarU (w : World) (u : V6) (t : Tar) : Prop := u.c0 = .int .i64 t.start ∧ u.c1 = .bool t.whole ∧ u.c2 = .int .i64 t.least ∧ TarC w u.c3 u.c4 u.c5 t
theorem TarU.ext {w w' : World} {u : V6} {t : Tar} (h : Ext w w') (k : TarU w u t) : TarU w' u t := ⟨k.1, k.2.1, k.2.2.1, k.2.2.2.ext h⟩

theorem TarsV.cells {w : World} {v : Value} {xs : List Tar} (h : TarsV w v xs) : ∃ a c us, v = .slice a us.length c ∧ us.length = xs.length ∧ us.length ≤ c ∧ us.length ≤ 140737488351232 ∧ Cells6 w a us ∧ ∀ i (h1 : i < us.length) (h2 : i < xs.length), TarU w us[i] xs[i] := by
  obtain ⟨a, c, he, h1, h2, hr⟩ := h
  have hex : ∀ i : Nat, ∃ u : V6, ∀ h2 : i < xs.length, (∃ b off, a = some ⟨b, off, none⟩ ∧ Cell6 w b (off + i * 6) u) ∧ TarU w u xs[i] := by
    intro i
    by_cases h2 : i < xs.length
    · obtain ⟨b, off, he, c3, c4, c5, g0, g1, g2, g3, g4, g5, gt⟩ := hr i h2
      exact ⟨⟨_, _, _, c3, c4, c5⟩, fun _ => ⟨⟨b, off, he, g0, g1, g2, g3, g4, g5⟩, rfl, rfl, rfl, gt⟩⟩
    · exact ⟨⟨undef, undef, undef, undef, undef, undef⟩, fun h => absurd h h2⟩
  refine ⟨a, c, (List.range xs.length).map (fun i => Classical.choose (hex i)), by simpa using he, by simp, by simpa using h1, by simpa using h2, ?_, ?_⟩
  · intro i hi
    simp at hi
    obtain ⟨b, off, he, hc⟩ := (Classical.choose_spec (hex i) hi).1
    exact ⟨b, off, he, by simpa using hc⟩
  · intro i h1 h2
    have := (Classical.choose_spec (hex i) h2).2
    simpa using this

theorem Cells1.ext {w w' : World} {a : Option Addr} {us : List Value} (h : Ext w w') (k : Cells1 w a us) : Cells1 w' a us := fun i hi => let ⟨b, o, he, hc⟩ := k i hi; ⟨b, o, he, h.keep hc⟩
theorem Cells6.ext {w w' : World} {a : Option Addr} {us : List V6} (h : Ext w w') (k : Cells6 w a us) : Cells6 w' a us := fun i hi => let ⟨b, o, he, hc⟩ := k i hi; ⟨b, o, he, hc.ext h⟩
end Go.Hs

/- Contracts of the small functions, and of what goes through a list with a function. -/
namespace Go.Proofs.Ytedblocbcjoolaa
open Go.RowKit Go.Hs

theorem ret_bool {a b : Bool} (h : a = b) : Ending.returned (.bool a) = .returned (.bool b) := by rw [h]
theorem ret_int {k : IntKind} {a b : Int} (h : a = b) : Ending.returned (.int k a) = .returned (.int k b) := by rw [h]

set_option maxHeartbeats 400000 in
theorem within_any (n lo hi : Int) (w : World) :
    Calls Try.prog 64 #[.int .i64 n, .int .i64 lo, .int .i64 hi] w fun e w' => e = .returned (.bool (inR n lo hi)) ∧ w = w' := by
  by_cases h : lo ≤ n
  · go_enter Try.func64, Try.ntmps64
    go_wp2
    go_ret
    exact ⟨ret_bool (by simp [inR, h]), rfl⟩
  · go_enter Try.func64, Try.ntmps64
    go_wp2
    go_ret
    exact ⟨ret_bool (by have : ¬ lo ≤ n := by omega
                        simp [inR, this]), rfl⟩

/-- A function of the program: entered where it is called. -/
def FnOK (F : FuncId) : Prop := ∀ args w, (callFunc F args).run Try.prog w = .ok (.enter F args) w

end Go.Proofs.Ytedblocbcjoolaa

/- Ranges over functions: what an iterator gives; the loop over it, alone and within a round. -/
namespace Go.Hs
open Go.RowKit
/-- Block L alone may have turned. -/
structure Turned (L : Nat) (w w' : World) : Prop where
  os : w'.os = w.os
  tape : w'.tape = w.tape
  output : w'.output = w.output
  size : w'.heap.size = w.heap.size
  block : ∀ k, k ≠ L → w'.heap[k]? = w.heap[k]?
theorem Turned.put (w : World) (L : Nat) (o : Obj) : Turned L w (w.putObj L o) := ⟨rfl, rfl, rfl, by simp, fun _ h => World.putObj_heap_other h⟩
theorem Turned.below {L n : Nat} {w w' : World} (h : Turned L w w') (hL : n ≤ L) : Below n w w' := ⟨h.os, h.tape, h.output, by rw [h.size]; exact Nat.le_refl _, fun k hk => h.block k (by omega)⟩
theorem Turned.cell {L b o : Nat} {w w' : World} {v : Value} (h : Turned L w w') (hb : b ≠ L) (hc : w.cell? ⟨b, o, none⟩ = some v) : w'.cell? ⟨b, o, none⟩ = some v := by
  rw [World.cell?_of_block (w := w) (a := ⟨b, o, none⟩) (h.block b hb)]; exact hc
theorem Kept.refl (B : Nat) (w : World) : Kept B w w := ⟨Nat.le_refl _, fun _ _ _ => rfl⟩
theorem Kept.mono {B C : Nat} {w w' : World} (h : Kept B w w') (hBC : B ≤ C) : Kept C w w' := ⟨h.1, fun k hk hl => h.2 k (Nat.le_trans hBC hk) hl⟩
theorem Kept.obj {B k : Nat} {w w' : World} {o : Obj} (h : Kept B w w') (hB : B ≤ k) (hk : w.heap[k]? = some o) : w'.heap[k]? = some o := by
  rw [h.2 k hB (Array.getElem?_eq_some_iff.1 hk).1]; exact hk
theorem below_obj {n k : Nat} {w w' : World} {o : Obj} (h : Below n w w') (hn : k < n) (hk : w.heap[k]? = some o) : w'.heap[k]? = some o := by
  rw [h.block k hn]; exact hk
theorem Below.two (w : World) (o o' : Obj) : Below w.heap.size w ((w.alloc o).alloc o') := ((Ext.refl w).alloc o).alloc o'
theorem Kept.below {B n : Nat} {w0 w w' : World} (h : Kept B w0 w) (hx : Below n w w') (hn : w0.heap.size ≤ n) : Kept B w0 w' :=
  ⟨Nat.le_trans h.1 hx.size, fun k hB hk => (hx.block k (by omega)).trans (h.2 k hB hk)⟩
theorem Kept.ext {B : Nat} {w w' : World} (h : Ext w w') : Kept B w w' := ⟨h.size, fun _ _ hk => h.heap hk⟩
end Go.Hs
namespace Go.Proofs.Ytedblocbcjoolaa
open Go.RowKit Go.Hs
attribute [local irreducible] World.setCell World.alloc
theorem wide_fn (f : FuncId) : Fence.wide.fn f := trivial
theorem wide_fn' (f : FuncId) (l : Nat) : (Fence.wide.inRound l).fn f := trivial
theorem wide_depth : Fence.wide.depth = none := rfl
theorem wide_round : Fence.wide.round = none := rfl
attribute [local simp] wide_fn wide_fn' wide_depth wide_round

/-- An iterator gives these values, one after the other, to whatever loop: the loop says what holds between two rounds (J), and where a round has said 'no more' (Jx). -/
def Gives (g : FuncId) (lb : Array Value) (vs : List Value) (K : World → Prop) : Prop :=
  ∀ (L : Nat) (J : Nat → World → Prop) (Jx : World → Prop) (W : World),
    (∀ i W1, J i W1 → K W1) →
    (∀ i W1 W2, J i W1 → Below W.heap.size W1 W2 → J i W2) →
    (∀ W1 W2, Jx W1 → Below W.heap.size W1 W2 → Jx W2) →
    (∀ (i : Nat) (h : i < vs.length) (W1 : World), J i W1 → W.heap.size ≤ W1.heap.size → YieldAt Fence.wide 0 Try.prog L #[vs[i]] W1 fun e W2 =>
      Kept W.heap.size W1 W2 ∧ ((e = .returned (.bool true) ∧ J (i + 1) W2) ∨ (e = .returned (.bool false) ∧ Jx W2))) →
    J 0 W →
    CallsIn Fence.wide 0 Try.prog g (#[.func (.yield L) #[] #[]] ++ lb) W fun e W' => (∃ v, e = .returned v) ∧ (J vs.length W' ∨ Jx W')

/-- How the body of a round is left. -/
def roundEnd (D : Nat) (J1 : World → Prop) (Jx : Code → World → Prop) (W : World) : Exit → Act → World → Prop
  | .normal, _, W' => Kept D W W' ∧ J1 W'
  | .ret, _, W' => Kept D W W' ∧ Jx .ret W'
  | .exit id, _, W' => Kept D W W' ∧ Jx (.exit id) W'
  | .goto t, _, W' => Kept D W W' ∧ Jx (.goto t) W'
  | .panic _, _, _ => False
  | .outgrown, _, _ => False

/-- A round, out of its body: the record lies at L, which is D or lies behind it. -/
theorem round_of {assign body : Code} {tmps : Array Value} {L D H : Nat} {rec : Loop} (hrs : rec.state = .ready) (hrp : rec.pending = none) {fn : FuncId} {J1 : World → Prop} {Jx : Code → World → Prop} {W : World}
    (hDL : D ≤ L) (hLH : L < H) (hl : W.heap[L]? = some (.loop rec)) (hJ1 : ∀ A B, J1 A → Below D A B → J1 B) (hJx : ∀ c A B, Jx c A → Below D A B → Jx c B)
    (h : assign.wpIn (Fence.wide.inRound L) 0 Try.prog (Exit.then (fun a1 W1 => Kept D W W1 ∧ ∀ W2, Turned L W1 W2 → (∃ r, W2.heap[L]? = some (.loop r)) → body.wpIn (Fence.wide.inRound L) 0 Try.prog (roundEnd D J1 Jx W2) a1 W2) (fun _ _ _ => False))
      { tmps := tmps, defers := [] } W) :
    RoundIn Fence.wide 0 Try.prog L fn tmps assign body W fun e W2 => Kept H W W2 ∧
      ((e = .returned (.bool true) ∧ J1 W2 ∧ W2.heap[L]? = some (.loop rec) ∧ (∀ k, D ≤ k → k < W.heap.size → k ≠ L → W2.heap[k]? = W.heap[k]?)) ∨
       (e = .returned (.bool false) ∧ (∃ c, Jx c W2 ∧ W2.heap[L]? = some (.loop { rec with state := .done, pending := some c })) ∧ (∀ k, D ≤ k → k < W.heap.size → k ≠ L → W2.heap[k]? = W.heap[k]?))) := by
  refine roundIn_of_wpIn trivial (wpIn_mono h ?_)
  rintro e a1 W1 hq
  cases e with
  | normal =>
    obtain ⟨hk1, hb⟩ := hq
    have hl1 : W1.heap[L]? = some (.loop rec) := hk1.obj hDL hl
    have hlt1 : L < W1.heap.size := (Array.getElem?_eq_some_iff.1 hl1).1
    refine ⟨_, run_beginRound hl1 hrs, ?_⟩
    have hT := Turned.put W1 L (.loop { rec with state := .busy })
    have hl2 : (W1.putObj L (.loop { rec with state := .busy })).heap[L]? = some (.loop { rec with state := .busy }) := World.putObj_heap_same hlt1
    refine wpIn_mono (hb _ hT ⟨_, hl2⟩) ?_
    generalize hW2 : W1.putObj L (.loop { rec with state := .busy }) = W2 at *
    have hold : ∀ k, D ≤ k → k < W.heap.size → k ≠ L → W2.heap[k]? = W.heap[k]? := fun k hD hk hkL => (hT.block k hkL).trans (hk1.2 k hD hk)
    have hsz : W.heap.size ≤ W2.heap.size := by rw [hT.size]; exact hk1.1
    have fin : ∀ (W3 : World) (o : Obj), Kept D W2 W3 → Kept H W (W3.putObj L o) ∧ (∀ k, D ≤ k → k < W.heap.size → k ≠ L → (W3.putObj L o).heap[k]? = W.heap[k]?) := fun W3 o hk3 =>
      have q : ∀ k, D ≤ k → k < W.heap.size → k ≠ L → (W3.putObj L o).heap[k]? = W.heap[k]? := fun k hD hk hkL =>
        ((World.putObj_heap_other hkL).trans (hk3.2 k hD (Nat.lt_of_lt_of_le hk hsz))).trans (hold k hD hk hkL)
      ⟨⟨by simp; exact Nat.le_trans hsz hk3.1, fun k hH hk => q k (by omega) hk (by omega)⟩, q⟩
    have back : ∀ (W3 : World) (o : Obj), Below D W3 (W3.putObj L o) := fun W3 o => (Turned.put W3 L o).below hDL
    have jump : ∀ (c : Code) (W3 : World), Kept D W2 W3 → Jx c W3 → ∃ v w', (Instr.endRound L (some c)).run Try.prog W3 = .ok v w' ∧ (Kept H W w' ∧
      ((Ending.returned v = .returned (.bool true) ∧ J1 w' ∧ w'.heap[L]? = some (.loop rec) ∧ (∀ k, D ≤ k → k < W.heap.size → k ≠ L → w'.heap[k]? = W.heap[k]?)) ∨
       (Ending.returned v = .returned (.bool false) ∧ (∃ c, Jx c w' ∧ w'.heap[L]? = some (.loop { rec with state := .done, pending := some c })) ∧ (∀ k, D ≤ k → k < W.heap.size → k ≠ L → w'.heap[k]? = W.heap[k]?)))) := fun c W3 hk3 hj => by
      have hl3 := hk3.obj hDL hl2
      have hlt3 : L < W3.heap.size := (Array.getElem?_eq_some_iff.1 hl3).1
      obtain ⟨f1, f2⟩ := fin W3 (.loop { rec with state := .done, pending := some c }) hk3
      exact ⟨_, _, run_endRound (some c) hl3, f1, .inr ⟨rfl, ⟨c, hJx c _ _ hj (back _ _), World.putObj_heap_same hlt3⟩, f2⟩⟩
    rintro e a3 W3 hp
    cases e with
    | normal =>
      obtain ⟨hk3, hj⟩ := hp
      have hl3 := hk3.obj hDL hl2
      have hlt3 : L < W3.heap.size := (Array.getElem?_eq_some_iff.1 hl3).1
      obtain ⟨f1, f2⟩ := fin W3 (.loop rec) hk3
      have he : ({ ({ rec with state := .busy } : Loop) with state := .ready, pending := none } : Loop) = rec := by rw [← hrs, ← hrp]
      have hr := run_endRound (P := Try.prog) none hl3
      simp only [Option.isNone_none, if_true] at hr
      rw [he] at hr
      exact ⟨_, _, hr, f1, .inl ⟨rfl, hJ1 _ _ hj (back _ _), World.putObj_heap_same hlt3, f2⟩⟩
    | ret => exact jump .ret W3 hp.1 hp.2
    | exit id => exact jump (.exit id) W3 hp.1 hp.2
    | goto t => exact jump (.goto t) W3 hp.1 hp.2
    | panic ch => exact hp.elim
    | outgrown => exact hp.elim
  | exit id => exact hq.elim
  | goto t => exact hq.elim
  | ret => exact hq.elim
  | panic chain => exact hq.elim
  | outgrown => exact hq.elim

/-- The loop over an iterator, in a frame that is no round. -/
theorem each_outer {g : Operand} {ps : Array Tmp} {assign body : Code} {Q : Exit → Act → World → Prop} {a : Act} {w : World} {f : FuncId} {caps : Array Value} {vs : List Value} {K : World → Prop}
    (hg : a.eval g = .func (.func f) #[] caps) (hF : FnOK f) (hps : ps.size = 1) (J : Nat → World → Prop) (Jx : Code → World → Prop)
    (hgv : Gives f caps vs K) (hK : ∀ i W, J i W → K W)
    (hJ : ∀ i A B, J i A → Below w.heap.size A B → J i B) (hJx : ∀ c A B, Jx c A → Below w.heap.size A B → Jx c B) (h0 : J 0 w)
    (hround : ∀ (i : Nat) (h : i < vs.length) (W : World), J i W → w.heap.size + 1 < W.heap.size →
      assign.wpIn (Fence.wide.inRound (w.heap.size + 1)) 0 Try.prog (Exit.then (fun a1 W1 => Kept w.heap.size W W1 ∧ ∀ W2, Turned (w.heap.size + 1) W1 W2 → (∃ r, W2.heap[w.heap.size + 1]? = some (.loop r)) →
        body.wpIn (Fence.wide.inRound (w.heap.size + 1)) 0 Try.prog (roundEnd w.heap.size (J (i + 1)) Jx W2) a1 W2) (fun _ _ _ => False))
        { tmps := (ps.zip #[vs[i]]).foldl (fun t (p, v) => t.setIfInBounds p v) a.tmps, defers := [] } W)
    (hdone : ∀ W, J vs.length W → W.heap[w.heap.size]? = some (.deferred (some [])) → Q .normal { a with defers := { target := .collected w.heap.size, args := #[] } :: a.defers } W)
    (hstop : ∀ c W, Jx c W → W.heap[w.heap.size]? = some (.deferred (some [])) → c.wpIn Fence.wide 0 Try.prog Q { a with defers := { target := .collected w.heap.size, args := #[] } :: a.defers } W) :
    (Code.rangeFunc g ps assign body).wpIn Fence.wide 0 Try.prog Q a w := by
  refine wpIn_rangeFunc fun fn _ => ?_
  rw [wide_round]
  obtain ⟨rec, hrec⟩ : ∃ rec : Loop, rec = { state := .ready, pending := none, fn, tmps := a.tmps, params := ps, assign, body, defers := w.heap.size } := ⟨_, rfl⟩
  have hrs : rec.state = .ready := by rw [hrec]
  have hrp : rec.pending = none := by rw [hrec]
  obtain ⟨W1, hW1⟩ : ∃ W1, (w.alloc (.deferred (some []))).alloc (.loop rec) = W1 := ⟨_, rfl⟩
  have hL1 : W1.heap[w.heap.size + 1]? = some (.loop rec) := by
    rw [← hW1]; have := World.alloc_heap_new (w.alloc (.deferred (some []))) (.loop rec); rwa [World.size_alloc] at this
  have hK1 : W1.heap[w.heap.size]? = some (.deferred (some [])) := by
    rw [← hW1]; exact (Below.heap_alloc _ _ _ (by simp)).trans (World.alloc_heap_new w _)
  have hs1 : W1.heap.size = w.heap.size + 2 := by rw [← hW1]; simp
  have h1 : J 0 W1 := hJ 0 _ _ h0 (by rw [← hW1]; exact Below.two w _ _)
  have e : resolve a.eval (rangeCall g (w.heap.size + 1)) 0 = Deferred.ofValue (a.eval g) #[.func (.yield (w.heap.size + 1)) #[] #[]] := by simp [resolve, Act.eval]
  refine ⟨w.heap.size + 1, [{ target := .collected w.heap.size, args := #[] }], W1, { target := .fn (.func f) caps, args := #[.func (.yield (w.heap.size + 1)) #[] #[]] }, W1, f, #[.func (.yield (w.heap.size + 1)) #[] #[]] ++ caps, W1, ?_, ?_, fun _ _ => trivial, ?_, by simp, ?_⟩
  · rw [← hW1, hrec]; exact run_enterLoop_outer _ _ _ _ _
  · rw [e, hg]; rfl
  · exact hF _ _
  refine (hgv (w.heap.size + 1)
    (fun i W => J i W ∧ W.heap[w.heap.size + 1]? = some (.loop rec) ∧ W.heap[w.heap.size]? = some (.deferred (some [])))
    (fun W => (∃ c, Jx c W ∧ W.heap[w.heap.size + 1]? = some (.loop { rec with state := .done, pending := some c })) ∧ W.heap[w.heap.size]? = some (.deferred (some [])))
    W1 (fun i W h => hK i W h.1) ?_ ?_ ?_ ⟨h1, hL1, hK1⟩).mono ?_
  · rintro i A B ⟨a1, a2, a3⟩ hb
    exact ⟨hJ i A B a1 (hb.mono (by omega)), below_obj hb (by omega) a2, below_obj hb (by omega) a3⟩
  · rintro A B ⟨⟨c, a1, a2⟩, a3⟩ hb
    exact ⟨⟨c, hJx c A B a1 (hb.mono (by omega)), below_obj hb (by omega) a2⟩, below_obj hb (by omega) a3⟩
  · rintro i hi W ⟨a1, a2, a3⟩ hs
    have hy := run_yield (P := Try.prog) (args := #[vs[i]]) a2 (by rw [hrec]; simp [hps])
    refine ⟨_, _, _, _, hy, ?_⟩
    have hr := hround i hi W a1 (by omega)
    subst hrec
    refine (round_of (H := W1.heap.size) hrs hrp (by omega : w.heap.size ≤ w.heap.size + 1) (by omega) a2 (hJ (i + 1)) hJx hr).mono ?_
    rintro e W2 ⟨k, ⟨e1, e2, e3, e4⟩ | ⟨e1, ⟨c, e2, e3⟩, e4⟩⟩
    · exact ⟨k, .inl ⟨e1, e2, e3, (e4 _ (Nat.le_refl _) (by omega) (by omega)).trans a3⟩⟩
    · exact ⟨k, .inr ⟨e1, ⟨c, e2, e3⟩, (e4 _ (Nat.le_refl _) (by omega) (by omega)).trans a3⟩⟩
  · rintro e W2 ⟨⟨v, rfl⟩, ⟨a1, a2, a3⟩ | ⟨⟨c, a1, a2⟩, a3⟩⟩
    · have hE := run_endLoop (P := Try.prog) a2 (by rw [hrs]; simp)
      have hT := Turned.put W2 (w.heap.size + 1) (.loop { rec with state := .exhausted })
      exact ⟨none, _, hE.trans (congrArg (fun p => Result.ok p (W2.putObj (w.heap.size + 1) (.loop { rec with state := .exhausted }))) hrp), hdone _ (hJ _ _ _ a1 (hT.below (by omega))) ((hT.block _ (by omega)).trans a3)⟩
    · have hE := run_endLoop (P := Try.prog) a2 (by simp)
      have hT := Turned.put W2 (w.heap.size + 1) (.loop { ({ rec with state := .done, pending := some c } : Loop) with state := .exhausted })
      exact ⟨some c, _, hE, hstop c _ (hJx _ _ _ a1 (hT.below (by omega))) ((hT.block _ (by omega)).trans a3)⟩

/-- The loop over an iterator, within a round of loop l0. -/
theorem each_inner {g : Operand} {ps : Array Tmp} {assign body : Code} {Q : Exit → Act → World → Prop} {a : Act} {w : World} {f : FuncId} {caps : Array Value} {vs : List Value} {K : World → Prop} {l0 : Nat} {r0 : Loop}
    (hl0 : w.heap[l0]? = some (.loop r0))
    (hg : a.eval g = .func (.func f) #[] caps) (hF : FnOK f) (hps : ps.size = 1) (J : Nat → World → Prop) (Jx : Code → World → Prop)
    (hgv : Gives f caps vs K) (hK : ∀ i W, J i W → K W)
    (hJ : ∀ i A B, J i A → Below w.heap.size A B → J i B) (hJx : ∀ c A B, Jx c A → Below w.heap.size A B → Jx c B) (h0 : J 0 w)
    (hround : ∀ (i : Nat) (h : i < vs.length) (W : World), J i W → w.heap.size < W.heap.size →
      assign.wpIn (Fence.wide.inRound w.heap.size) 0 Try.prog (Exit.then (fun a1 W1 => Kept w.heap.size W W1 ∧ ∀ W2, Turned w.heap.size W1 W2 → (∃ r, W2.heap[w.heap.size]? = some (.loop r)) →
        body.wpIn (Fence.wide.inRound w.heap.size) 0 Try.prog (roundEnd w.heap.size (J (i + 1)) Jx W2) a1 W2) (fun _ _ _ => False))
        { tmps := (ps.zip #[vs[i]]).foldl (fun t (p, v) => t.setIfInBounds p v) a.tmps, defers := [] } W)
    (hdone : ∀ W, J vs.length W → Q .normal a W)
    (hstop : ∀ c W, Jx c W → c.wpIn (Fence.wide.inRound l0) 0 Try.prog Q a W) :
    (Code.rangeFunc g ps assign body).wpIn (Fence.wide.inRound l0) 0 Try.prog Q a w := by
  refine wpIn_rangeFunc fun fn _ => ?_
  obtain ⟨rec, hrec⟩ : ∃ rec : Loop, rec = { state := .ready, pending := none, fn, tmps := a.tmps, params := ps, assign, body, defers := r0.defers } := ⟨_, rfl⟩
  have hrs : rec.state = .ready := by rw [hrec]
  have hrp : rec.pending = none := by rw [hrec]
  obtain ⟨W1, hW1⟩ : ∃ W1, w.alloc (.loop rec) = W1 := ⟨_, rfl⟩
  have hL1 : W1.heap[w.heap.size]? = some (.loop rec) := by rw [← hW1]; exact World.alloc_heap_new w (.loop rec)
  have hs1 : W1.heap.size = w.heap.size + 1 := by rw [← hW1]; simp
  have h1 : J 0 W1 := hJ 0 _ _ h0 (by rw [← hW1]; exact (Ext.refl w).alloc _)
  have e : resolve a.eval (rangeCall g w.heap.size) 0 = Deferred.ofValue (a.eval g) #[.func (.yield w.heap.size) #[] #[]] := by simp [resolve, Act.eval]
  refine ⟨w.heap.size, [], W1, { target := .fn (.func f) caps, args := #[.func (.yield w.heap.size) #[] #[]] }, W1, f, #[.func (.yield w.heap.size) #[] #[]] ++ caps, W1, ?_, ?_, fun _ _ => trivial, ?_, by simp [Fence.inRound], ?_⟩
  · rw [← hW1, hrec]
    show (Instr.enterLoop fn a.tmps ps assign body (some l0)).run Try.prog w = _
    unfold Instr.enterLoop
    simp only [Sem.run_bind, run_getLoop hl0, run_newObj_alloc, Result.andThen, Sem.run_pure]
  · rw [e, hg]; rfl
  · exact hF _ _
  refine CallsIn.inRound l0 ((hgv w.heap.size
    (fun i W => J i W ∧ W.heap[w.heap.size]? = some (.loop rec))
    (fun W => ∃ c, Jx c W ∧ W.heap[w.heap.size]? = some (.loop { rec with state := .done, pending := some c }))
    W1 (fun i W h => hK i W h.1) ?_ ?_ ?_ ⟨h1, hL1⟩).mono ?_)
  · rintro i A B ⟨a1, a2⟩ hb
    exact ⟨hJ i A B a1 (hb.mono (by omega)), below_obj hb (by omega) a2⟩
  · rintro A B ⟨c, a1, a2⟩ hb
    exact ⟨c, hJx c A B a1 (hb.mono (by omega)), below_obj hb (by omega) a2⟩
  · rintro i hi W ⟨a1, a2⟩ hs
    have hy := run_yield (P := Try.prog) (args := #[vs[i]]) a2 (by rw [hrec]; simp [hps])
    refine ⟨_, _, _, _, hy, ?_⟩
    have hr := hround i hi W a1 (by omega)
    subst hrec
    refine (round_of (H := W1.heap.size) hrs hrp (Nat.le_refl w.heap.size) (by omega) a2 (hJ (i + 1)) hJx hr).mono ?_
    rintro e W2 ⟨k, ⟨e1, e2, e3, e4⟩ | ⟨e1, ⟨c, e2, e3⟩, e4⟩⟩
    · exact ⟨k, .inl ⟨e1, e2, e3⟩⟩
    · exact ⟨k, .inr ⟨e1, c, e2, e3⟩⟩
  · rintro e W2 ⟨⟨v, rfl⟩, ⟨a1, a2⟩ | ⟨c, a1, a2⟩⟩
    · have hE := run_endLoop (P := Try.prog) a2 (by rw [hrs]; simp)
      have hT := Turned.put W2 w.heap.size (.loop { rec with state := .exhausted })
      exact ⟨none, _, hE.trans (congrArg (fun p => Result.ok p (W2.putObj w.heap.size (.loop { rec with state := .exhausted }))) hrp), hdone _ (hJ _ _ _ a1 (hT.below (Nat.le_refl _)))⟩
    · have hE := run_endLoop (P := Try.prog) a2 (by simp)
      have hT := Turned.put W2 w.heap.size (.loop { ({ rec with state := .done, pending := some c } : Loop) with state := .exhausted })
      exact ⟨some c, _, hE, hstop c _ (hJx _ _ _ a1 (hT.below (Nat.le_refl _)))⟩
end Go.Proofs.Ytedblocbcjoolaa

/- The plain words of layer 5: what is valid, and what is paid. -/
namespace Go.Hs
open Go.RowKit
def rowB (m : Nat) (x : List Int) : Bool := decide (x.length = m) && allB x.length (fun i => inR (x.getD i 0) 0 100)
def cropB (t : Tar) (l : List (List Int)) : Bool := decide (l.length = t.weeks.length) && allB l.length (fun i => rowB t.counts.length (l.getD i []))
def validB (t : Tar) : Bool := inR t.start 0 120 && inR t.least 0 100 && risesB t.weeks 120 && decide (1 < t.counts.length) && risesB t.counts 100 && (t.counts.getD (t.counts.length - 1) 0 == 100) && decide (0 < t.rates.length) && allB t.rates.length (fun i => cropB t (t.rates.getD i []))
end Go.Hs
namespace Go.Hs
instance : Inhabited Tar := ⟨⟨0, false, 0, [], [], []⟩⟩
/-- The tariffs follow each other. -/
def chainB (l : List Tar) : Bool := allB (l.length - 1) (fun i => decide ((l.getD i default).start < (l.getD (i + 1) default).start) && decide ((l.getD (i + 1) default).rates.length = (l.getD 0 default).rates.length))
def checkS (l : List Tar) : Int :=
  if 3 < l.length ∨ allB l.length (fun i => fewB (l.getD i default)) = false then 3
  else if l.length = 0 ∨ (l.getD 0 default).start ≠ 0 ∨ allB l.length (fun i => validB (l.getD i default)) = false then 1
  else if chainB l = false then 1 else 0
end Go.Hs
namespace Go.Hs
open Go.RowKit
theorem Cells6.at {w : World} {b off : Nat} {us : List V6} (h : Cells6 w (some ⟨b, off, none⟩) us) (i : Nat) (hi : i < us.length) : Cell6 w b (off + i * 6) us[i] := by
  obtain ⟨b', off', he, hr⟩ := h i hi
  cases he; exact hr
theorem Cells1.at {w : World} {b off : Nat} {us : List Value} (h : Cells1 w (some ⟨b, off, none⟩) us) (i : Nat) (hi : i < us.length) : w.cell? ⟨b, off + i, none⟩ = some us[i] := by
  obtain ⟨b', off', he, hr⟩ := h i hi
  cases he; exact hr
def linkB (l : List Tar) (i : Nat) : Bool := decide ((l.getD i default).start < (l.getD (i + 1) default).start) && decide ((l.getD (i + 1) default).rates.length = (l.getD 0 default).rates.length)
theorem chainB_link (l : List Tar) : chainB l = allB (l.length - 1) (linkB l) := rfl
theorem chainB_no {l : List Tar} {k : Nat} (h : k < l.length - 1) (hk : linkB l k = false) : chainB l = false := by
  rw [chainB_link, ← Bool.not_eq_true, allB_iff]
  intro h'
  rw [h' k h] at hk; cases hk
end Go.Hs
namespace Go.Hs
open Go.RowKit
theorem SliceV.rows {α : Type} {R : World → Nat → Nat → α → Prop} {k : Nat} {w : World} {a : Option Addr} {n c : Nat} {xs : List α} (h : SliceV R k w (.slice a n c) xs) : Rows R k w a xs := by
  obtain ⟨a', c', he, -, -, hr⟩ := h
  cases he; exact hr
theorem TarAt.open {w : World} {b o : Nat} {t : Tar} (h : TarAt w b o t) : ∃ a3 k3 a4 k4 a5 k5,
    w.cell? ⟨b, o, none⟩ = some (.int .i64 t.start) ∧ w.cell? ⟨b, o + 1, none⟩ = some (.bool t.whole) ∧ w.cell? ⟨b, o + 2, none⟩ = some (.int .i64 t.least) ∧
    w.cell? ⟨b, o + 3, none⟩ = some (.slice a3 t.weeks.length k3) ∧ w.cell? ⟨b, o + 4, none⟩ = some (.slice a4 t.counts.length k4) ∧ w.cell? ⟨b, o + 5, none⟩ = some (.slice a5 t.rates.length k5) ∧
    TarC w (.slice a3 t.weeks.length k3) (.slice a4 t.counts.length k4) (.slice a5 t.rates.length k5) t := by
  obtain ⟨c3, c4, c5, h0, h1, h2, h3, h4, h5, hc⟩ := h
  have hc' := hc
  obtain ⟨-, -, ⟨a3, k3, rfl, -⟩, ⟨a4, k4, rfl, -⟩, ⟨a5, k5, rfl, -⟩⟩ := hc'
  exact ⟨a3, k3, a4, k4, a5, k5, h0, h1, h2, h3, h4, h5, hc⟩
theorem SliceV.len_le {α : Type} {R : World → Nat → Nat → α → Prop} {k : Nat} {w : World} {a : Option Addr} {n c : Nat} {xs : List α} (h : SliceV R k w (.slice a n c) xs) : xs.length ≤ c ∧ xs.length ≤ 140737488351232 := by
  obtain ⟨a', c', he, h1, h2, hr⟩ := h
  cases he; exact ⟨h1, h2⟩
end Go.Hs
namespace Go.Hs
open Go.RowKit
theorem Ext.drewN {a b : World} (h : Ext a b) (n : Nat) : Ext a (b.drewN n) := ⟨h.os, h.tape, h.output, h.size, h.block⟩
theorem upTo_next {p : Nat → Prop} {k : Nat} (h : ∀ m, m < k → p m) (hk : p k) : ∀ m, m < k + 1 → p m := fun m hm => by
  by_cases e : m = k
  · subst e; exact hk
  · exact h m (by omega)
end Go.Hs
namespace Go.Hs
open Go.RowKit
/-- The tariff of a day: the last one that has begun. -/
def atS (l : List Tar) (day : Int) : Tar := l.foldl (fun t x => if x.start ≤ day then x else t) default
theorem atS_take {l : List Tar} {k : Nat} (h : k < l.length) (day : Int) : atS (l.take (k + 1)) day = if l[k].start ≤ day then l[k] else atS (l.take k) day := by
  unfold atS
  rw [List.take_succ_eq_append_getElem h, List.foldl_append]; rfl
def weekTo (l : List Int) (day : Int) (k : Nat) : Nat := (List.range k).foldl (fun r i => if l.getD i 0 ≤ day then i else r) 0
theorem weekTo_succ (l : List Int) (day : Int) (k : Nat) : weekTo l day (k + 1) = if l.getD k 0 ≤ day then k else weekTo l day k := by
  unfold weekTo
  rw [List.range_succ, List.foldl_append]; rfl
theorem weekTo_le (l : List Int) (day : Int) (k : Nat) : weekTo l day k ≤ k := by
  induction k with
  | zero => simp [weekTo]
  | succ k ih => rw [weekTo_succ]; split <;> omega

/-- Six cells are stored. -/
def World.set6 (w : World) (R : Nat) (u : V6) : World := (((((w.setCell ⟨R, 0, none⟩ u.c0).setCell ⟨R, 1, none⟩ u.c1).setCell ⟨R, 2, none⟩ u.c2).setCell ⟨R, 3, none⟩ u.c3).setCell ⟨R, 4, none⟩ u.c4).setCell ⟨R, 5, none⟩ u.c5
theorem set6_cell {w : World} {R : Nat} {x u : V6} (h : Cell6 w R 0 x) : Cell6 (World.set6 w R u) R 0 u := by
  obtain ⟨h0, h1, h2, h3, h4, h5⟩ := h
  simp only [Nat.zero_add] at *
  unfold World.set6
  have n : ∀ i j : Nat, i ≠ j → (⟨R, i, none⟩ : Addr) ≠ ⟨R, j, none⟩ := fun i j hij e => hij (by cases e; rfl)
  refine ⟨?_, ?_, ?_, ?_, ?_, ?_⟩
  all_goals try simp only [Nat.zero_add]
  · rw [World.cell?_setCell_other (h := n _ _ (by decide)), World.cell?_setCell_other (h := n _ _ (by decide)), World.cell?_setCell_other (h := n _ _ (by decide)), World.cell?_setCell_other (h := n _ _ (by decide)), World.cell?_setCell_other (h := n _ _ (by decide)), World.cell?_setCell_same (h := h0)]
  · rw [World.cell?_setCell_other (h := n _ _ (by decide)), World.cell?_setCell_other (h := n _ _ (by decide)), World.cell?_setCell_other (h := n _ _ (by decide)), World.cell?_setCell_other (h := n _ _ (by decide)), World.cell?_setCell_same (u := x.c1)]
    rw [World.cell?_setCell_other (h := n _ _ (by decide))]; exact h1
  · rw [World.cell?_setCell_other (h := n _ _ (by decide)), World.cell?_setCell_other (h := n _ _ (by decide)), World.cell?_setCell_other (h := n _ _ (by decide)), World.cell?_setCell_same (u := x.c2)]
    rw [World.cell?_setCell_other (h := n _ _ (by decide)), World.cell?_setCell_other (h := n _ _ (by decide))]; exact h2
  · rw [World.cell?_setCell_other (h := n _ _ (by decide)), World.cell?_setCell_other (h := n _ _ (by decide)), World.cell?_setCell_same (u := x.c3)]
    rw [World.cell?_setCell_other (h := n _ _ (by decide)), World.cell?_setCell_other (h := n _ _ (by decide)), World.cell?_setCell_other (h := n _ _ (by decide))]; exact h3
  · rw [World.cell?_setCell_other (h := n _ _ (by decide)), World.cell?_setCell_same (u := x.c4)]
    rw [World.cell?_setCell_other (h := n _ _ (by decide)), World.cell?_setCell_other (h := n _ _ (by decide)), World.cell?_setCell_other (h := n _ _ (by decide)), World.cell?_setCell_other (h := n _ _ (by decide))]; exact h4
  · rw [World.cell?_setCell_same (u := x.c5)]
    rw [World.cell?_setCell_other (h := n _ _ (by decide)), World.cell?_setCell_other (h := n _ _ (by decide)), World.cell?_setCell_other (h := n _ _ (by decide)), World.cell?_setCell_other (h := n _ _ (by decide)), World.cell?_setCell_other (h := n _ _ (by decide))]; exact h5
theorem Ext.setCell {w0 w : World} (h : Ext w0 w) {R o : Nat} (hR : w0.heap.size ≤ R) (v : Value) : Ext w0 (w.setCell ⟨R, o, none⟩ v) := Below.setCell (p := ⟨R, o, none⟩) h hR v
theorem Ext.set6 {w0 w : World} (h : Ext w0 w) {R : Nat} (hR : w0.heap.size ≤ R) (u : V6) : Ext w0 (World.set6 w R u) :=
  (((((h.setCell hR _).setCell hR _).setCell hR _).setCell hR _).setCell hR _).setCell hR _
theorem set6_frozen (w : World) (R : Nat) (u : V6) (a : Addr) : (World.set6 w R u).frozen? a = w.frozen? a := by
  unfold World.set6; simp
end Go.Hs

namespace Go.Hs
open Go.RowKit
/-- The result of 'at' so far, in its box. -/
def AtInv (B : Nat) (wd w0 : World) (t : Tar) (w : World) : Prop := ∃ u : V6, Cell6 w (B + 1) 0 u ∧ TarU wd u t ∧ (∀ o, w.frozen? ⟨B + 1, o, none⟩ = false) ∧ Ext w0 w
theorem IntsV.nil (w : World) : IntsV w (.slice none 0 0) [] := ⟨none, 0, rfl, Nat.le_refl _, by simp, fun i h => absurd h (Nat.not_lt_zero _)⟩
theorem Ints3V.nil (w : World) : Ints3V w (.slice none 0 0) [] := ⟨none, 0, rfl, Nat.le_refl _, by simp, fun i h => absurd h (Nat.not_lt_zero _)⟩
theorem AtInv.start (w : World) : TarU w ⟨.int .i64 0, .bool false, .int .i64 0, .slice none 0 0, .slice none 0 0, .slice none 0 0⟩ (default : Tar) :=
  ⟨rfl, rfl, rfl, ⟨by decide, by decide⟩, ⟨by decide, by decide⟩, IntsV.nil w, IntsV.nil w, Ints3V.nil w⟩
end Go.Hs

namespace Go.Hs
open Go.RowKit
theorem AtInv.step {B : Nat} {wd w0 w : World} {y t : Tar} {u : V6} (h : AtInv B wd w0 y w) (hB : w0.heap.size ≤ B + 1) (hu : TarU wd u t) (o : Obj) : AtInv B wd w0 t ((World.set6 w (B + 1) u).alloc o) := by
  obtain ⟨x, hc, -, hf, hx⟩ := h
  have hx1 : Ext (World.set6 w (B + 1) u) ((World.set6 w (B + 1) u).alloc o) := (Ext.refl _).alloc o
  have hlt : B + 1 < (World.set6 w (B + 1) u).heap.size := lt_of_cell (set6_cell (u := u) hc).1
  exact ⟨u, (set6_cell hc).ext hx1, hu, fun i => by rw [hx1.frozen hlt, set6_frozen]; exact hf i, (hx.set6 hB u).trans hx1⟩
theorem AtInv.same {B : Nat} {wd w0 w : World} {y : Tar} (h : AtInv B wd w0 y w) (o : Obj) : AtInv B wd w0 y (w.alloc o) := by
  obtain ⟨x, hc, hu, hf, hx⟩ := h
  have hx1 : Ext w (w.alloc o) := (Ext.refl _).alloc o
  exact ⟨x, hc.ext hx1, hu, fun i => by rw [hx1.frozen (lt_of_cell hc.1)]; exact hf i, hx.trans hx1⟩
theorem TarU.slices {w : World} {u : V6} {t : Tar} (h : TarU w u t) : ∃ a3 k3 a4 k4 a5 k5, u = ⟨.int .i64 t.start, .bool t.whole, .int .i64 t.least, .slice a3 t.weeks.length k3, .slice a4 t.counts.length k4, .slice a5 t.rates.length k5⟩ := by
  obtain ⟨u0, u1, u2, u3, u4, u5⟩ := u
  obtain ⟨h0, h1, h2, -, -, ⟨a3, k3, h3, -⟩, ⟨a4, k4, h4, -⟩, ⟨a5, k5, h5, -⟩⟩ := h
  simp only at *
  subst h0 h1 h2 h3 h4 h5
  exact ⟨a3, k3, a4, k4, a5, k5, rfl⟩
end Go.Hs
namespace Go.Hs
open Go.RowKit
def Sorted (xs : List Int) : Prop := ∀ a b, a ≤ b → b < xs.length → xs.getD a 0 ≤ xs.getD b 0
/-- What a search by halves leaves: the first index that is not below x, and whether x stands there. -/
def Found (xs : List Int) (x : Int) (i : Nat) : Prop := i ≤ xs.length ∧ (∀ m, m < i → xs.getD m 0 < x) ∧ (∀ m, i ≤ m → m < xs.length → x ≤ xs.getD m 0)
def SearchPost (xs : List Int) (x : Int) (w : World) (e : Ending) (w' : World) : Prop :=
  ∃ i : Nat, Found xs x i ∧ e = .returned (.tuple #[.int .i64 i, .bool (decide (i < xs.length ∧ xs.getD i 0 = x))]) ∧ w = w'
end Go.Hs
namespace Go.Hs
open Go.RowKit
theorem IntsV.slice {w : World} {v : Value} {xs : List Int} (h : IntsV w v xs) : ∃ a c, v = .slice a xs.length c := let ⟨a, c, e, _⟩ := h; ⟨a, c, e⟩
theorem Ints2V.slice {w : World} {v : Value} {xs : List (List Int)} (h : Ints2V w v xs) : ∃ a c, v = .slice a xs.length c := let ⟨a, c, e, _⟩ := h; ⟨a, c, e⟩
/-- An element of a list in memory. -/
theorem IntsV.get {w : World} {a : Option Addr} {n c : Nat} {xs : List Int} (h : IntsV w (.slice a n c) xs) (i : Nat) (hi : i < xs.length) : ∃ b off, a = some ⟨b, off, none⟩ ∧ w.cell? ⟨b, off + i, none⟩ = some (.int .i64 (xs.getD i 0)) := by
  obtain ⟨b, off, he, hc⟩ := SliceV.rows h i hi
  exact ⟨b, off, he, by have := hc.1; simpa [hi] using this⟩
theorem Ints2V.get {w : World} {a : Option Addr} {n c : Nat} {xs : List (List Int)} (h : Ints2V w (.slice a n c) xs) (i : Nat) (hi : i < xs.length) : ∃ b off a1 c1, a = some ⟨b, off, none⟩ ∧ w.cell? ⟨b, off + i, none⟩ = some (.slice a1 (xs.getD i []).length c1) ∧ IntsV w (.slice a1 (xs.getD i []).length c1) (xs.getD i []) := by
  obtain ⟨b, off, he, v, hc, hv⟩ := SliceV.rows h i hi
  obtain ⟨a1, c1, rfl⟩ := hv.slice
  have e : xs[i] = xs.getD i [] := by simp [hi]
  rw [← e]
  exact ⟨b, off, a1, c1, he, by simpa using hc, hv⟩
theorem Ints3V.get {w : World} {a : Option Addr} {n c : Nat} {xs : List (List (List Int))} (h : Ints3V w (.slice a n c) xs) (i : Nat) (hi : i < xs.length) : ∃ b off a1 c1, a = some ⟨b, off, none⟩ ∧ w.cell? ⟨b, off + i, none⟩ = some (.slice a1 (xs.getD i []).length c1) ∧ Ints2V w (.slice a1 (xs.getD i []).length c1) (xs.getD i []) := by
  obtain ⟨b, off, he, v, hc, hv⟩ := SliceV.rows h i hi
  obtain ⟨a1, c1, rfl⟩ := hv.slice
  have e : xs[i] = xs.getD i [] := by simp [hi]
  rw [← e]
  exact ⟨b, off, a1, c1, he, by simpa using hc, hv⟩
theorem IntsV.ok {w : World} {v : Value} {xs : List Int} (h : IntsV w v xs) : ∀ x ∈ xs, i64ok x := by
  obtain ⟨a, c, he, -, -, -, h⟩ := h.cells; exact h
end Go.Hs
namespace Go.Hs
open Go.RowKit
def firstGe (xs : List Int) (x : Int) : Nat := (xs.takeWhile (fun y => decide (y < x))).length
theorem Found.eq {xs : List Int} {x : Int} {i : Nat} (h : Found xs x i) : i = firstGe xs x := by
  obtain ⟨h1, h2, h3⟩ := h
  unfold firstGe
  induction xs generalizing i with
  | nil => simp at h1; simp [h1]
  | cons y r ih =>
    cases i with
    | zero =>
      have := h3 0 (Nat.le_refl _) (by simp)
      simp at this
      rw [List.takeWhile_cons_of_neg (by simpa using this)]; rfl
    | succ i =>
      have := h2 0 (by omega)
      simp at this
      rw [List.takeWhile_cons_of_pos (by simpa using this)]
      have e := ih (i := i) (by simpa using h1) (fun m hm => by have := h2 (m + 1) (by omega); simpa using this) (fun m hm hl => by have := h3 (m + 1) (by omega) (by simpa using hl); simpa using this)
      simp only [List.length_cons]; omega
/-- The counts of a tariff: they rise from 0 to 100. -/
structure CountsOK (xs : List Int) : Prop where
  two : 1 < xs.length
  sorted : Sorted xs
  strict : ∀ a b, a < b → b < xs.length → xs.getD a 0 < xs.getD b 0
  first : xs.getD 0 0 = 0
  last : xs.getD (xs.length - 1) 0 = 100
theorem CountsOK.bound {xs : List Int} (h : CountsOK xs) (i : Nat) (hi : i < xs.length) : 0 ≤ xs.getD i 0 ∧ xs.getD i 0 ≤ 100 := by
  have h1 := h.sorted 0 i (by omega) hi
  have h2 := h.sorted i (xs.length - 1) (by omega) (by omega)
  rw [h.first] at h1; rw [h.last] at h2
  exact ⟨h1, h2⟩
structure RowOK (m : Nat) (row : List Int) : Prop where
  len : row.length = m
  bound : ∀ i, i < row.length → 0 ≤ row.getD i 0 ∧ row.getD i 0 ≤ 100
/-- The loss at a count: by the row of rates. -/
def interp (xs row : List Int) (n : Int) : Int :=
  if xs.getD (firstGe xs n) 0 = n then row.getD (firstGe xs n) 0
  else (row.getD (firstGe xs n - 1) 0 * (xs.getD (firstGe xs n) 0 - n) + row.getD (firstGe xs n) 0 * (n - xs.getD (firstGe xs n - 1) 0)) / (xs.getD (firstGe xs n) 0 - xs.getD (firstGe xs n - 1) 0)
theorem CountsOK.found {xs : List Int} (h : CountsOK xs) {n : Int} (h0 : 0 ≤ n) (h1 : n ≤ 100) {i : Nat} (hi : Found xs n i) : i < xs.length ∧ (xs.getD i 0 ≠ n → 1 ≤ i ∧ xs.getD (i - 1) 0 < n ∧ n < xs.getD i 0) := by
  have h2 := h.two
  have hlt : i < xs.length := by
    rcases Nat.lt_or_ge i xs.length with hl | hl
    · exact hl
    · have e : i = xs.length := by have := hi.1; omega
      have := hi.2.1 (xs.length - 1) (by omega)
      rw [h.last] at this; omega
  refine ⟨hlt, fun hne => ?_⟩
  have hge := hi.2.2 i (Nat.le_refl _) hlt
  have h1i : 1 ≤ i := by
    rcases Nat.eq_zero_or_pos i with e | e
    · subst e; rw [h.first] at hge hne; omega
    · exact e
  exact ⟨h1i, hi.2.1 (i - 1) (by omega), by omega⟩
end Go.Hs
namespace Go.Hs
theorem interp_at {xs row : List Int} {n : Int} {i : Nat} (h : Found xs n i) : interp xs row n = if xs.getD i 0 = n then row.getD i 0
  else (row.getD (i - 1) 0 * (xs.getD i 0 - n) + row.getD i 0 * (n - xs.getD (i - 1) 0)) / (xs.getD i 0 - xs.getD (i - 1) 0) := by
  unfold interp; rw [← h.eq]
end Go.Hs
namespace Go.Hs
open Go.RowKit
theorem prod_bd {a b A B : Int} (h1 : 0 ≤ a) (h2 : a ≤ A) (h3 : 0 ≤ b) (h4 : b ≤ B) : 0 ≤ a * b ∧ a * b ≤ A * B :=
  ⟨Int.mul_nonneg h1 h3, Int.mul_le_mul h2 h4 h3 (Int.le_trans h1 h2)⟩
theorem interp_wrap {rj ri ci cj n : Int} (a1 : 0 ≤ rj) (a2 : rj ≤ 100) (b1 : 0 ≤ ri) (b2 : ri ≤ 100) (c1 : 0 ≤ ci) (c2 : ci ≤ 100) (d1 : 0 ≤ cj) (h1 : cj < n) (h2 : n < ci) :
    wrap64 ((wrap64 (wrap64 (rj * (ci - n)) + wrap64 (ri * (n - cj)))).tdiv (ci - cj)) = (rj * (ci - n) + ri * (n - cj)) / (ci - cj) := by
  have p := prod_bd a1 a2 (b := ci - n) (B := 100) (by omega) (by omega)
  have q := prod_bd b1 b2 (b := n - cj) (B := 100) (by omega) (by omega)
  rw [IntWalk.wrap64_in (rj * (ci - n)) ⟨by omega, by omega⟩, IntWalk.wrap64_in (ri * (n - cj)) ⟨by omega, by omega⟩]
  generalize rj * (ci - n) = x at *
  generalize ri * (n - cj) = y at *
  rw [IntWalk.wrap64_in (x + y) ⟨by omega, by omega⟩, Int.tdiv_eq_ediv_of_nonneg (by omega)]
  have l1 : 0 ≤ (x + y) / (ci - cj) := Int.ediv_nonneg (by omega) (by omega)
  have l2 : (x + y) / (ci - cj) ≤ x + y := Int.ediv_le_self _ (by omega)
  exact IntWalk.wrap64_in _ ⟨by omega, by omega⟩
end Go.Hs

/- Words of layer 7: structs of three and nine cells; fields, truths, cases. Printed by gen_vn.py. -/
namespace Go.Hs
open Go.RowKit
structure V3 where
  c0 : Value
  c1 : Value
  c2 : Value
abbrev V3.val (x : V3) : Value := .agg #[x.c0, x.c1, x.c2]
def Cell3 (w : World) (b o : Nat) (x : V3) : Prop :=
  w.cell? ⟨b, o, none⟩ = some x.c0 ∧ w.cell? ⟨b, o + 1, none⟩ = some x.c1 ∧ w.cell? ⟨b, o + 2, none⟩ = some x.c2
theorem Cell3.ext {w w' : World} (h : Ext w w') (b o : Nat) (x : V3) (k : Cell3 w b o x) : Cell3 w' b o x :=
  ⟨h.keep k.1, h.keep k.2.1, h.keep k.2.2⟩
def Cells3 (w : World) (a : Option Addr) (us : List V3) : Prop := ∀ (i : Nat) (h : i < us.length), ∃ b off, a = some ⟨b, off, none⟩ ∧ Cell3 w b (off + i * 3) us[i]
theorem Cells3.ext {w w' : World} {a : Option Addr} {us : List V3} (h : Ext w w') (k : Cells3 w a us) : Cells3 w' a us := fun i hi => let ⟨b, o, he, hc⟩ := k i hi; ⟨b, o, he, hc.ext h⟩
def Slice3 {α : Type} (U : α → V3) (w : World) (v : Value) (xs : List α) : Prop := ∃ a c, v = .slice a xs.length c ∧ xs.length ≤ c ∧ xs.length ≤ 1000 ∧ Cells3 w a (xs.map U)
theorem Slice3.ext {α : Type} {U : α → V3} {w w' : World} {v : Value} {xs : List α} (h : Ext w w') (k : Slice3 U w v xs) : Slice3 U w' v xs :=
  let ⟨a, c, he, h1, h2, hc⟩ := k; ⟨a, c, he, h1, h2, hc.ext h⟩
structure V9 where
  c0 : Value
  c1 : Value
  c2 : Value
  c3 : Value
  c4 : Value
  c5 : Value
  c6 : Value
  c7 : Value
  c8 : Value
abbrev V9.val (x : V9) : Value := .agg #[x.c0, x.c1, x.c2, x.c3, x.c4, x.c5, x.c6, x.c7, x.c8]
def Cell9 (w : World) (b o : Nat) (x : V9) : Prop :=
  w.cell? ⟨b, o, none⟩ = some x.c0 ∧ w.cell? ⟨b, o + 1, none⟩ = some x.c1 ∧ w.cell? ⟨b, o + 2, none⟩ = some x.c2 ∧ w.cell? ⟨b, o + 3, none⟩ = some x.c3 ∧ w.cell? ⟨b, o + 4, none⟩ = some x.c4 ∧ w.cell? ⟨b, o + 5, none⟩ = some x.c5 ∧ w.cell? ⟨b, o + 6, none⟩ = some x.c6 ∧ w.cell? ⟨b, o + 7, none⟩ = some x.c7 ∧ w.cell? ⟨b, o + 8, none⟩ = some x.c8
theorem Cell9.ext {w w' : World} (h : Ext w w') (b o : Nat) (x : V9) (k : Cell9 w b o x) : Cell9 w' b o x :=
  ⟨h.keep k.1, h.keep k.2.1, h.keep k.2.2.1, h.keep k.2.2.2.1, h.keep k.2.2.2.2.1, h.keep k.2.2.2.2.2.1, h.keep k.2.2.2.2.2.2.1, h.keep k.2.2.2.2.2.2.2.1, h.keep k.2.2.2.2.2.2.2.2⟩
def Cells9 (w : World) (a : Option Addr) (us : List V9) : Prop := ∀ (i : Nat) (h : i < us.length), ∃ b off, a = some ⟨b, off, none⟩ ∧ Cell9 w b (off + i * 9) us[i]
theorem Cells9.ext {w w' : World} {a : Option Addr} {us : List V9} (h : Ext w w') (k : Cells9 w a us) : Cells9 w' a us := fun i hi => let ⟨b, o, he, hc⟩ := k i hi; ⟨b, o, he, hc.ext h⟩
def Slice9 {α : Type} (U : α → V9) (w : World) (v : Value) (xs : List α) : Prop := ∃ a c, v = .slice a xs.length c ∧ xs.length ≤ c ∧ xs.length ≤ 1000 ∧ Cells9 w a (xs.map U)
theorem Slice9.ext {α : Type} {U : α → V9} {w w' : World} {v : Value} {xs : List α} (h : Ext w w') (k : Slice9 U w v xs) : Slice9 U w' v xs :=
  let ⟨a, c, he, h1, h2, hc⟩ := k; ⟨a, c, he, h1, h2, hc.ext h⟩
/-- A field, as the document has it. -/
structure Fld where
  crop : Int
  value : Int
  near : Int
  alo : Int
  ahi : Int
  blo : Int
  bhi : Int
  ulo : Int
  uhi : Int
/-- The counts of a field. -/
structure Thr where
  a : Int
  b : Int
  u : Int
structure Cas where
  tars : List Tar
  day : Int
  fee : Int
  flds : List Fld
def Fld.c (f : Fld) : V9 := ⟨.int .i64 f.crop, .int .i64 f.value, .int .i64 f.near, .int .i64 f.alo, .int .i64 f.ahi, .int .i64 f.blo, .int .i64 f.bhi, .int .i64 f.ulo, .int .i64 f.uhi⟩
def Thr.c (x : Thr) : V3 := ⟨.int .i64 x.a, .int .i64 x.b, .int .i64 x.u⟩
def FldsV : World → Value → List Fld → Prop := Slice9 Fld.c
def ThrsV : World → Value → List Thr → Prop := Slice3 Thr.c
/-- A case's value. -/
def CasV (w : World) (v : Value) (c : Cas) : Prop := ∃ vt vf, v = .agg #[vt, .int .i64 c.day, .int .i64 c.fee, vf] ∧ TarsV w vt c.tars ∧ FldsV w vf c.flds
theorem FldsV.ext {w w' : World} {v : Value} {l : List Fld} (h : Ext w w') (k : FldsV w v l) : FldsV w' v l := Slice9.ext h k
theorem ThrsV.ext {w w' : World} {v : Value} {l : List Thr} (h : Ext w w') (k : ThrsV w v l) : ThrsV w' v l := Slice3.ext h k
theorem CasV.ext {w w' : World} {v : Value} {c : Cas} (h : Ext w w') (k : CasV w v c) : CasV w' v c :=
  let ⟨vt, vf, he, h1, h2⟩ := k; ⟨vt, vf, he, h1.ext h, h2.ext h⟩

/-- What is settled: the count, and who loses the field (0 nobody is called, 1 nobody, 2 the farmer, 3 the society). -/
def absI (n : Int) : Int := max n (-n)
def calledB (f : Fld) (x : Thr) : Bool := decide (f.near < absI (x.a - x.b))
def settledS (f : Fld) (x : Thr) : Int := if calledB f x then min (max x.u (min x.a x.b)) (max x.a x.b) else (x.a + x.b) / 2
def loserS (f : Fld) (x : Thr) : Nat :=
  if calledB f x then
    if absI (x.b - settledS f x) < absI (x.a - settledS f x) then 2 else if absI (x.a - settledS f x) < absI (x.b - settledS f x) then 3 else 1
  else 0
/-- All numbers of a range, and all counts of a field, in the order in which the program goes through them. -/
def everyS (lo hi : Int) : List Int := (List.range (hi - lo + 1).toNat).map (fun i : Nat => lo + (i : Int))
def szR (lo hi : Int) : Nat := (hi - lo + 1).toNat
def truthAt (f : Fld) (n : Nat) : Thr := ⟨f.alo + ((n / szR f.ulo f.uhi / szR f.blo f.bhi : Nat) : Int), f.blo + ((n / szR f.ulo f.uhi % szR f.blo f.bhi : Nat) : Int), f.ulo + ((n % szR f.ulo f.uhi : Nat) : Int)⟩
def truthsN (f : Fld) : Nat := szR f.alo f.ahi * szR f.blo f.bhi * szR f.ulo f.uhi
def truthsS (f : Fld) : List Thr := (List.range (truthsN f)).map (truthAt f)
theorem truthAt_at (f : Fld) (i j k : Nat) (hj : j < szR f.blo f.bhi) (hk : k < szR f.ulo f.uhi) : truthAt f ((i * szR f.blo f.bhi + j) * szR f.ulo f.uhi + k) = ⟨f.alo + (i : Int), f.blo + (j : Int), f.ulo + (k : Int)⟩ := by
  unfold truthAt
  have e1 : ((i * szR f.blo f.bhi + j) * szR f.ulo f.uhi + k) / szR f.ulo f.uhi = i * szR f.blo f.bhi + j := by
    rw [Nat.mul_comm, Nat.mul_add_div (by omega), Nat.div_eq_of_lt hk, Nat.add_zero]
  have e2 : ((i * szR f.blo f.bhi + j) * szR f.ulo f.uhi + k) % szR f.ulo f.uhi = k := by
    rw [Nat.mul_comm, Nat.mul_add_mod, Nat.mod_eq_of_lt hk]
  have e3 : (i * szR f.blo f.bhi + j) / szR f.blo f.bhi = i := by
    rw [Nat.mul_comm, Nat.mul_add_div (by omega), Nat.div_eq_of_lt hj, Nat.add_zero]
  have e4 : (i * szR f.blo f.bhi + j) % szR f.blo f.bhi = j := by
    rw [Nat.mul_comm, Nat.mul_add_mod, Nat.mod_eq_of_lt hj]
  rw [e1, e2, e3, e4]
theorem truthAt_lt (f : Fld) (i j k : Nat) (hi : i < szR f.alo f.ahi) (hj : j < szR f.blo f.bhi) (hk : k < szR f.ulo f.uhi) : (i * szR f.blo f.bhi + j) * szR f.ulo f.uhi + k < truthsN f := by
  unfold truthsN
  have h1 : i * szR f.blo f.bhi + j + 1 ≤ szR f.alo f.ahi * szR f.blo f.bhi := by
    have : (i + 1) * szR f.blo f.bhi ≤ szR f.alo f.ahi * szR f.blo f.bhi := Nat.mul_le_mul_right _ hi
    rw [Nat.add_mul] at this; omega
  have h2 : (i * szR f.blo f.bhi + j + 1) * szR f.ulo f.uhi ≤ szR f.alo f.ahi * szR f.blo f.bhi * szR f.ulo f.uhi := Nat.mul_le_mul_right _ h1
  rw [Nat.add_mul] at h2; omega
def countsB (lo hi : Int) : Bool := decide (0 ≤ lo) && (decide (lo ≤ hi) && (decide (hi ≤ 100) && decide (hi - lo ≤ 4)))
end Go.Hs

/- Contracts: the numbers of a range, and all three counts of a field, one after the other. -/
namespace Go.Hs
open Go.RowKit
/-- Two cells that read as a range. -/
structure RanC (b : Nat) (lo hi : Int) (w : World) : Prop where
  lo : w.cell? ⟨b, 0, none⟩ = some (.int .i64 lo)
  hi : w.cell? ⟨b, 1, none⟩ = some (.int .i64 hi)
theorem RanC.below {b n : Nat} {lo hi : Int} {w w' : World} (h : RanC b lo hi w) (hx : Below n w w') (hb : b < n) : RanC b lo hi w' :=
  ⟨(hx.cell (p := ⟨b, 0, none⟩) hb).trans h.lo, (hx.cell (p := ⟨b, 1, none⟩) hb).trans h.hi⟩
theorem RanC.kept {b n : Nat} {lo hi : Int} {w w' : World} (h : RanC b lo hi w) (hx : Kept n w w') (hb : n ≤ b) : RanC b lo hi w' := ⟨hx.cell hb h.lo, hx.cell hb h.hi⟩
def everyV (lo hi : Int) : List Value := (List.range (szR lo hi)).map (fun i : Nat => .int .i64 (lo + (i : Int)))
theorem everyV_len (lo hi : Int) : (everyV lo hi).length = szR lo hi := by simp [everyV]
theorem everyV_get (lo hi : Int) (i : Nat) (h : i < (everyV lo hi).length) : (everyV lo hi)[i] = .int .i64 (lo + (i : Int)) := by simp [everyV]
def truthsV (f : Fld) : List Value := (List.range (truthsN f)).map (fun n => (truthAt f n).c.val)
theorem truthsV_len (f : Fld) : (truthsV f).length = truthsN f := by simp [truthsV]
theorem truthsV_get (f : Fld) (i : Nat) (h : i < (truthsV f).length) : (truthsV f)[i] = (truthAt f i).c.val := by simp [truthsV]
end Go.Hs
namespace Go.Proofs.Ytedblocbcjoolaa
open Go.RowKit Go.Hs
attribute [local irreducible] World.setCell World.alloc
attribute [local go_sem] Oper.semAt_some
attribute [local simp] wide_fn wide_fn' wide_depth wide_round
attribute [local go_sem] wide_fn wide_fn' wide_depth wide_round

set_option maxHeartbeats 400000 in
theorem every_any (lo hi : Int) (w : World) :
    Calls Try.prog 42 #[.agg #[.int .i64 lo, .int .i64 hi]] w fun e w' => e = .returned (.func (.func 59) #[] #[.pointer (some ⟨w.heap.size, 0, none⟩)]) ∧ w' = w.alloc (.cells #[.int .i64 lo, .int .i64 hi] 44) := by
  go_enter Try.func42, Try.ntmps42
  go_wp2_with fail
  go_ret
  exact ⟨rfl, rfl⟩
theorem fn_every1 : FnOK 59 := fun args w => by simp [go_sem]
theorem fn_truths1 : FnOK 41 := fun args w => by simp [go_sem]

set_option maxRecDepth 100000 in
set_option maxHeartbeats 1000000 in
theorem every_gives (b : Nat) (lo hi : Int) (h : 0 ≤ lo ∧ lo ≤ hi ∧ hi ≤ 100) : Gives 59 #[.pointer (some ⟨b, 0, none⟩)] (everyV lo hi) (RanC b lo hi) := by
  intro L J Jx W hK hJ hJx hY h0
  have hY' : ∀ (i : Nat) (W1 : World), (i : Int) ≤ hi - lo → J i W1 → W.heap.size ≤ W1.heap.size → YieldAt Fence.wide 0 Try.prog L #[.int .i64 (lo + i)] W1 fun e W2 =>
      Kept W.heap.size W1 W2 ∧ ((e = .returned (.bool true) ∧ J (i + 1) W2) ∨ (e = .returned (.bool false) ∧ Jx W2)) := fun i W1 hii hj hs => by
    have hl : i < (everyV lo hi).length := by rw [everyV_len]; unfold szR; omega
    have := hY i hl W1 hj hs
    rwa [everyV_get] at this
  rw [everyV_len]
  obtain ⟨c0, c1⟩ := hK 0 W h0
  clear hY
  have hD : ∃ D : Nat, hi - lo + 1 = (D : Int) ∧ szR lo hi = D := ⟨(hi - lo + 1).toNat, by omega, rfl⟩
  obtain ⟨D, hD, hD'⟩ := hD
  rw [hD']
  have HJX := Lib.hid hJx
  have HJ := Lib.hid hJ
  clear hJx hJ
  gi_enter Try.func59, Try.ntmps59
  gi_wp2_with fail
  try rw [hD]
  gi_loopw [10] (fun i wr => ∃ k : Nat, k ≤ D ∧ i = .int .i64 k ∧ J k wr ∧ W.heap.size ≤ wr.heap.size) (fun i _ => D - (intOf i).toNat)
  case atStart => exact ⟨0, Nat.zero_le _, rfl, h0, Nat.le_refl _⟩
  case round =>
    obtain ⟨k, hk, rfl, hI, hs⟩ := hrel
    by_cases hlt : k < D
    · obtain ⟨e0, e1⟩ := hK k wr hI
      have hy0 := hY' k wr (by omega) hI hs
      obtain ⟨fn, tmps, assign, body, hy, hrd⟩ := hy0
      clear hY' hK
      gi_wp2_with (first | ((with_reducible refine hrd.mono ?_); rintro e w2 ⟨hk2, ⟨rfl, hI2⟩ | ⟨rfl, hI2⟩⟩))
      · go_roundw
        case rel => exact ⟨k + 1, by omega, by go_num, hI2, Nat.le_trans hs hk2.1⟩
        case measure => simp [intOf]; omega
      · refine bodyPost_ret (results_none rfl _ _ _) rfl ?_
        exact ⟨⟨_, rfl⟩, .inr hI2⟩
    · have hk' : k = D := by omega
      subst hk'
      clear hY' hK
      gi_wp2_with fail
      go_end0
      exact ⟨⟨_, rfl⟩, .inl hI⟩

/-- What the function of 'truths' has laid: yield's box, and the box of the first range. -/
structure TrO (L B : Nat) (al ah : Int) (W' : World) : Prop where
  y : W'.cell? ⟨B, 0, none⟩ = some (.func (.yield L) #[] #[])
  a : RanC (B + 1) al ah W'
  s : B + 2 ≤ W'.heap.size
theorem TrO.below {L B n : Nat} {al ah : Int} {w w' : World} (h : TrO L B al ah w) (hx : Below n w w') (hn : B + 2 ≤ n) : TrO L B al ah w' :=
  ⟨(hx.cell (p := ⟨B, 0, none⟩) (by show B < n; omega)).trans h.y, h.a.below hx (by omega), Nat.le_trans h.s hx.size⟩
theorem TrO.kept {L B n : Nat} {al ah : Int} {w w' : World} (h : TrO L B al ah w) (hx : Kept n w w') (hn : n ≤ B) : TrO L B al ah w' :=
  ⟨hx.cell hn h.y, h.a.kept hx (by omega), Nat.le_trans h.s hx.1⟩
/-- A cell with a number. -/
def NumC (b : Nat) (x : Int) (w : World) : Prop := w.cell? ⟨b, 0, none⟩ = some (.int .i64 x)
theorem NumC.below {b n : Nat} {x : Int} {w w' : World} (h : NumC b x w) (hx : Below n w w') (hb : b < n) : NumC b x w' := (hx.cell (p := ⟨b, 0, none⟩) hb).trans h

/-- What lies between two rounds over the second range, and over the third one. -/
structure TrB (L B : Nat) (al ah : Int) (ba : Nat) (xa : Int) (br : Nat) (bl bh : Int) (D : Nat) (W2 W' : World) : Prop where
  o : TrO L B al ah W'
  a : NumC ba xa W'
  r : RanC br bl bh W'
  k : Kept D W2 W'
theorem TrB.below {L B : Nat} {al ah : Int} {ba : Nat} {xa : Int} {br : Nat} {bl bh : Int} {D n : Nat} {W2 w w' : World} (h : TrB L B al ah ba xa br bl bh D W2 w) (hx : Below n w w')
    (h1 : B + 2 ≤ n) (h2 : ba < n) (h3 : br < n) (h4 : W2.heap.size ≤ n) : TrB L B al ah ba xa br bl bh D W2 w' :=
  ⟨h.o.below hx h1, h.a.below hx h2, h.r.below hx h3, h.k.below hx h4⟩
theorem NumC.kept {b n : Nat} {x : Int} {w w' : World} (h : NumC b x w) (hx : Kept n w w') (hb : n ≤ b) : NumC b x w' := hx.cell hb h
theorem TrB.kept {L B : Nat} {al ah : Int} {ba : Nat} {xa : Int} {br : Nat} {bl bh : Int} {D n : Nat} {W2 w w' : World} (h : TrB L B al ah ba xa br bl bh D W2 w) (hx : Kept n w w')
    (h1 : n ≤ B) (h2 : n ≤ ba) (h3 : n ≤ br) (h4 : n ≤ D) : TrB L B al ah ba xa br bl bh D W2 w' :=
  ⟨h.o.kept hx h1, h.a.kept hx h2, h.r.kept hx h3, h.k.trans (hx.mono h4)⟩
theorem RoundIn.inR {P : Program} {L : Nat} {f : FuncId} {t : Array Value} {a b : Code} {w : World} {R : Ending → World → Prop} (l : Nat) (h : RoundIn Fence.wide 0 P L f t a b w R) : RoundIn (Fence.wide.inRound l) 0 P L f t a b w R := h

set_option maxRecDepth 100000 in
set_option maxHeartbeats 4000000 in
theorem truths_gives (bf : Nat) (f : Fld) (ha : 0 ≤ f.alo ∧ f.alo ≤ f.ahi ∧ f.ahi ≤ 100) (hb : 0 ≤ f.blo ∧ f.blo ≤ f.bhi ∧ f.bhi ≤ 100) (hu : 0 ≤ f.ulo ∧ f.ulo ≤ f.uhi ∧ f.uhi ≤ 100) :
    Gives 41 #[.pointer (some ⟨bf, 0, none⟩)] (truthsV f) (fun W => Cell9 W bf 0 f.c) := by
  intro L J Jx W hK hJ hJx hY h0
  have hY' : ∀ (i j k : Nat) (W1 : World), i < szR f.alo f.ahi → j < szR f.blo f.bhi → k < szR f.ulo f.uhi → J ((i * szR f.blo f.bhi + j) * szR f.ulo f.uhi + k) W1 → W.heap.size ≤ W1.heap.size →
      YieldAt Fence.wide 0 Try.prog L #[.agg #[.int .i64 (f.alo + i), .int .i64 (f.blo + j), .int .i64 (f.ulo + k)]] W1 fun e W2 =>
        Kept W.heap.size W1 W2 ∧ ((e = .returned (.bool true) ∧ J ((i * szR f.blo f.bhi + j) * szR f.ulo f.uhi + (k + 1)) W2) ∨ (e = .returned (.bool false) ∧ Jx W2)) := fun i j k W1 hi hj hk hJ1 hs => by
    have hl : (i * szR f.blo f.bhi + j) * szR f.ulo f.uhi + k < (truthsV f).length := by rw [truthsV_len]; exact truthAt_lt f i j k hi hj hk
    have := hY _ hl W1 hJ1 hs
    rw [truthsV_get, truthAt_at f i j k hj hk] at this
    exact this
  rw [truthsV_len]
  have hN : truthsN f = szR f.alo f.ahi * szR f.blo f.bhi * szR f.ulo f.uhi := rfl
  rw [hN]
  clear hN hY
  have ea := everyV_len f.alo f.ahi
  have eb := everyV_len f.blo f.bhi
  have eu := everyV_len f.ulo f.uhi
  have ga := fun n => every_gives n f.alo f.ahi ha
  have gb := fun n => every_gives n f.blo f.bhi hb
  have gu := fun n => every_gives n f.ulo f.uhi hu
  have hNB : 0 < szR f.blo f.bhi := by unfold szR; omega
  have hNU : 0 < szR f.ulo f.uhi := by unfold szR; omega
  generalize szR f.alo f.ahi = NA at *
  generalize szR f.blo f.bhi = NB at *
  generalize szR f.ulo f.uhi = NU at *
  obtain ⟨cr, va, ne, al, ah, bl, bh, ul, uh⟩ := f
  simp only [Fld.c] at *
  have hK0 := hK 0 W h0
  obtain ⟨k0, k1, k2, k3, k4, k5, k6, k7, k8⟩ := hK0
  simp only [Nat.zero_add] at k0 k1 k2 k3 k4 k5 k6 k7 k8
  refine callsIn_of_wp_marks Try.func41 rfl trivial ?_ rfl
  simp only [Try.ntmps41, List.size_toArray, List.length_cons, List.length_nil, Nat.reduceAdd, Nat.reduceSub, Array.replicate_succ, Array.replicate_zero, List.push_toArray, List.append_toArray, List.nil_append, List.cons_append]
  have hev : ∀ lo hi W, CallsIn Fence.wide 0 Try.prog 42 #[.agg #[.int .i64 lo, .int .i64 hi]] W _ := fun lo hi W => callsIn_wide.2 (every_any lo hi W)
  have hbf : bf < W.heap.size := lt_of_cell (a := ⟨bf, 0, none⟩) k0
  have hbf' : ¬ bf = W.heap.size := by omega
  have HK := Lib.hid hK
  have HJ := Lib.hid hJ
  have HJX := Lib.hid hJx
  have HY := Lib.hid hY'
  clear hK hJ hJx hY'
  gi_wp2_with (gi_at_call 42; (with_reducible refine (hev _ _ _).mono ?_); rintro e w' ⟨rfl, rfl⟩)
  have X0 : Ext W ((W.alloc (.cells #[.func (.yield L) #[] #[]] 101)).alloc (.cells #[.int .i64 al, .int .i64 ah] 44)) := by (repeat (first | exact Ext.refl _ | (with_reducible assumption) | (with_reducible refine Ext.drew ?_) | (with_reducible refine Ext.alloc ?_ _) | (with_reducible refine Ext.drewN ?_ _) | (with_reducible refine Ext.setCell ?_ (by omega) _) | (with_reducible refine Ext.trans ?_ (by with_reducible assumption))))
  have O0 : TrO L W.heap.size al ah ((W.alloc (.cells #[.func (.yield L) #[] #[]] 101)).alloc (.cells #[.int .i64 al, .int .i64 ah] 44)) := ⟨by simp [go_sem], ⟨by simp [go_sem], by simp [go_sem]⟩, by simp⟩
  have S0 : ((W.alloc (.cells #[.func (.yield L) #[] #[]] 101)).alloc (.cells #[.int .i64 al, .int .i64 ah] 44)).heap.size ≤ W.heap.size + 2 ∧ W.heap.size + 2 ≤ ((W.alloc (.cells #[.func (.yield L) #[] #[]] 101)).alloc (.cells #[.int .i64 al, .int .i64 ah] 44)).heap.size := by simp
  generalize (W.alloc (.cells #[.func (.yield L) #[] #[]] 101)).alloc (.cells #[.int .i64 al, .int .i64 ah] 44) = W0 at *
  refine each_outer (vs := everyV al ah) (K := RanC (W.heap.size + 1) al ah) (by rfl) fn_every1 (by rfl)
    (fun i W' => J (i * NB * NU) W' ∧ TrO L W.heap.size al ah W') (fun c W' => c = .ret ∧ Jx W') (ga _) (fun i W' h => h.2.a)
    (fun i A B h hx => ⟨HJ.out _ A B h.1 (hx.mono (by omega)), h.2.below hx (by omega)⟩) (fun c A B h hx => ⟨h.1, HJX.out A B h.2 (hx.mono (by omega))⟩)
    ⟨by rw [Nat.zero_mul, Nat.zero_mul]; exact HJ.out 0 W W0 h0 X0, O0⟩ ?hround ?hdone ?hstop
  case hround =>
    intro i hi W1 hj hs
    rw [everyV_get]
    have hiN : i < NA := by omega
    simp only [Array.zip_eq_zipWith]
    gi_wp2_with fail
    refine ⟨Kept.ext (by (repeat (first | exact Ext.refl _ | (with_reducible assumption) | (with_reducible refine Ext.drew ?_) | (with_reducible refine Ext.alloc ?_ _) | (with_reducible refine Ext.drewN ?_ _) | (with_reducible refine Ext.setCell ?_ (by omega) _) | (with_reducible refine Ext.trans ?_ (by with_reducible assumption))))), fun W2 hT hrec => ?_⟩
    have BA : Below W0.heap.size W1 W2 := (((Ext.refl W1).alloc (.cells #[.int .i64 (al + i)] 3)).mono (by omega)).trans (hT.below (by omega))
    have hj2 := HJ.out _ _ _ hj.1 (BA.mono (by omega))
    have O2 := hj.2.below BA (by omega)
    have N2 : NumC W1.heap.size (al + i) W2 := hT.cell (by omega) (by simp)
    have S2 : W2.heap.size ≤ W1.heap.size + 1 ∧ W1.heap.size + 1 ≤ W2.heap.size := by rw [hT.size]; simp
    obtain ⟨m0, m1, m2, m3, m4, m5, m6, m7, m8⟩ := HK.out _ W2 hj2
    simp only [Nat.zero_add] at m0 m1 m2 m3 m4 m5 m6 m7 m8
    have hbf2 : ¬ bf = W2.heap.size := by omega
    obtain ⟨r0, hr0⟩ := hrec
    clear hT hj k0 k1 k2 k3 k4 k5 k6 k7 k8 BA h0 O0
    gi_wp2_with (gi_at_call 42; (with_reducible refine (CallsIn.inRound (W0.heap.size + 1) (hev _ _ _)).mono ?_); rintro e w' ⟨rfl, rfl⟩)
    have XB : Ext W2 (W2.alloc (.cells #[.int .i64 bl, .int .i64 bh] 44)) := by (repeat (first | exact Ext.refl _ | (with_reducible assumption) | (with_reducible refine Ext.drew ?_) | (with_reducible refine Ext.alloc ?_ _) | (with_reducible refine Ext.drewN ?_ _) | (with_reducible refine Ext.setCell ?_ (by omega) _) | (with_reducible refine Ext.trans ?_ (by with_reducible assumption))))
    have RB : RanC W2.heap.size bl bh (W2.alloc (.cells #[.int .i64 bl, .int .i64 bh] 44)) := ⟨by simp [go_sem], by simp [go_sem]⟩
    have SB : (W2.alloc (.cells #[.int .i64 bl, .int .i64 bh] 44)).heap.size ≤ W2.heap.size + 1 ∧ W2.heap.size + 1 ≤ (W2.alloc (.cells #[.int .i64 bl, .int .i64 bh] 44)).heap.size := by simp
    generalize (W2.alloc (.cells #[.int .i64 bl, .int .i64 bh] 44)) = WB at *
    have hrB : WB.heap[W0.heap.size + 1]? = some (.loop r0) := below_obj XB (by omega) hr0
    clear m0 m1 m2 m3 m4 m5 m6 m7 m8
    refine each_inner (l0 := W0.heap.size + 1) (r0 := r0) hrB (vs := everyV bl bh) (K := RanC W2.heap.size bl bh) (by rfl) fn_every1 (by rfl)
      (fun j W' => J ((i * NB + j) * NU) W' ∧ TrB L W.heap.size al ah W1.heap.size (al + i) W2.heap.size bl bh W0.heap.size W2 W') (fun c W' => c = .ret ∧ Jx W' ∧ Kept W0.heap.size W2 W') (gb _) (fun i W' h => h.2.r)
      (fun j A B h hx => ⟨HJ.out _ A B h.1 (hx.mono (by omega)), h.2.below hx (by omega) (by omega) (by omega) (by omega)⟩) (fun c A B h hx => ⟨h.1, HJX.out A B h.2.1 (hx.mono (by omega)), h.2.2.below hx (by omega)⟩)
      ⟨HJ.out _ W2 WB (by rw [Nat.add_zero]; exact hj2) (XB.mono (by omega)), ⟨O2.below XB (by omega), N2.below XB (by omega), RB, Kept.ext XB⟩⟩ ?hroundB ?hdoneB ?hstopB
    case hroundB =>
      intro j hjj W3 hj3 hs3
      rw [everyV_get]
      have hjN : j < NB := by omega
      simp only [Array.zip_eq_zipWith]
      gi_wp2_with fail
      refine ⟨Kept.ext (by (repeat (first | exact Ext.refl _ | (with_reducible assumption) | (with_reducible refine Ext.drew ?_) | (with_reducible refine Ext.alloc ?_ _) | (with_reducible refine Ext.drewN ?_ _) | (with_reducible refine Ext.setCell ?_ (by omega) _) | (with_reducible refine Ext.trans ?_ (by with_reducible assumption))))), fun W4 hT hrec => ?_⟩
      have BB : Below WB.heap.size W3 W4 := (((Ext.refl W3).alloc (.cells #[.int .i64 (bl + j)] 3)).mono (by omega)).trans (hT.below (by omega))
      have hj4 := HJ.out _ _ _ hj3.1 (BB.mono (by omega))
      have T4 := hj3.2.below BB (by omega) (by omega) (by omega) (by omega)
      have N4 : NumC W3.heap.size (bl + j) W4 := hT.cell (by omega) (by simp)
      have S4 : W4.heap.size ≤ W3.heap.size + 1 ∧ W3.heap.size + 1 ≤ W4.heap.size := by rw [hT.size]; simp
      obtain ⟨m0, m1, m2, m3, m4, m5, m6, m7, m8⟩ := HK.out _ W4 hj4
      simp only [Nat.zero_add] at m0 m1 m2 m3 m4 m5 m6 m7 m8
      have hbf4 : ¬ bf = W4.heap.size := by omega
      obtain ⟨r1, hr1⟩ := hrec
      clear hT hj3 BB O2 N2
      gi_wp2_with (gi_at_call 42; (with_reducible refine (CallsIn.inRound WB.heap.size (hev _ _ _)).mono ?_); rintro e w' ⟨rfl, rfl⟩)
      have XU : Ext W4 (W4.alloc (.cells #[.int .i64 ul, .int .i64 uh] 44)) := by (repeat (first | exact Ext.refl _ | (with_reducible assumption) | (with_reducible refine Ext.drew ?_) | (with_reducible refine Ext.alloc ?_ _) | (with_reducible refine Ext.drewN ?_ _) | (with_reducible refine Ext.setCell ?_ (by omega) _) | (with_reducible refine Ext.trans ?_ (by with_reducible assumption))))
      have RU : RanC W4.heap.size ul uh (W4.alloc (.cells #[.int .i64 ul, .int .i64 uh] 44)) := ⟨by simp [go_sem], by simp [go_sem]⟩
      have SU : (W4.alloc (.cells #[.int .i64 ul, .int .i64 uh] 44)).heap.size ≤ W4.heap.size + 1 ∧ W4.heap.size + 1 ≤ (W4.alloc (.cells #[.int .i64 ul, .int .i64 uh] 44)).heap.size := by simp
      generalize (W4.alloc (.cells #[.int .i64 ul, .int .i64 uh] 44)) = WU at *
      have hrU : WU.heap[WB.heap.size]? = some (.loop r1) := below_obj XU (by omega) hr1
      clear m0 m1 m2 m3 m4 m5 m6 m7 m8
      refine each_inner (l0 := WB.heap.size) (r0 := r1) hrU (vs := everyV ul uh) (K := RanC W4.heap.size ul uh) (by rfl) fn_every1 (by rfl)
        (fun k W' => J ((i * NB + j) * NU + k) W' ∧ TrB L W.heap.size al ah W1.heap.size (al + i) W2.heap.size bl bh W0.heap.size W2 W' ∧ NumC W3.heap.size (bl + j) W' ∧ RanC W4.heap.size ul uh W' ∧ Kept WB.heap.size W4 W')
        (fun c W' => c = .ret ∧ Jx W' ∧ Kept W0.heap.size W2 W' ∧ Kept WB.heap.size W4 W') (gu _) (fun i W' h => h.2.2.2.1)
        (fun k A B h hx => ⟨HJ.out _ A B h.1 (hx.mono (by omega)), h.2.1.below hx (by omega) (by omega) (by omega) (by omega), h.2.2.1.below hx (by omega), h.2.2.2.1.below hx (by omega), h.2.2.2.2.below hx (by omega)⟩)
        (fun c A B h hx => ⟨h.1, HJX.out A B h.2.1 (hx.mono (by omega)), h.2.2.1.below hx (by omega), h.2.2.2.below hx (by omega)⟩)
        ⟨HJ.out _ W4 WU hj4 (XU.mono (by omega)), T4.below XU (by omega) (by omega) (by omega) (by omega), N4.below XU (by omega), RU, Kept.ext XU⟩ ?hroundU ?hdoneU ?hstopU
      case hroundU =>
        intro k hkk W5 hj5 hs5
        rw [everyV_get]
        have hkN : k < NU := by omega
        simp only [Array.zip_eq_zipWith]
        gi_wp2_with fail
        refine ⟨Kept.refl _ _, fun W6 hT _ => ?_⟩
        have BU : Below WU.heap.size W5 W6 := hT.below (by omega)
        have hj6 := HJ.out _ _ _ hj5.1 (BU.mono (by omega))
        have T6 := hj5.2.1.below BU (by omega) (by omega) (by omega) (by omega)
        have N6 := hj5.2.2.1.below BU (by omega)
        have U6 := hj5.2.2.2.1.below BU (by omega)
        have K6 := hj5.2.2.2.2.below BU (by omega)
        obtain ⟨fn, tmps, assign, body, hy, hrd⟩ := HY.out i j k W6 hiN hjN hkN hj6 (by have := T6.o.s; omega)
        have q0 := T6.o.y
        have q1 : W6.cell? ⟨W1.heap.size, 0, none⟩ = some (.int .i64 (al + i)) := T6.a
        have q2 : W6.cell? ⟨W3.heap.size, 0, none⟩ = some (.int .i64 (bl + j)) := N6
        clear hT hj5 BU
        gi_wp2_with ((with_reducible refine (RoundIn.inR _ hrd).mono ?_); rintro e w2 ⟨hk2, ⟨rfl, hI2⟩ | ⟨rfl, hI2⟩⟩)
        · gi_wp2_with fail
          exact ⟨hk2.mono (by omega), hI2, T6.kept hk2 (by omega) (by omega) (by omega) (by omega), N6.kept hk2 (by omega), U6.kept hk2 (by omega), K6.trans (hk2.mono (by omega))⟩
        · gi_wp2_with fail
          exact ⟨hk2.mono (by omega), rfl, hI2, T6.k.trans (hk2.mono (by omega)), K6.trans (hk2.mono (by omega))⟩
      case hdoneU =>
        rintro W' ⟨g1, g2, g3, g4, g5⟩
        rw [eu] at g1
        gi_wp2_with fail
        refine ⟨g5, ?_, g2⟩
        have e : (i * NB + j) * NU + NU = (i * NB + (j + 1)) * NU := by rw [← Nat.add_assoc, Nat.succ_mul]
        rw [← e]; exact g1
      case hstopU =>
        rintro c W' ⟨rfl, g1, g2, g3⟩
        gi_wp2_with fail
        exact ⟨g3, rfl, g1, g2⟩
    case hdoneB =>
      rintro W' ⟨g1, g2⟩
      rw [eb] at g1
      gi_wp2_with fail
      refine ⟨g2.k, ?_, g2.o⟩
      rw [Nat.succ_mul]; exact g1
    case hstopB =>
      rintro c W' ⟨rfl, g1, g2⟩
      gi_wp2_with fail
      exact ⟨g2, rfl, g1⟩
  case hdone =>
    rintro W3 ⟨hj, -⟩ hd
    rw [ea] at hj
    gi_wp2_with fail
    refine ⟨by simp, .inl ⟨_, _, rfl, run_takeDeferred hd, ?_⟩⟩
    exact ⟨_, results_none rfl _ _ _, ⟨_, rfl⟩, .inl (HJ.out _ _ _ hj ((Turned.put _ _ _).below (by omega)))⟩
  case hstop =>
    rintro c W3 ⟨rfl, hj⟩ hd
    gi_wp2_with fail
    refine ⟨by simp, .inl ⟨_, _, rfl, run_takeDeferred hd, ?_⟩⟩
    exact ⟨_, results_none rfl _ _ _, ⟨_, rfl⟩, .inr (HJX.out _ _ hj ((Turned.put _ _ _).below (by omega)))⟩
end Go.Proofs.Ytedblocbcjoolaa
