/- Words about memory, of no program: what lies below a heap's end stays; lists that lie in memory. -/
import Derived.WalkKit
import Derived.WalkSpells
import Derived.WalkLawsBesides
import Derived.BigQuiet
import Derived.Deep.QuietTactic
import Derived.Lib.Hide
namespace Go.Hs
open Go.RowKit

/-- The world has grown: all that lay before lies as it lay. -/
def Ext (w w' : World) : Prop := Below w.heap.size w w'

theorem Ext.refl (w : World) : Ext w w := Below.refl _ _
theorem Ext.trans {a b c : World} (h : Ext a b) (k : Ext b c) : Ext a c := Below.trans h (Below.mono k h.size)
theorem Ext.size {a b : World} (h : Ext a b) : a.heap.size ≤ b.heap.size := Below.size h
theorem Ext.drew {a b : World} (h : Ext a b) : Ext a b.drew := Below.drew h
theorem Ext.alloc {a b : World} (h : Ext a b) (o : Obj) : Ext a (b.alloc o) := Below.alloc h h.size o
theorem Ext.cell {a b : World} (h : Ext a b) {k o : Nat} (hk : k < a.heap.size) : b.cell? ⟨k, o, none⟩ = a.cell? ⟨k, o, none⟩ := Below.cell (p := ⟨k, o, none⟩) h hk
theorem Ext.frozen {a b : World} (h : Ext a b) {k o : Nat} (hk : k < a.heap.size) : b.frozen? ⟨k, o, none⟩ = a.frozen? ⟨k, o, none⟩ := Below.frozen (p := ⟨k, o, none⟩) h hk
theorem Ext.heap {a b : World} (h : Ext a b) {k : Nat} (hk : k < a.heap.size) : b.heap[k]? = a.heap[k]? := Below.block h k hk

theorem lt_of_cell {w : World} {a : Addr} {v : Value} (h : w.cell? a = some v) : a.block < w.heap.size := by
  unfold World.cell? at h
  split at h
  · rename_i hh
    exact (Array.getElem?_eq_some_iff.1 hh).1
  · cases h

theorem Ext.keep {a b : World} (h : Ext a b) {k o : Nat} {v : Value} (hc : a.cell? ⟨k, o, none⟩ = some v) : b.cell? ⟨k, o, none⟩ = some v := by
  rw [h.cell (lt_of_cell (a := ⟨k, o, none⟩) hc)]; exact hc

/-- A list in memory, k cells an element. -/
def Rows {α : Type} (R : World → Nat → Nat → α → Prop) (k : Nat) (w : World) (a : Option Addr) (xs : List α) : Prop :=
  ∀ (i : Nat) (h : i < xs.length), ∃ b off, a = some ⟨b, off, none⟩ ∧ R w b (off + i * k) xs[i]

theorem Rows.at {α : Type} {R : World → Nat → Nat → α → Prop} {k : Nat} {w : World} {b off : Nat} {xs : List α} (h : Rows R k w (some ⟨b, off, none⟩) xs) (i : Nat) (hi : i < xs.length) : R w b (off + i * k) xs[i] := by
  obtain ⟨b', off', he, hr⟩ := h i hi
  cases he; exact hr

theorem Rows.ext {α : Type} {R : World → Nat → Nat → α → Prop} {k : Nat} {w w' : World} {a : Option Addr} {xs : List α} (hR : ∀ b o x, R w b o x → R w' b o x) (h : Rows R k w a xs) : Rows R k w' a xs :=
  fun i hi => let ⟨b, off, he, hr⟩ := h i hi; ⟨b, off, he, hR _ _ _ hr⟩

/-- A slice that reads as a list. -/
def SliceV {α : Type} (R : World → Nat → Nat → α → Prop) (k : Nat) (w : World) (v : Value) (xs : List α) : Prop :=
  ∃ a cap, v = .slice a xs.length cap ∧ xs.length ≤ cap ∧ xs.length ≤ 140737488351232 ∧ Rows R k w a xs

theorem SliceV.ext {α : Type} {R : World → Nat → Nat → α → Prop} {k : Nat} {w w' : World} {v : Value} {xs : List α} (hR : ∀ b o x, R w b o x → R w' b o x) (h : SliceV R k w v xs) : SliceV R k w' v xs :=
  let ⟨a, cap, he, h1, h2, hr⟩ := h; ⟨a, cap, he, h1, h2, hr.ext hR⟩

def IntAt (w : World) (b o : Nat) (x : Int) : Prop := w.cell? ⟨b, o, none⟩ = some (.int .i64 x) ∧ -9223372036854775808 ≤ x ∧ x ≤ 9223372036854775807
theorem IntAt.ext {w w' : World} (h : Ext w w') (b o : Nat) (x : Int) (hi : IntAt w b o x) : IntAt w' b o x := ⟨h.keep hi.1, hi.2⟩

def IntsV : World → Value → List Int → Prop := SliceV IntAt 1
theorem IntsV.ext {w w' : World} {v : Value} {xs : List Int} (h : Ext w w') (k : IntsV w v xs) : IntsV w' v xs := SliceV.ext (IntAt.ext h) k

def IntsAt (w : World) (b o : Nat) (xs : List Int) : Prop := ∃ v, w.cell? ⟨b, o, none⟩ = some v ∧ IntsV w v xs
theorem IntsAt.ext {w w' : World} (h : Ext w w') (b o : Nat) (xs : List Int) (k : IntsAt w b o xs) : IntsAt w' b o xs := let ⟨v, h1, h2⟩ := k; ⟨v, h.keep h1, h2.ext h⟩

def Ints2V : World → Value → List (List Int) → Prop := SliceV IntsAt 1
theorem Ints2V.ext {w w' : World} {v : Value} {xs : List (List Int)} (h : Ext w w') (k : Ints2V w v xs) : Ints2V w' v xs := SliceV.ext (IntsAt.ext h) k
def Ints2At (w : World) (b o : Nat) (xs : List (List Int)) : Prop := ∃ v, w.cell? ⟨b, o, none⟩ = some v ∧ Ints2V w v xs
theorem Ints2At.ext {w w' : World} (h : Ext w w') (b o : Nat) (xs : List (List Int)) (k : Ints2At w b o xs) : Ints2At w' b o xs := let ⟨v, h1, h2⟩ := k; ⟨v, h.keep h1, h2.ext h⟩
def Ints3V : World → Value → List (List (List Int)) → Prop := SliceV Ints2At 1
theorem Ints3V.ext {w w' : World} {v : Value} {xs : List (List (List Int))} (h : Ext w w') (k : Ints3V w v xs) : Ints3V w' v xs := SliceV.ext (Ints2At.ext h) k

/-- A tariff, as the document has it. -/
structure Tar where
  start : Int
  whole : Bool
  least : Int
  weeks : List Int
  counts : List Int
  rates : List (List (List Int))

def i64ok (x : Int) : Prop := -9223372036854775808 ≤ x ∧ x ≤ 9223372036854775807

/-- Six cells' values that read as a tariff. -/
structure TarC (w : World) (c3 c4 c5 : Value) (t : Tar) : Prop where
  f : i64ok t.start
  l : i64ok t.least
  weeks : IntsV w c3 t.weeks
  counts : IntsV w c4 t.counts
  rates : Ints3V w c5 t.rates
theorem TarC.ext {w w' : World} {c3 c4 c5 : Value} {t : Tar} (h : Ext w w') (k : TarC w c3 c4 c5 t) : TarC w' c3 c4 c5 t := ⟨k.f, k.l, k.weeks.ext h, k.counts.ext h, k.rates.ext h⟩

def TarAt (w : World) (b o : Nat) (t : Tar) : Prop := ∃ c3 c4 c5,
  w.cell? ⟨b, o, none⟩ = some (.int .i64 t.start) ∧ w.cell? ⟨b, o + 1, none⟩ = some (.bool t.whole) ∧ w.cell? ⟨b, o + 2, none⟩ = some (.int .i64 t.least) ∧
  w.cell? ⟨b, o + 3, none⟩ = some c3 ∧ w.cell? ⟨b, o + 4, none⟩ = some c4 ∧ w.cell? ⟨b, o + 5, none⟩ = some c5 ∧ TarC w c3 c4 c5 t
theorem TarAt.ext {w w' : World} (h : Ext w w') (b o : Nat) (t : Tar) (k : TarAt w b o t) : TarAt w' b o t := by
  obtain ⟨c3, c4, c5, h0, h1, h2, h3, h4, h5, hc⟩ := k
  exact ⟨c3, c4, c5, h.keep h0, h.keep h1, h.keep h2, h.keep h3, h.keep h4, h.keep h5, hc.ext h⟩
def TarsV : World → Value → List Tar → Prop := SliceV TarAt 6
theorem TarsV.ext {w w' : World} {v : Value} {xs : List Tar} (h : Ext w w') (k : TarsV w v xs) : TarsV w' v xs := SliceV.ext (TarAt.ext h) k

end Go.Hs
namespace Go.Hs
open Go.RowKit
def inR (n lo hi : Int) : Bool := decide (lo ≤ n) && decide (n ≤ hi)

/-- The cells of a slice whose elements have one cell each. -/
def Cells1 (w : World) (a : Option Addr) (us : List Value) : Prop := ∀ (i : Nat) (h : i < us.length), ∃ b off, a = some ⟨b, off, none⟩ ∧ w.cell? ⟨b, off + i, none⟩ = some us[i]

/-- What a search by a function leaves: the first index whose answer is true, or -1. -/
def IdxPost (n : Nat) (p : Nat → Bool) (I : Nat → World → Prop) (e : Ending) (w : World) : Prop :=
  (∃ i, i < n ∧ p i = true ∧ (∀ m, m < i → p m = false) ∧ e = .returned (.int .i64 i) ∧ I (i + 1) w) ∨ ((∀ m, m < n → p m = false) ∧ e = .returned (.int .i64 (-1)) ∧ I n w)
end Go.Hs
namespace Go.Hs
open Go.RowKit
structure V6 where
  c0 : Value
  c1 : Value
  c2 : Value
  c3 : Value
  c4 : Value
  c5 : Value
abbrev V6.val (x : V6) : Value := .agg #[x.c0, x.c1, x.c2, x.c3, x.c4, x.c5]
def Cell6 (w : World) (b o : Nat) (x : V6) : Prop :=
  w.cell? ⟨b, o, none⟩ = some x.c0 ∧ w.cell? ⟨b, o + 1, none⟩ = some x.c1 ∧ w.cell? ⟨b, o + 2, none⟩ = some x.c2 ∧
  w.cell? ⟨b, o + 3, none⟩ = some x.c3 ∧ w.cell? ⟨b, o + 4, none⟩ = some x.c4 ∧ w.cell? ⟨b, o + 5, none⟩ = some x.c5
theorem Cell6.ext {w w' : World} (h : Ext w w') (b o : Nat) (x : V6) (k : Cell6 w b o x) : Cell6 w' b o x :=
  ⟨h.keep k.1, h.keep k.2.1, h.keep k.2.2.1, h.keep k.2.2.2.1, h.keep k.2.2.2.2.1, h.keep k.2.2.2.2.2⟩
/-- The cells of a slice whose elements have six cells each. -/
def Cells6 (w : World) (a : Option Addr) (us : List V6) : Prop := ∀ (i : Nat) (h : i < us.length), ∃ b off, a = some ⟨b, off, none⟩ ∧ Cell6 w b (off + i * 6) us[i]
end Go.Hs

namespace Go.Hs
open Go.RowKit
def anyB (n : Nat) (p : Nat → Bool) : Bool := (List.range n).any p
def allB (n : Nat) (p : Nat → Bool) : Bool := (List.range n).all p
theorem allB_iff {n : Nat} {p : Nat → Bool} : allB n p = true ↔ ∀ i, i < n → p i = true := by simp [allB]
theorem anyB_iff {n : Nat} {p : Nat → Bool} : anyB n p = true ↔ ∃ i, i < n ∧ p i = true := by simp [anyB]

def ContPost (n : Nat) (p : Nat → Bool) (I : Nat → World → Prop) (e : Ending) (w : World) : Prop :=
  ∃ i, i ≤ n ∧ I i w ∧ e = .returned (.bool (anyB n p))
theorem ContPost.yes {n : Nat} {p : Nat → Bool} {I : Nat → World → Prop} {e : Ending} {w : World} {i : Nat} (h1 : i < n) (h2 : p i = true) (he : e = .returned (.bool true)) (h : I (i + 1) w) : ContPost n p I e w :=
  ⟨i + 1, h1, h, by rw [he, anyB_iff.2 ⟨i, h1, h2⟩]⟩
theorem ContPost.no {n : Nat} {p : Nat → Bool} {I : Nat → World → Prop} {e : Ending} {w : World} (h2 : ∀ m, m < n → p m = false) (he : e = .returned (.bool false)) (h : I n w) : ContPost n p I e w :=
  ⟨n, Nat.le_refl _, h, by
    have : anyB n p = false := by
      rw [← Bool.not_eq_true, anyB_iff]
      rintro ⟨i, hi, hp⟩
      rw [h2 i hi] at hp; cases hp
    rw [he, this]⟩

/-- Blocks from B on are kept. -/
def Kept (B : Nat) (w1 w2 : World) : Prop := w1.heap.size ≤ w2.heap.size ∧ ∀ k, B ≤ k → k < w1.heap.size → w2.heap[k]? = w1.heap[k]?
theorem Ext.kept {w1 w2 : World} (h : Ext w1 w2) (B : Nat) : Kept B w1 w2 := ⟨h.size, fun _ _ hk => h.heap hk⟩
theorem Kept.trans {B : Nat} {w1 w2 w3 : World} (h : Kept B w1 w2) (k : Kept B w2 w3) : Kept B w1 w3 :=
  ⟨Nat.le_trans h.1 k.1, fun i hB hi => (k.2 i hB (Nat.lt_of_lt_of_le hi h.1)).trans (h.2 i hB hi)⟩
theorem Kept.cell {B : Nat} {w1 w2 : World} (h : Kept B w1 w2) {b o : Nat} {v : Value} (hB : B ≤ b) (hc : w1.cell? ⟨b, o, none⟩ = some v) : w2.cell? ⟨b, o, none⟩ = some v := by
  rw [World.cell?_of_block (w := w1) (h.2 b hB (lt_of_cell (a := ⟨b, o, none⟩) hc))]; exact hc

structure AllInv (w0 : World) (fv : Value) (I : Nat → World → Prop) (i : Nat) (w : World) : Prop where
  cell : w.cell? ⟨w0.heap.size, 0, none⟩ = some fv
  size : w0.heap.size < w.heap.size
  inv : I i w
theorem AllInv.next {w0 : World} {fv : Value} {I : Nat → World → Prop} {i : Nat} {w1 w2 w3 : World} (h : AllInv w0 fv I i w1) (hx : Ext w1 w2) (hi : I (i + 1) w3) (hk : Kept w0.heap.size w2 w3) : AllInv w0 fv I (i + 1) w3 :=
  ⟨hk.cell (Nat.le_refl _) (hx.keep h.cell), Nat.lt_of_lt_of_le h.size (Nat.le_trans hx.size hk.1), hi⟩

def AllPost (n : Nat) (q : Nat → Bool) (I : Nat → World → Prop) (e : Ending) (w : World) : Prop :=
  ∃ i, i ≤ n ∧ I i w ∧ e = .returned (.bool (allB n q))
end Go.Hs
namespace Go.Hs
open Go.RowKit
def prevOf (xs : List Int) (i : Nat) : Int := if i = 0 then -1 else xs.getD (i - 1) 0
def risesB (xs : List Int) (most : Int) : Bool := decide (0 < xs.length) && (xs.getD 0 1 == 0) && allB xs.length (fun i => inR (xs.getD i 0) (wrap64 (prevOf xs i + 1)) most)
def fewB (t : Tar) : Bool := decide (t.weeks.length ≤ 4) && decide (t.counts.length ≤ 5) && decide (t.rates.length ≤ 3)

/-- What a slice's reading gives: the values of its cells. -/
theorem SliceV.values {α : Type} {R : World → Nat → Nat → α → Prop} {S : World → Value → α → Prop} {w : World} {a : Option Addr} {xs : List α}
    (hRS : ∀ b o x, R w b o x → ∃ v, w.cell? ⟨b, o, none⟩ = some v ∧ S w v x) (h : Rows R 1 w a xs) :
    ∃ us : List Value, us.length = xs.length ∧ Cells1 w a us ∧ ∀ i (h1 : i < us.length) (h2 : i < xs.length), S w us[i] xs[i] := by
  have hex : ∀ i : Nat, ∃ u : Value, ∀ h2 : i < xs.length, (∃ b off, a = some ⟨b, off, none⟩ ∧ w.cell? ⟨b, off + i, none⟩ = some u) ∧ S w u xs[i] := by
    intro i
    by_cases h2 : i < xs.length
    · obtain ⟨b, off, he, hr⟩ := h i h2
      obtain ⟨v, hv, hs⟩ := hRS _ _ _ hr
      exact ⟨v, fun _ => ⟨⟨b, off, he, by simpa using hv⟩, hs⟩⟩
    · exact ⟨undef, fun h => absurd h h2⟩
  refine ⟨(List.range xs.length).map (fun i => Classical.choose (hex i)), by simp, ?_, ?_⟩
  · intro i hi
    simp at hi
    have := (Classical.choose_spec (hex i) hi).1
    obtain ⟨b, off, he, hc⟩ := this
    exact ⟨b, off, he, by simpa using hc⟩
  · intro i h1 h2
    have := (Classical.choose_spec (hex i) h2).2
    simpa using this

theorem IntsV.cells {w : World} {v : Value} {xs : List Int} (h : IntsV w v xs) : ∃ a c, v = .slice a xs.length c ∧ xs.length ≤ c ∧ xs.length ≤ 140737488351232 ∧ Cells1 w a (xs.map (.int .i64)) ∧ (∀ x ∈ xs, i64ok x) := by
  obtain ⟨a, c, he, h1, h2, hr⟩ := h
  refine ⟨a, c, he, h1, h2, ?_, ?_⟩
  · intro i hi
    simp at hi
    obtain ⟨b, off, he, hc⟩ := hr i hi
    exact ⟨b, off, he, by simpa using hc.1⟩
  · intro x hx
    obtain ⟨i, hi, rfl⟩ := List.getElem_of_mem hx
    obtain ⟨b, off, he, hc⟩ := hr i hi
    exact hc.2

theorem Ints2V.cells {w : World} {v : Value} {xs : List (List Int)} (h : Ints2V w v xs) : ∃ a c us, v = .slice a us.length c ∧ us.length = xs.length ∧ us.length ≤ c ∧ us.length ≤ 140737488351232 ∧ Cells1 w a us ∧ ∀ i (h1 : i < us.length) (h2 : i < xs.length), IntsV w us[i] xs[i] := by
  obtain ⟨a, c, he, h1, h2, hr⟩ := h
  obtain ⟨us, hl, hc, hs⟩ := SliceV.values (S := IntsV) (fun b o x h => h) hr
  exact ⟨a, c, us, by rw [hl]; exact he, hl, by omega, by omega, hc, hs⟩

theorem Ints3V.cells {w : World} {v : Value} {xs : List (List (List Int))} (h : Ints3V w v xs) : ∃ a c us, v = .slice a us.length c ∧ us.length = xs.length ∧ us.length ≤ c ∧ us.length ≤ 140737488351232 ∧ Cells1 w a us ∧ ∀ i (h1 : i < us.length) (h2 : i < xs.length), Ints2V w us[i] xs[i] := by
  obtain ⟨a, c, he, h1, h2, hr⟩ := h
  obtain ⟨us, hl, hc, hs⟩ := SliceV.values (S := Ints2V) (fun b o x h => h) hr
  exact ⟨a, c, us, by rw [hl]; exact he, hl, by omega, by omega, hc, hs⟩

/-- Six values that read as a tariff. -/
def TarU (w : World) (u : V6) (t : Tar) : Prop := u.c0 = .int .i64 t.start ∧ u.c1 = .bool t.whole ∧ u.c2 = .int .i64 t.least ∧ TarC w u.c3 u.c4 u.c5 t
theorem TarU.ext {w w' : World} {u : V6} {t : Tar} (h : Ext w w') (k : TarU w u t) : TarU w' u t := ⟨k.1, k.2.1, k.2.2.1, k.2.2.2.ext h⟩

theorem TarsV.cells {w : World} {v : Value} {xs : List Tar} (h : TarsV w v xs) : ∃ a c us, v = .slice a us.length c ∧ us.length = xs.length ∧ us.length ≤ c ∧ us.length ≤ 140737488351232 ∧ Cells6 w a us ∧ ∀ i (h1 : i < us.length) (h2 : i < xs.length), TarU w us[i] xs[i] := by
  obtain ⟨a, c, he, h1, h2, hr⟩ := h
  have hex : ∀ i : Nat, ∃ u : V6, ∀ h2 : i < xs.length, (∃ b off, a = some ⟨b, off, none⟩ ∧ Cell6 w b (off + i * 6) u) ∧ TarU w u xs[i] := by
    intro i
    by_cases h2 : i < xs.length
    · obtain ⟨b, off, he, c3, c4, c5, g0, g1, g2, g3, g4, g5, gt⟩ := hr i h2
      exact ⟨⟨_, _, _, c3, c4, c5⟩, fun _ => ⟨⟨b, off, he, g0, g1, g2, g3, g4, g5⟩, rfl, rfl, rfl, gt⟩⟩
    · exact ⟨⟨undef, undef, undef, undef, undef, undef⟩, fun h => absurd h h2⟩
  refine ⟨a, c, (List.range xs.length).map (fun i => Classical.choose (hex i)), by simpa using he, by simp, by simpa using h1, by simpa using h2, ?_, ?_⟩
  · intro i hi
    simp at hi
    obtain ⟨b, off, he, hc⟩ := (Classical.choose_spec (hex i) hi).1
    exact ⟨b, off, he, by simpa using hc⟩
  · intro i h1 h2
    have := (Classical.choose_spec (hex i) h2).2
    simpa using this

theorem Cells1.ext {w w' : World} {a : Option Addr} {us : List Value} (h : Ext w w') (k : Cells1 w a us) : Cells1 w' a us := fun i hi => let ⟨b, o, he, hc⟩ := k i hi; ⟨b, o, he, h.keep hc⟩
theorem Cells6.ext {w w' : World} {a : Option Addr} {us : List V6} (h : Ext w w') (k : Cells6 w a us) : Cells6 w' a us := fun i hi => let ⟨b, o, he, hc⟩ := k i hi; ⟨b, o, he, hc.ext h⟩
end Go.Hs
