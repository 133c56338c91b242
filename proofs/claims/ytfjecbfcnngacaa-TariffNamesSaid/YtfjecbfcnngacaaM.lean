/- The plain words of layer 5: what is valid, and what is paid. -/
import Derived.Test.YtfjecbfcnngacaaL
namespace Go.Hs
open Go.RowKit
def rowB (m : Nat) (x : List Int) : Bool := decide (x.length = m) && allB x.length (fun i => inR (x.getD i 0) 0 100)
def cropB (t : Tar) (l : List (List Int)) : Bool := decide (l.length = t.weeks.length) && allB l.length (fun i => rowB t.counts.length (l.getD i []))
def validB (t : Tar) : Bool := inR t.start 0 120 && inR t.least 0 100 && risesB t.weeks 120 && decide (1 < t.counts.length) && risesB t.counts 100 && (t.counts.getD (t.counts.length - 1) 0 == 100) && decide (0 < t.rates.length) && allB t.rates.length (fun i => cropB t (t.rates.getD i []))
end Go.Hs
namespace Go.Hs
instance : Inhabited Tar := ⟨⟨0, false, 0, [], [], []⟩⟩
/-- The tariffs follow each other. -/
def chainB (l : List Tar) : Bool := allB (l.length - 1) (fun i => decide ((l.getD i default).start < (l.getD (i + 1) default).start) && decide ((l.getD (i + 1) default).rates.length = (l.getD 0 default).rates.length))
def checkS (l : List Tar) : Int :=
  if 3 < l.length ∨ allB l.length (fun i => fewB (l.getD i default)) = false then 3
  else if l.length = 0 ∨ (l.getD 0 default).start ≠ 0 ∨ allB l.length (fun i => validB (l.getD i default)) = false then 1
  else if chainB l = false then 1 else 0
end Go.Hs
namespace Go.Hs
open Go.RowKit
theorem Cells6.at {w : World} {b off : Nat} {us : List V6} (h : Cells6 w (some ⟨b, off, none⟩) us) (i : Nat) (hi : i < us.length) : Cell6 w b (off + i * 6) us[i] := by
  obtain ⟨b', off', he, hr⟩ := h i hi
  cases he; exact hr
theorem Cells1.at {w : World} {b off : Nat} {us : List Value} (h : Cells1 w (some ⟨b, off, none⟩) us) (i : Nat) (hi : i < us.length) : w.cell? ⟨b, off + i, none⟩ = some us[i] := by
  obtain ⟨b', off', he, hr⟩ := h i hi
  cases he; exact hr
def linkB (l : List Tar) (i : Nat) : Bool := decide ((l.getD i default).start < (l.getD (i + 1) default).start) && decide ((l.getD (i + 1) default).rates.length = (l.getD 0 default).rates.length)
theorem chainB_link (l : List Tar) : chainB l = allB (l.length - 1) (linkB l) := rfl
theorem chainB_no {l : List Tar} {k : Nat} (h : k < l.length - 1) (hk : linkB l k = false) : chainB l = false := by
  rw [chainB_link, ← Bool.not_eq_true, allB_iff]
  intro h'
  rw [h' k h] at hk; cases hk
end Go.Hs
namespace Go.Hs
open Go.RowKit
theorem SliceV.rows {α : Type} {R : World → Nat → Nat → α → Prop} {k : Nat} {w : World} {a : Option Addr} {n c : Nat} {xs : List α} (h : SliceV R k w (.slice a n c) xs) : Rows R k w a xs := by
  obtain ⟨a', c', he, -, -, hr⟩ := h
  cases he; exact hr
theorem TarAt.open {w : World} {b o : Nat} {t : Tar} (h : TarAt w b o t) : ∃ a3 k3 a4 k4 a5 k5,
    w.cell? ⟨b, o, none⟩ = some (.int .i64 t.start) ∧ w.cell? ⟨b, o + 1, none⟩ = some (.bool t.whole) ∧ w.cell? ⟨b, o + 2, none⟩ = some (.int .i64 t.least) ∧
    w.cell? ⟨b, o + 3, none⟩ = some (.slice a3 t.weeks.length k3) ∧ w.cell? ⟨b, o + 4, none⟩ = some (.slice a4 t.counts.length k4) ∧ w.cell? ⟨b, o + 5, none⟩ = some (.slice a5 t.rates.length k5) ∧
    TarC w (.slice a3 t.weeks.length k3) (.slice a4 t.counts.length k4) (.slice a5 t.rates.length k5) t := by
  obtain ⟨c3, c4, c5, h0, h1, h2, h3, h4, h5, hc⟩ := h
  have hc' := hc
  obtain ⟨-, -, ⟨a3, k3, rfl, -⟩, ⟨a4, k4, rfl, -⟩, ⟨a5, k5, rfl, -⟩⟩ := hc'
  exact ⟨a3, k3, a4, k4, a5, k5, h0, h1, h2, h3, h4, h5, hc⟩
theorem SliceV.len_le {α : Type} {R : World → Nat → Nat → α → Prop} {k : Nat} {w : World} {a : Option Addr} {n c : Nat} {xs : List α} (h : SliceV R k w (.slice a n c) xs) : xs.length ≤ c ∧ xs.length ≤ 140737488351232 := by
  obtain ⟨a', c', he, h1, h2, hr⟩ := h
  cases he; exact ⟨h1, h2⟩
end Go.Hs
namespace Go.Hs
open Go.RowKit
theorem Ext.drewN {a b : World} (h : Ext a b) (n : Nat) : Ext a (b.drewN n) := ⟨h.os, h.tape, h.output, h.size, h.block⟩
theorem upTo_next {p : Nat → Prop} {k : Nat} (h : ∀ m, m < k → p m) (hk : p k) : ∀ m, m < k + 1 → p m := fun m hm => by
  by_cases e : m = k
  · subst e; exact hk
  · exact h m (by omega)
end Go.Hs
namespace Go.Hs
open Go.RowKit
/-- The tariff of a day: the last one that has begun. -/
def atS (l : List Tar) (day : Int) : Tar := l.foldl (fun t x => if x.start ≤ day then x else t) default
theorem atS_take {l : List Tar} {k : Nat} (h : k < l.length) (day : Int) : atS (l.take (k + 1)) day = if l[k].start ≤ day then l[k] else atS (l.take k) day := by
  unfold atS
  rw [List.take_succ_eq_append_getElem h, List.foldl_append]; rfl
/-- The week on a day: the last index whose number is at most the day. -/
def weekS (l : List Int) (day : Int) : Nat := (List.range l.length).foldl (fun r i => if l.getD i 0 ≤ day then i else r) 0
def weekTo (l : List Int) (day : Int) (k : Nat) : Nat := (List.range k).foldl (fun r i => if l.getD i 0 ≤ day then i else r) 0
theorem weekTo_succ (l : List Int) (day : Int) (k : Nat) : weekTo l day (k + 1) = if l.getD k 0 ≤ day then k else weekTo l day k := by
  unfold weekTo
  rw [List.range_succ, List.foldl_append]; rfl
theorem weekTo_le (l : List Int) (day : Int) (k : Nat) : weekTo l day k ≤ k := by
  induction k with
  | zero => simp [weekTo]
  | succ k ih => rw [weekTo_succ]; split <;> omega

/-- Six cells are stored. -/
def World.set6 (w : World) (R : Nat) (u : V6) : World := (((((w.setCell ⟨R, 0, none⟩ u.c0).setCell ⟨R, 1, none⟩ u.c1).setCell ⟨R, 2, none⟩ u.c2).setCell ⟨R, 3, none⟩ u.c3).setCell ⟨R, 4, none⟩ u.c4).setCell ⟨R, 5, none⟩ u.c5
theorem set6_cell {w : World} {R : Nat} {x u : V6} (h : Cell6 w R 0 x) : Cell6 (World.set6 w R u) R 0 u := by
  obtain ⟨h0, h1, h2, h3, h4, h5⟩ := h
  simp only [Nat.zero_add] at *
  unfold World.set6
  have n : ∀ i j : Nat, i ≠ j → (⟨R, i, none⟩ : Addr) ≠ ⟨R, j, none⟩ := fun i j hij e => hij (by cases e; rfl)
  refine ⟨?_, ?_, ?_, ?_, ?_, ?_⟩
  all_goals try simp only [Nat.zero_add]
  · rw [World.cell?_setCell_other (h := n _ _ (by decide)), World.cell?_setCell_other (h := n _ _ (by decide)), World.cell?_setCell_other (h := n _ _ (by decide)), World.cell?_setCell_other (h := n _ _ (by decide)), World.cell?_setCell_other (h := n _ _ (by decide)), World.cell?_setCell_same (h := h0)]
  · rw [World.cell?_setCell_other (h := n _ _ (by decide)), World.cell?_setCell_other (h := n _ _ (by decide)), World.cell?_setCell_other (h := n _ _ (by decide)), World.cell?_setCell_other (h := n _ _ (by decide)), World.cell?_setCell_same (u := x.c1)]
    rw [World.cell?_setCell_other (h := n _ _ (by decide))]; exact h1
  · rw [World.cell?_setCell_other (h := n _ _ (by decide)), World.cell?_setCell_other (h := n _ _ (by decide)), World.cell?_setCell_other (h := n _ _ (by decide)), World.cell?_setCell_same (u := x.c2)]
    rw [World.cell?_setCell_other (h := n _ _ (by decide)), World.cell?_setCell_other (h := n _ _ (by decide))]; exact h2
  · rw [World.cell?_setCell_other (h := n _ _ (by decide)), World.cell?_setCell_other (h := n _ _ (by decide)), World.cell?_setCell_same (u := x.c3)]
    rw [World.cell?_setCell_other (h := n _ _ (by decide)), World.cell?_setCell_other (h := n _ _ (by decide)), World.cell?_setCell_other (h := n _ _ (by decide))]; exact h3
  · rw [World.cell?_setCell_other (h := n _ _ (by decide)), World.cell?_setCell_same (u := x.c4)]
    rw [World.cell?_setCell_other (h := n _ _ (by decide)), World.cell?_setCell_other (h := n _ _ (by decide)), World.cell?_setCell_other (h := n _ _ (by decide)), World.cell?_setCell_other (h := n _ _ (by decide))]; exact h4
  · rw [World.cell?_setCell_same (u := x.c5)]
    rw [World.cell?_setCell_other (h := n _ _ (by decide)), World.cell?_setCell_other (h := n _ _ (by decide)), World.cell?_setCell_other (h := n _ _ (by decide)), World.cell?_setCell_other (h := n _ _ (by decide)), World.cell?_setCell_other (h := n _ _ (by decide))]; exact h5
theorem Ext.setCell {w0 w : World} (h : Ext w0 w) {R o : Nat} (hR : w0.heap.size ≤ R) (v : Value) : Ext w0 (w.setCell ⟨R, o, none⟩ v) := Below.setCell (p := ⟨R, o, none⟩) h hR v
theorem Ext.set6 {w0 w : World} (h : Ext w0 w) {R : Nat} (hR : w0.heap.size ≤ R) (u : V6) : Ext w0 (World.set6 w R u) :=
  (((((h.setCell hR _).setCell hR _).setCell hR _).setCell hR _).setCell hR _).setCell hR _
theorem set6_frozen (w : World) (R : Nat) (u : V6) (a : Addr) : (World.set6 w R u).frozen? a = w.frozen? a := by
  unfold World.set6; simp
theorem set6_block (w : World) (R : Nat) (u : V6) (k : Nat) (h : k ≠ R) : (World.set6 w R u).heap[k]? = w.heap[k]? := by
  unfold World.set6
  rw [Below.heap_setCell _ _ _ _ h, Below.heap_setCell _ _ _ _ h, Below.heap_setCell _ _ _ _ h, Below.heap_setCell _ _ _ _ h, Below.heap_setCell _ _ _ _ h, Below.heap_setCell _ _ _ _ h]
end Go.Hs

namespace Go.Hs
open Go.RowKit
/-- The result of 'at' so far, in its box. -/
def AtInv (B : Nat) (wd w0 : World) (t : Tar) (w : World) : Prop := ∃ u : V6, Cell6 w (B + 1) 0 u ∧ TarU wd u t ∧ (∀ o, w.frozen? ⟨B + 1, o, none⟩ = false) ∧ Ext w0 w
theorem IntsV.nil (w : World) : IntsV w (.slice none 0 0) [] := ⟨none, 0, rfl, Nat.le_refl _, by simp, fun i h => absurd h (Nat.not_lt_zero _)⟩
theorem Ints3V.nil (w : World) : Ints3V w (.slice none 0 0) [] := ⟨none, 0, rfl, Nat.le_refl _, by simp, fun i h => absurd h (Nat.not_lt_zero _)⟩
theorem AtInv.start (w : World) : TarU w ⟨.int .i64 0, .bool false, .int .i64 0, .slice none 0 0, .slice none 0 0, .slice none 0 0⟩ (default : Tar) :=
  ⟨rfl, rfl, rfl, ⟨by decide, by decide⟩, ⟨by decide, by decide⟩, IntsV.nil w, IntsV.nil w, Ints3V.nil w⟩
end Go.Hs

namespace Go.Hs
open Go.RowKit
theorem AtInv.step {B : Nat} {wd w0 w : World} {y t : Tar} {u : V6} (h : AtInv B wd w0 y w) (hB : w0.heap.size ≤ B + 1) (hu : TarU wd u t) (o : Obj) : AtInv B wd w0 t ((World.set6 w (B + 1) u).alloc o) := by
  obtain ⟨x, hc, -, hf, hx⟩ := h
  have hx1 : Ext (World.set6 w (B + 1) u) ((World.set6 w (B + 1) u).alloc o) := (Ext.refl _).alloc o
  have hlt : B + 1 < (World.set6 w (B + 1) u).heap.size := lt_of_cell (set6_cell (u := u) hc).1
  exact ⟨u, (set6_cell hc).ext hx1, hu, fun i => by rw [hx1.frozen hlt, set6_frozen]; exact hf i, (hx.set6 hB u).trans hx1⟩
theorem AtInv.same {B : Nat} {wd w0 w : World} {y : Tar} (h : AtInv B wd w0 y w) (o : Obj) : AtInv B wd w0 y (w.alloc o) := by
  obtain ⟨x, hc, hu, hf, hx⟩ := h
  have hx1 : Ext w (w.alloc o) := (Ext.refl _).alloc o
  exact ⟨x, hc.ext hx1, hu, fun i => by rw [hx1.frozen (lt_of_cell hc.1)]; exact hf i, hx.trans hx1⟩
theorem TarU.slices {w : World} {u : V6} {t : Tar} (h : TarU w u t) : ∃ a3 k3 a4 k4 a5 k5, u = ⟨.int .i64 t.start, .bool t.whole, .int .i64 t.least, .slice a3 t.weeks.length k3, .slice a4 t.counts.length k4, .slice a5 t.rates.length k5⟩ := by
  obtain ⟨u0, u1, u2, u3, u4, u5⟩ := u
  obtain ⟨h0, h1, h2, -, -, ⟨a3, k3, h3, -⟩, ⟨a4, k4, h4, -⟩, ⟨a5, k5, h5, -⟩⟩ := h
  simp only at *
  subst h0 h1 h2 h3 h4 h5
  exact ⟨a3, k3, a4, k4, a5, k5, rfl⟩
end Go.Hs
namespace Go.Hs
open Go.RowKit
def Sorted (xs : List Int) : Prop := ∀ a b, a ≤ b → b < xs.length → xs.getD a 0 ≤ xs.getD b 0
/-- What a search by halves leaves: the first index that is not below x, and whether x stands there. -/
def Found (xs : List Int) (x : Int) (i : Nat) : Prop := i ≤ xs.length ∧ (∀ m, m < i → xs.getD m 0 < x) ∧ (∀ m, i ≤ m → m < xs.length → x ≤ xs.getD m 0)
def SearchPost (xs : List Int) (x : Int) (w : World) (e : Ending) (w' : World) : Prop :=
  ∃ i : Nat, Found xs x i ∧ e = .returned (.tuple #[.int .i64 i, .bool (decide (i < xs.length ∧ xs.getD i 0 = x))]) ∧ w = w'
end Go.Hs
namespace Go.Hs
open Go.RowKit
theorem IntsV.slice {w : World} {v : Value} {xs : List Int} (h : IntsV w v xs) : ∃ a c, v = .slice a xs.length c := let ⟨a, c, e, _⟩ := h; ⟨a, c, e⟩
theorem Ints2V.slice {w : World} {v : Value} {xs : List (List Int)} (h : Ints2V w v xs) : ∃ a c, v = .slice a xs.length c := let ⟨a, c, e, _⟩ := h; ⟨a, c, e⟩
/-- An element of a list in memory. -/
theorem IntsV.get {w : World} {a : Option Addr} {n c : Nat} {xs : List Int} (h : IntsV w (.slice a n c) xs) (i : Nat) (hi : i < xs.length) : ∃ b off, a = some ⟨b, off, none⟩ ∧ w.cell? ⟨b, off + i, none⟩ = some (.int .i64 (xs.getD i 0)) := by
  obtain ⟨b, off, he, hc⟩ := SliceV.rows h i hi
  exact ⟨b, off, he, by have := hc.1; simpa [hi] using this⟩
theorem Ints2V.get {w : World} {a : Option Addr} {n c : Nat} {xs : List (List Int)} (h : Ints2V w (.slice a n c) xs) (i : Nat) (hi : i < xs.length) : ∃ b off a1 c1, a = some ⟨b, off, none⟩ ∧ w.cell? ⟨b, off + i, none⟩ = some (.slice a1 (xs.getD i []).length c1) ∧ IntsV w (.slice a1 (xs.getD i []).length c1) (xs.getD i []) := by
  obtain ⟨b, off, he, v, hc, hv⟩ := SliceV.rows h i hi
  obtain ⟨a1, c1, rfl⟩ := hv.slice
  have e : xs[i] = xs.getD i [] := by simp [hi]
  rw [← e]
  exact ⟨b, off, a1, c1, he, by simpa using hc, hv⟩
theorem Ints3V.get {w : World} {a : Option Addr} {n c : Nat} {xs : List (List (List Int))} (h : Ints3V w (.slice a n c) xs) (i : Nat) (hi : i < xs.length) : ∃ b off a1 c1, a = some ⟨b, off, none⟩ ∧ w.cell? ⟨b, off + i, none⟩ = some (.slice a1 (xs.getD i []).length c1) ∧ Ints2V w (.slice a1 (xs.getD i []).length c1) (xs.getD i []) := by
  obtain ⟨b, off, he, v, hc, hv⟩ := SliceV.rows h i hi
  obtain ⟨a1, c1, rfl⟩ := hv.slice
  have e : xs[i] = xs.getD i [] := by simp [hi]
  rw [← e]
  exact ⟨b, off, a1, c1, he, by simpa using hc, hv⟩
theorem IntsV.ok {w : World} {v : Value} {xs : List Int} (h : IntsV w v xs) : ∀ x ∈ xs, i64ok x := by
  obtain ⟨a, c, he, -, -, -, h⟩ := h.cells; exact h
end Go.Hs
namespace Go.Hs
open Go.RowKit
def firstGe (xs : List Int) (x : Int) : Nat := (xs.takeWhile (fun y => decide (y < x))).length
theorem Found.eq {xs : List Int} {x : Int} {i : Nat} (h : Found xs x i) : i = firstGe xs x := by
  obtain ⟨h1, h2, h3⟩ := h
  unfold firstGe
  induction xs generalizing i with
  | nil => simp at h1; simp [h1]
  | cons y r ih =>
    cases i with
    | zero =>
      have := h3 0 (Nat.le_refl _) (by simp)
      simp at this
      rw [List.takeWhile_cons_of_neg (by simpa using this)]; rfl
    | succ i =>
      have := h2 0 (by omega)
      simp at this
      rw [List.takeWhile_cons_of_pos (by simpa using this)]
      have e := ih (i := i) (by simpa using h1) (fun m hm => by have := h2 (m + 1) (by omega); simpa using this) (fun m hm hl => by have := h3 (m + 1) (by omega) (by simpa using hl); simpa using this)
      simp only [List.length_cons]; omega
/-- The counts of a tariff: they rise from 0 to 100. -/
structure CountsOK (xs : List Int) : Prop where
  two : 1 < xs.length
  sorted : Sorted xs
  strict : ∀ a b, a < b → b < xs.length → xs.getD a 0 < xs.getD b 0
  first : xs.getD 0 0 = 0
  last : xs.getD (xs.length - 1) 0 = 100
theorem CountsOK.bound {xs : List Int} (h : CountsOK xs) (i : Nat) (hi : i < xs.length) : 0 ≤ xs.getD i 0 ∧ xs.getD i 0 ≤ 100 := by
  have h1 := h.sorted 0 i (by omega) hi
  have h2 := h.sorted i (xs.length - 1) (by omega) (by omega)
  rw [h.first] at h1; rw [h.last] at h2
  exact ⟨h1, h2⟩
structure RowOK (m : Nat) (row : List Int) : Prop where
  len : row.length = m
  bound : ∀ i, i < row.length → 0 ≤ row.getD i 0 ∧ row.getD i 0 ≤ 100
/-- The loss at a count: by the row of rates. -/
def interp (xs row : List Int) (n : Int) : Int :=
  if xs.getD (firstGe xs n) 0 = n then row.getD (firstGe xs n) 0
  else (row.getD (firstGe xs n - 1) 0 * (xs.getD (firstGe xs n) 0 - n) + row.getD (firstGe xs n) 0 * (n - xs.getD (firstGe xs n - 1) 0)) / (xs.getD (firstGe xs n) 0 - xs.getD (firstGe xs n - 1) 0)
theorem CountsOK.found {xs : List Int} (h : CountsOK xs) {n : Int} (h0 : 0 ≤ n) (h1 : n ≤ 100) {i : Nat} (hi : Found xs n i) : i < xs.length ∧ (xs.getD i 0 ≠ n → 1 ≤ i ∧ xs.getD (i - 1) 0 < n ∧ n < xs.getD i 0) := by
  have h2 := h.two
  have hlt : i < xs.length := by
    rcases Nat.lt_or_ge i xs.length with hl | hl
    · exact hl
    · have e : i = xs.length := by have := hi.1; omega
      have := hi.2.1 (xs.length - 1) (by omega)
      rw [h.last] at this; omega
  refine ⟨hlt, fun hne => ?_⟩
  have hge := hi.2.2 i (Nat.le_refl _) hlt
  have h1i : 1 ≤ i := by
    rcases Nat.eq_zero_or_pos i with e | e
    · subst e; rw [h.first] at hge hne; omega
    · exact e
  exact ⟨h1i, hi.2.1 (i - 1) (by omega), by omega⟩
end Go.Hs
namespace Go.Hs
theorem interp_at {xs row : List Int} {n : Int} {i : Nat} (h : Found xs n i) : interp xs row n = if xs.getD i 0 = n then row.getD i 0
  else (row.getD (i - 1) 0 * (xs.getD i 0 - n) + row.getD i 0 * (n - xs.getD (i - 1) 0)) / (xs.getD i 0 - xs.getD (i - 1) 0) := by
  unfold interp; rw [← h.eq]
end Go.Hs
namespace Go.Hs
open Go.RowKit
theorem prod_bd {a b A B : Int} (h1 : 0 ≤ a) (h2 : a ≤ A) (h3 : 0 ≤ b) (h4 : b ≤ B) : 0 ≤ a * b ∧ a * b ≤ A * B :=
  ⟨Int.mul_nonneg h1 h3, Int.mul_le_mul h2 h4 h3 (Int.le_trans h1 h2)⟩
theorem interp_wrap {rj ri ci cj n : Int} (a1 : 0 ≤ rj) (a2 : rj ≤ 100) (b1 : 0 ≤ ri) (b2 : ri ≤ 100) (c1 : 0 ≤ ci) (c2 : ci ≤ 100) (d1 : 0 ≤ cj) (h1 : cj < n) (h2 : n < ci) :
    wrap64 ((wrap64 (wrap64 (rj * (ci - n)) + wrap64 (ri * (n - cj)))).tdiv (ci - cj)) = (rj * (ci - n) + ri * (n - cj)) / (ci - cj) := by
  have p := prod_bd a1 a2 (b := ci - n) (B := 100) (by omega) (by omega)
  have q := prod_bd b1 b2 (b := n - cj) (B := 100) (by omega) (by omega)
  rw [IntWalk.wrap64_in (rj * (ci - n)) ⟨by omega, by omega⟩, IntWalk.wrap64_in (ri * (n - cj)) ⟨by omega, by omega⟩]
  generalize rj * (ci - n) = x at *
  generalize ri * (n - cj) = y at *
  rw [IntWalk.wrap64_in (x + y) ⟨by omega, by omega⟩, Int.tdiv_eq_ediv_of_nonneg (by omega)]
  have l1 : 0 ≤ (x + y) / (ci - cj) := Int.ediv_nonneg (by omega) (by omega)
  have l2 : (x + y) / (ci - cj) ≤ x + y := Int.ediv_le_self _ (by omega)
  exact IntWalk.wrap64_in _ ⟨by omega, by omega⟩
end Go.Hs
