/- Words: a box of two numbers that a drawn region makes; what the program's questions return. -/
import Derived.Test.YtfjecbfcnngacaaBK
import Derived.Test.YtfjecbfcnngacaaBE
import Derived.Test.YtfjecbfcnngacaaBC
import Derived.Test.YtfjecbfcnngacaaAG
import Derived.Test.YtfjecbfcnngacaaOC
import Derived.Deep.CutRange
namespace Go.Proofs.Ytfjecbfcnngacaa
open Go.RowKit Go.Hs
attribute [local irreducible] World.setCell World.alloc

/-- A box of two zeros. -/
structure ZB (w : World) (T : Nat) : Prop where
  z0 : w.cell? ⟨T, 0, none⟩ = some (.int .i64 0)
  z1 : w.cell? ⟨T, 1, none⟩ = some (.int .i64 0)
  f0 : w.frozen? ⟨T, 0, none⟩ = false
  f1 : w.frozen? ⟨T, 1, none⟩ = false
theorem ZB.new {W w : World} {t : TypeId} (h : Ext (W.alloc (.cells #[.int .i64 0, .int .i64 0] t)) w) : ZB w W.heap.size :=
  ⟨h.keep (by simp), h.keep (by simp), (h.frozen (by simp)).trans (by simp), (h.frozen (by simp)).trans (by simp)⟩
theorem ZB.newd {W w : World} {t : TypeId} (h : Ext (W.alloc (.cells #[.int .i64 0, .int .i64 0] t)).drew w) : ZB w W.heap.size :=
  ZB.new (W := W) (t := t) ((Ext.refl _).drew.trans h)
theorem ZB.keep {w w' : World} {T : Nat} (z : ZB w T) (h : Ext w w') : ZB w' T :=
  have l := lt_of_cell z.z0
  ⟨h.keep z.z0, h.keep z.z1, (h.frozen l).trans z.f0, (h.frozen l).trans z.f1⟩
/-- A box of two numbers, made since a world. -/
structure BoxI (W : World) (T : Nat) (a b : Int) (w : World) : Prop where
  b0 : w.cell? ⟨T, 0, none⟩ = some (.int .i64 a)
  b1 : w.cell? ⟨T, 1, none⟩ = some (.int .i64 b)
  ext : Ext W w
  ge : W.heap.size ≤ T
theorem BoxI.stored {W w : World} {T : Nat} {a b : Int} (z : ZB w T) (h : Ext W w) (hT : W.heap.size ≤ T) : BoxI W T a b ((w.setCell ⟨T, 0, none⟩ (.int .i64 a)).setCell ⟨T, 1, none⟩ (.int .i64 b)) :=
  ⟨set_off (by omega) (set_same z.z0), set_same (set_off (by omega) z.z1), (h.setCell hT _).setCell hT _, hT⟩
theorem BoxI.made {W w : World} (h : Ext W w) (a b : Int) (t : TypeId) : BoxI W w.heap.size a b (w.alloc (.cells #[.int .i64 a, .int .i64 b] t)) :=
  ⟨by simp, by simp, h.alloc _, h.size⟩

def bLo (l : List Tar) (c : Cla) : Int := if askS1 l c = 0 then (endsS l c).lo else 0
def bHi (l : List Tar) (c : Cla) : Int := if askS1 l c = 0 then (endsS l c).hi else 0
def sD (l : List Tar) (c : Cla) (high : Bool) : Int := if askS1 l c = 0 then (if high then (endsS l c).hd else (endsS l c).ld) else 0
def sN (l : List Tar) (c : Cla) (high : Bool) : Int := if askS1 l c = 0 then (if high then (endsS l c).hn else (endsS l c).ln) else 0
def vD (l : List Tar) (c : Cla) : Int := if askS1 l c = 0 then verdictS (endsS l c).lo (endsS l c).hi else 0
theorem boundsR_eq (l : List Tar) (c : Cla) : boundsR l c = .tuple #[.agg #[.int .i64 (bLo l c), .int .i64 (bHi l c)], .int .i64 (askS1 l c)] := by
  unfold boundsR bLo bHi
  rw [askS_one]
  by_cases h : askS1 l c = 0
  · rw [if_pos h, if_pos h, if_pos h, h]
  · rw [if_neg h, if_neg h, if_neg h]
theorem showR_eq (l : List Tar) (c : Cla) (high : Bool) : showR l c high = .tuple #[.agg #[.int .i64 (sD l c high), .int .i64 (sN l c high)], .int .i64 (askS1 l c)] := by
  unfold showR sD sN
  rw [askS_one]
  by_cases h : askS1 l c = 0
  · rw [if_pos h, if_pos h, if_pos h, h]
  · rw [if_neg h, if_neg h, if_neg h]
theorem paidR_eq (l : List Tar) (c : Cla) : paidR l c = .tuple #[.int .i64 (vD l c), .int .i64 (askS1 l c)] := by
  unfold paidR vD
  rw [askS_one]
  by_cases h : askS1 l c = 0
  · rw [if_pos h, if_pos h, h]
  · rw [if_neg h, if_neg h]
theorem foldE_order (f : Int → Int → Int) (l : List (Int × Int)) (hf : ∀ t, t ∈ l → 0 ≤ f t.1 t.2) : (foldE f l).first = true ∨ (0 ≤ (foldE f l).lo ∧ (foldE f l).lo ≤ (foldE f l).hi) := by
  suffices h : ∀ r : List (Int × Int), (∀ t, t ∈ r → 0 ≤ f t.1 t.2) → (foldE f r.reverse).first = true ∨ (0 ≤ (foldE f r.reverse).lo ∧ (foldE f r.reverse).lo ≤ (foldE f r.reverse).hi) by
    have := h l.reverse (fun t ht => hf t (by simpa using ht))
    simpa using this
  intro r
  induction r with
  | nil => intro _; exact .inl rfl
  | cons x r ih =>
    intro hr
    have hx := hr x (by simp)
    have hi := ih (fun t ht => hr t (by simp [ht]))
    rw [List.reverse_cons, foldE_snoc]
    right
    generalize foldE f r.reverse = s at *
    unfold ES.next ES.low ES.high
    simp only
    rcases hi with h | ⟨h1, h2⟩
    · rw [h]; simp; exact hx
    · cases s.first with
      | true => simp; exact hx
      | false =>
        simp only [Bool.false_or, decide_eq_true_eq]
        split <;> split <;> omega
theorem seqTo_mem {dlo clo : Int} {C d n : Nat} {t : Int × Int} (h : t ∈ seqTo dlo clo C d n) : dlo ≤ t.1 ∧ clo ≤ t.2 ∧ (t.1 < dlo + d ∧ t.2 < clo + C ∨ t.1 = dlo + d ∧ t.2 < clo + n) := by
  unfold seqTo at h
  simp only [List.mem_append, List.mem_flatMap, List.mem_map, List.mem_range] at h
  rcases h with ⟨i, hi, j, hj, rfl⟩ | ⟨j, hj, rfl⟩
  · exact ⟨by simp only; omega, by simp only; omega, .inl ⟨by simp only; omega, by simp only; omega⟩⟩
  · exact ⟨by simp only; omega, by simp only; omega, .inr ⟨rfl, by simp only; omega⟩⟩
theorem ends_order {l : List Tar} {c : Cla} (hl : ValidL l) (hc : ClaimOK l c) : 0 ≤ (endsS l c).lo ∧ (endsS l c).lo ≤ (endsS l c).hi := by
  have h1 := hc.day
  have h2 := hc.count
  have h := foldE_order (payS l c) (seqTo c.dlo c.clo (sizeOfR c.clo c.chi) (sizeOfR c.dlo c.dhi) 0) (fun t ht => by
    obtain ⟨g1, g2, g3⟩ := seqTo_mem ht
    unfold sizeOfR at g3
    exact (payS_bd hl hc (by omega) (by omega) (by omega)).1)
  rcases h with h | h
  · have := ends_first hc
    unfold endsS endsTo at this
    rw [h] at this; cases this
  · exact h
theorem BoundsQ_any (v : Value) (l : List Tar) (c : Cla) (w : World) (hv : TarsV w v l) :
    Calls Try.prog 27 #[v, c.u.val] w fun e w' => e = .returned (.tuple #[.agg #[.int .i64 (bLo l c), .int .i64 (bHi l c)], .int .i64 (askS1 l c)]) ∧ Ext w w' := by
  rw [← boundsR_eq]; exact Bounds_any v l c w hv
theorem ShowQ_any (v : Value) (l : List Tar) (c : Cla) (high : Bool) (w : World) (hv : TarsV w v l) :
    Calls Try.prog 29 #[v, c.u.val, .bool high] w fun e w' => e = .returned (.tuple #[.agg #[.int .i64 (sD l c high), .int .i64 (sN l c high)], .int .i64 (askS1 l c)]) ∧ Ext w w' := by
  rw [← showR_eq]; exact Show_any v l c high w hv
theorem PaidQ_any (v : Value) (l : List Tar) (c : Cla) (w : World) (hv : TarsV w v l) :
    Calls Try.prog 30 #[v, c.u.val] w fun e w' => e = .returned (.tuple #[.int .i64 (vD l c), .int .i64 (askS1 l c)]) ∧ Ext w w' := by
  rw [← paidR_eq]; exact Paid_any v l c w hv
end Go.Proofs.Ytfjecbfcnngacaa
