/- Words of layer 7's law UmpireTurned: fields and counts whose parts are changed one after another. -/
import Derived.Test.YtbmjnilcinfdiaaGreatKXJ
import Derived.Test.YtbmjnilcinfdiaaGreatKXD
import Derived.Test.YtbmjnilcinfdiaaGreatKYM
import Derived.Test.YtbmjnilcinfdiaaGreatKXR
set_option linter.unusedSimpArgs false
set_option linter.unusedVariables false
namespace Go.Hs
open Go.RowKit Go.Proofs.YtbmjnilcinfdiaaGreat
/-- The first fields turned. -/
def turnTo (k : Nat) (l : List Fld) : List Fld := (l.take k).map Fld.turn ++ l.drop k
theorem turnTo_zero (l : List Fld) : turnTo 0 l = l := by simp [turnTo]
theorem turnTo_len (k : Nat) (l : List Fld) : (turnTo k l).length = l.length := by simp [turnTo]; omega
theorem turnTo_all (l : List Fld) : turnTo l.length l = l.map Fld.turn := by simp [turnTo]
theorem turnTo_at {k : Nat} {l : List Fld} (h : k < l.length) (h' : k < (turnTo k l).length) : (turnTo k l)[k] = l[k] := by
  have e : ((l.take k).map Fld.turn).length = k := by simp; omega
  have : (turnTo k l)[k]? = some l[k] := by
    unfold turnTo
    rw [List.getElem?_append_right (by omega), e, Nat.sub_self, List.getElem?_drop]
    simp [h]
  exact (List.getElem?_eq_some_iff.1 this).2
theorem turnTo_next {k : Nat} {l : List Fld} (h : k < l.length) : (turnTo k l).set k (l[k]).turn = turnTo (k + 1) l := by
  have e : ((l.take k).map Fld.turn).length = k := by simp; omega
  unfold turnTo
  rw [List.set_append_right _ _ (by omega), e, Nat.sub_self, List.drop_eq_getElem_cons h, List.set_cons_zero, List.take_succ_eq_append_getElem h, List.map_append]
  simp
theorem KP.join {p q : Nat → Prop} {a b c : World} (h : KP p a b) (k : KP q b c) (hq : ∀ j, q j → p j ∨ a.heap.size ≤ j) : KP p a c :=
  ⟨k.os.trans h.os, k.tape.trans h.tape, k.output.trans h.output, Nat.le_trans h.size k.size, fun i hi hr => (k.block i (Nat.lt_of_lt_of_le hi h.size) (fun e => by
    rcases hq i e with e | e
    · exact hr e
    · omega)).trans (h.block i hi hr)⟩
theorem ThrsV.kp {p : Nat → Prop} {w w' : World} {a : Option Addr} {n q : Nat} {t : List Thr} (h : ThrsV w (.slice a n q) t) (hk : KP p w w') (hp : ∀ g o, a = some ⟨g, o, none⟩ → ¬ p g) : ThrsV w' (.slice a n q) t := by
  obtain ⟨a', c, he, h1, h2, hr⟩ := h
  refine ⟨a', c, he, h1, h2, fun i hi => ?_⟩
  obtain ⟨b, o, hb, hx⟩ := hr i hi
  simp only [Value.slice.injEq] at he
  have := hp b o (he.1.trans hb)
  exact ⟨b, o, hb, hk.keep this hx.1, hk.keep this hx.2.1, hk.keep this hx.2.2⟩
theorem ThrsV.lt {w : World} {b o n q : Nat} {t : List Thr} (h : ThrsV w (.slice (some ⟨b, o, none⟩) n q) t) (h0 : 0 < t.length) : b < w.heap.size := by
  obtain ⟨a', c, he, h1, h2, hr⟩ := h
  obtain ⟨b', o', hb, hx⟩ := hr 0 (by simpa using h0)
  simp only [Value.slice.injEq] at he
  have e := he.1.trans hb
  injection e with e
  injection e with e
  subst e
  exact lt_of_cell hx.1
/-- A field's parts are changed in place. -/
theorem FldsAt.turn {w : World} {g k : Nat} {l : List Fld} {f : Fld} (h : FldsAt w g l) (hk : k < l.length) (hf : l[k] = f) :
    FldsAt ((((w.setCell ⟨g, k * 9 + 3, none⟩ (.int .i64 f.blo)).setCell ⟨g, k * 9 + 3 + 1, none⟩ (.int .i64 f.bhi)).setCell ⟨g, k * 9 + 5, none⟩ (.int .i64 f.alo)).setCell ⟨g, k * 9 + 5 + 1, none⟩ (.int .i64 f.ahi)) g (l.set k f.turn) := by
  have h1 := h.put (f := { f with alo := f.blo }) (x := .int .i64 f.blo) hk (j := 3) (by decide) (fun m hm => by
    rw [hf]
    have : m = 0 ∨ m = 1 ∨ m = 2 ∨ m = 3 ∨ m = 4 ∨ m = 5 ∨ m = 6 ∨ m = 7 ∨ m = 8 := by omega
    rcases this with rfl | rfl | rfl | rfl | rfl | rfl | rfl | rfl | rfl <;> rfl)
  have h2 := h1.put (f := { f with alo := f.blo, ahi := f.bhi }) (x := .int .i64 f.bhi) (i := k) (by simpa using hk) (j := 4) (by decide) (fun m hm => by
    have : m = 0 ∨ m = 1 ∨ m = 2 ∨ m = 3 ∨ m = 4 ∨ m = 5 ∨ m = 6 ∨ m = 7 ∨ m = 8 := by omega
    rw [List.getElem_set_self]
    rcases this with rfl | rfl | rfl | rfl | rfl | rfl | rfl | rfl | rfl <;> rfl)
  have h3 := h2.put (f := { f with alo := f.blo, ahi := f.bhi, blo := f.alo }) (x := .int .i64 f.alo) (i := k) (by simpa using hk) (j := 5) (by decide) (fun m hm => by
    have : m = 0 ∨ m = 1 ∨ m = 2 ∨ m = 3 ∨ m = 4 ∨ m = 5 ∨ m = 6 ∨ m = 7 ∨ m = 8 := by omega
    rw [List.getElem_set_self]
    rcases this with rfl | rfl | rfl | rfl | rfl | rfl | rfl | rfl | rfl <;> rfl)
  have h4 := h3.put (f := f.turn) (x := .int .i64 f.ahi) (i := k) (by simpa using hk) (j := 6) (by decide) (fun m hm => by
    have : m = 0 ∨ m = 1 ∨ m = 2 ∨ m = 3 ∨ m = 4 ∨ m = 5 ∨ m = 6 ∨ m = 7 ∨ m = 8 := by omega
    rw [List.getElem_set_self]
    rcases this with rfl | rfl | rfl | rfl | rfl | rfl | rfl | rfl | rfl <;> rfl)
  simpa [List.set_set] using h4
/-- The state of the loop. -/
structure TurnL (n : Nat) (ax : Option Addr) (l : List Fld) (t : List Thr) (W : World) (e : Nat) (k : Nat) (v : Value) (w : World) : Prop where
  kp : KP (fun j => ax = some ⟨j, 0, none⟩ ∧ 0 < n) W w
  fl : ∀ g, ax = some ⟨g, 0, none⟩ → 0 < n → FldsAt w g (turnTo k l)
  row : ThrRow W.heap.size e (fun i => (t.getD i default).turn) k v w
theorem thrs_turned (t : List Thr) : thrsTo (fun i => (t.getD i default).turn) t.length = t.map Thr.turn := by
  unfold thrsTo
  apply List.ext_getElem
  · simp
  · intro i h1 h2
    have : i < t.length := by simpa using h2
    simp [this]
theorem sameI_same (a : List Int) : sameI a a = true := by rw [sameI_eq]; exact decide_eq_true rfl
end Go.Hs
