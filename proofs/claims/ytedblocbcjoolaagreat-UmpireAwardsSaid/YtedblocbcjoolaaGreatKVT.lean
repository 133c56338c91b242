/- Two copies of a case in variables. -/
import Derived.Test.YtedblocbcjoolaaGreatKB9
set_option linter.unusedSimpArgs false
set_option linter.unusedVariables false
namespace Go.Hs
open Go.RowKit Go.Proofs.YtedblocbcjoolaaGreat
/-- Two variables of four cells each. -/
structure Two4 (W : World) (a0 a1 a2 a3 b0 b1 b2 b3 : Value) (A B : Nat) (w : World) : Prop where
  a0 : w.cell? ⟨A, 0, none⟩ = some a0
  a1 : w.cell? ⟨A, 1, none⟩ = some a1
  a2 : w.cell? ⟨A, 2, none⟩ = some a2
  a3 : w.cell? ⟨A, 3, none⟩ = some a3
  b0 : w.cell? ⟨B, 0, none⟩ = some b0
  b1 : w.cell? ⟨B, 1, none⟩ = some b1
  b2 : w.cell? ⟨B, 2, none⟩ = some b2
  b3 : w.cell? ⟨B, 3, none⟩ = some b3
  fa : ∀ o, w.frozen? ⟨A, o, none⟩ = false
  fb : ∀ o, w.frozen? ⟨B, o, none⟩ = false
  ga : W.heap.size ≤ A
  gb : W.heap.size ≤ B
  ne : A ≠ B
  ext : Ext W w
theorem Two4.fees {W w : World} {a0 a1 a2 a3 b0 b1 b2 b3 : Value} {A B : Nat} (h : Two4 W a0 a1 a2 a3 b0 b1 b2 b3 A B w) (x y : Value) : Two4 W a0 a1 x a3 b0 b1 y b3 A B ((w.setCell ⟨A, 2, none⟩ x).setCell ⟨B, 2, none⟩ y) := by
  have hn := h.ne
  have hn' : B ≠ A := Ne.symm hn
  refine ⟨?_, ?_, ?_, ?_, ?_, ?_, ?_, ?_, ?_, ?_, h.ga, h.gb, hn, (h.ext.setCell h.ga _).setCell h.gb _⟩
  · exact sc_ne' (.inl hn) (sc_ne' (.inr (by decide)) h.a0)
  · exact sc_ne' (.inl hn) (sc_ne' (.inr (by decide)) h.a1)
  · exact sc_ne' (.inl hn) (sc_eq' h.a2)
  · exact sc_ne' (.inl hn) (sc_ne' (.inr (by decide)) h.a3)
  · exact sc_ne' (.inr (by decide)) (sc_ne' (.inl hn') h.b0)
  · exact sc_ne' (.inr (by decide)) (sc_ne' (.inl hn') h.b1)
  · exact sc_eq' (sc_ne' (.inl hn') h.b2)
  · exact sc_ne' (.inr (by decide)) (sc_ne' (.inl hn') h.b3)
  · intro o; rw [World.frozen?_setCell, World.frozen?_setCell]; exact h.fa o
  · intro o; rw [World.frozen?_setCell, World.frozen?_setCell]; exact h.fb o
theorem thinCas_tars {c : Cas} (h : thinCas c = true) : thinB c.tars = true := by
  simp only [thinCas, Bool.and_eq_true] at h
  exact h.1
theorem CasV.fee {w : World} {v0 v3 : Value} {day f : Int} {c : Cas} (h : CasV w (.agg #[v0, .int .i64 day, .int .i64 f, v3]) c) (x : Int) : CasV w (.agg #[v0, .int .i64 day, .int .i64 x, v3]) (c.withFee x) := by
  obtain ⟨vt, vf, e, h1, h2⟩ := h
  simp only [Value.agg.injEq, Array.mk.injEq, List.cons.injEq, and_true, Value.int.injEq, true_and] at e
  obtain ⟨rfl, rfl, rfl, rfl⟩ := e
  exact ⟨_, _, rfl, h1, h2⟩
end Go.Hs
namespace Go.Proofs.YtedblocbcjoolaaGreat
open Go.RowKit Go.Hs
end Go.Proofs.YtedblocbcjoolaaGreat
