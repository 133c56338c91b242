/- Plain laws of layer 7: each field alone. -/
import Derived.Test.YtedblocbcjoolaaGreatKXC
set_option linter.unusedSimpArgs false
set_option linter.unusedVariables false
namespace Go.Hs
open Go.RowKit Go.Proofs.YtedblocbcjoolaaGreat
/-- What a field's awards can be. -/
def payLo (c : Cas) (f : Fld) : Int := bLo (c.withF [f]) 0
def payHi (c : Cas) (f : Fld) : Int := bHi (c.withF [f]) 0
def sumLo (c : Cas) (l : List Fld) : Int := (l.map (payLo c)).sum
def sumHi (c : Cas) (l : List Fld) : Int := (l.map (payHi c)).sum
/-- Sums with the same fees. -/
structure Even (s r : Sm) : Prop where
  e1 : s.e1 = r.e1
  e2 : s.e2 = r.e2
  e3 : s.e3 = r.e3
theorem Even.symm {s r : Sm} (h : Even s r) : Even r s := ⟨h.e1.symm, h.e2.symm, h.e3.symm⟩
theorem Even.plus {s r : Sm} (h : Even s r) (o p : Out) (e : o.loser = p.loser) : Even (s.plus o) (r.plus p) := by
  obtain ⟨h1, h2, h3⟩ := h
  refine ⟨?_, ?_, ?_⟩ <;> simp only [Sm.plus, e, h1, h2, h3]
theorem Even.calm {s r : Sm} (h : Even s r) (o : Out) (e : o.loser = 0) : Even (s.plus o) r := by
  obtain ⟨h1, h2, h3⟩ := h
  refine ⟨?_, ?_, ?_⟩ <;> simp [Sm.plus, e, h1, h2, h3]
theorem Even.fees {s r : Sm} (h : Even s r) (fee : Int) : feeA fee s = feeA fee r ∧ feeB fee s = feeB fee r := by
  obtain ⟨h1, h2, h3⟩ := h
  unfold feeA feeB calledS
  rw [h1, h2, h3]; exact ⟨rfl, rfl⟩
end Go.Hs
