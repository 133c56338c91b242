/- An argument that is a list of claims, opened. -/
import Derived.Test.YtfjecbfcnngacaaOC
import Derived.Test.YtfjecbfcnngacaaBU
namespace Go.Proofs.Ytfjecbfcnngacaa
open Go.ChangeShapes Go.WideShapes Go.ChangeAt Go.RowKit Go.Deep Go.Hs
def ClaAtW (w : World) (b o : Nat) (c : Cla) : Prop := Cell6 w b o c.u ∧ ClaOK c
def ClasW : World → Value → List Cla → Prop := SliceW ClaAtW 6
instance : Inhabited Cla := ⟨⟨0, 0, 0, 0, 0, 0⟩⟩
theorem ClasW.toV {w : World} {v : Value} {cs : List Cla} (h : ClasW w v cs) (hl : cs.length ≤ 7) : ClasV Cla.u w v cs := by
  obtain ⟨a, c, he, h1, -, hr⟩ := h
  refine ⟨a, c, he, h1, by omega, fun i hi => ?_⟩
  have hi' : i < cs.length := by simpa using hi
  obtain ⟨b, o, hb, hx, -⟩ := hr i hi'
  exact ⟨b, o, hb, by simpa using hx⟩
theorem ClasW.ok {w : World} {v : Value} {cs : List Cla} (h : ClasW w v cs) : ∀ c, c ∈ cs → ClaOK c := fun c hc => by
  obtain ⟨a, k, -, -, -, hr⟩ := h
  obtain ⟨i, hi, rfl⟩ := List.getElem_of_mem hc
  obtain ⟨b, o, -, -, hx⟩ := hr i hi
  exact hx
section
variable {H : Type} {enc : TypeId × Value → H} {w : World} {base : Nat} {spare : Nat → Bool} {held : Bool}
theorem cla_open {b o : Nat} {cs : List Value} {n : Nat} {y : DataW H × List MemPlace} (hc : w.cells? base ⟨b, o, none⟩ (5 + 1) = some cs) (hd : DataW.trod enc Try.prog w base spare held n 39 cs = some y) : ∃ c, ClaAtW w b o c := by
  obtain ⟨-, hl, hat⟩ := World.cells?_some hc
  match cs, hl with
  | [v0, v1, v2, v3, v4, v5], _ =>
    obtain ⟨c, rfl, rfl, rfl, rfl, rfl, rfl, hok⟩ := claim_cells hd
    have g0 := hat 0 (by omega)
    have g1 := hat 1 (by omega)
    have g2 := hat 2 (by omega)
    have g3 := hat 3 (by omega)
    have g4 := hat 4 (by omega)
    have g5 := hat 5 (by omega)
    simp [add_none] at g0 g1 g2 g3 g4 g5
    exact ⟨c, ⟨g0, g1, g2, g3, g4, g5⟩, hok⟩
theorem clas_open {fuel : Nat} {v : Value} {x : DataW H × List MemPlace} (h : DataW.trod enc Try.prog w base spare held fuel 81 [v] = some x) : ∃ l, ClasW w v l :=
  slice_open (k := 5) Try.underlying81 (by kernel_rfl) (fun _ _ _ _ _ hc hd => cla_open hc hd) h
end

end Go.Proofs.Ytfjecbfcnngacaa
