/- Arguments that are a claim or a truth, opened. -/
import Derived.Test.YtfjecbfcnngacaaO
import Derived.Test.YtfjecbfcnngacaaW
namespace Go.Proofs.Ytfjecbfcnngacaa
open Go.ChangeShapes Go.WideShapes Go.ChangeAt Go.RowKit Go.Deep Go.Hs
/-- The numbers of a claim are int's. -/
structure ClaOK (c : Cla) : Prop where
  crop : i64ok c.crop
  value : i64ok c.value
  dlo : i64ok c.dlo
  dhi : i64ok c.dhi
  clo : i64ok c.clo
  chi : i64ok c.chi
section
variable {H : Type} {enc : TypeId × Value → H} {w : World} {base : Nat} {spare : Nat → Bool} {held : Bool}
theorem k_int : Try.prog.cellsOf 3 = 1 := by kernel_rfl
theorem k_range : Try.prog.cellsOf 37 = 2 := by kernel_rfl
theorem k_claim : Try.prog.cellsOf 39 = 6 := by kernel_rfl
theorem k_truth : Try.prog.cellsOf 52 = 2 := by kernel_rfl
theorem get_some {α : Type} {l : List α} {i : Nat} (h : i < l.length) : ∃ y, l[i]? = some y := ⟨l[i], by simp [h]⟩
theorem int_cell {n : Nat} {v : Value} {y : DataW H × List MemPlace} (h : DataW.trod enc Try.prog w base spare held n 3 [v] = some y) : ∃ z, v = .int .i64 z ∧ i64ok z := by
  obtain ⟨z, he, -, hw⟩ := DataW.trod_int Try.underlying3 h
  simp at he
  exact ⟨z, he, bd_of_wf hw⟩
theorem range_cells {n : Nat} {a b : Value} {y : DataW H × List MemPlace} (h : DataW.trod enc Try.prog w base spare held n 37 [a, b] = some y) : ∃ x z, a = .int .i64 x ∧ b = .int .i64 z ∧ i64ok x ∧ i64ok z := by
  obtain ⟨xs, m, -, -, -, hl, hg⟩ := DataW.trod_struct Try.underlying37 h
  obtain ⟨y0, e0⟩ := get_some (l := xs) (i := 0) (by rw [hl]; decide)
  obtain ⟨y1, e1⟩ := get_some (l := xs) (i := 1) (by rw [hl]; decide)
  have g0 := hg 0 _ rfl
  have g1 := hg 1 _ rfl
  rw [e0] at g0
  rw [e1] at g1
  simp [k_int] at g0 g1
  obtain ⟨x, hx, ox⟩ := int_cell g0
  obtain ⟨z, hz, oz⟩ := int_cell g1
  exact ⟨x, z, hx, hz, ox, oz⟩
theorem claim_cells {n : Nat} {c0 c1 c2 c3 c4 c5 : Value} {y : DataW H × List MemPlace} (h : DataW.trod enc Try.prog w base spare held n 39 [c0, c1, c2, c3, c4, c5] = some y) :
    ∃ c : Cla, c0 = .int .i64 c.crop ∧ c1 = .int .i64 c.value ∧ c2 = .int .i64 c.dlo ∧ c3 = .int .i64 c.dhi ∧ c4 = .int .i64 c.clo ∧ c5 = .int .i64 c.chi ∧ ClaOK c := by
  obtain ⟨xs, m, -, -, -, hl, hg⟩ := DataW.trod_struct Try.underlying39 h
  obtain ⟨y0, e0⟩ := get_some (l := xs) (i := 0) (by rw [hl]; decide)
  obtain ⟨y1, e1⟩ := get_some (l := xs) (i := 1) (by rw [hl]; decide)
  obtain ⟨y2, e2⟩ := get_some (l := xs) (i := 2) (by rw [hl]; decide)
  obtain ⟨y3, e3⟩ := get_some (l := xs) (i := 3) (by rw [hl]; decide)
  have g0 := hg 0 _ rfl
  have g1 := hg 1 _ rfl
  have g2 := hg 2 _ rfl
  have g3 := hg 3 _ rfl
  rw [e0] at g0
  rw [e1] at g1
  rw [e2] at g2
  rw [e3] at g3
  simp [k_int, k_range] at g0 g1 g2 g3
  obtain ⟨x0, h0, o0⟩ := int_cell g0
  obtain ⟨x1, h1, o1⟩ := int_cell g1
  obtain ⟨x2, x3, h2, h3, o2, o3⟩ := range_cells g2
  obtain ⟨x4, x5, h4, h5, o4, o5⟩ := range_cells g3
  exact ⟨⟨x0, x1, x2, x3, x4, x5⟩, h0, h1, h2, h3, h4, h5, o0, o1, o2, o3, o4, o5⟩
theorem open_agg_6 {P : Program} {r : Reach} {b0 : Nat} {t : TypeId} {fs : Array Field} {v : Value} {d : DataW H} {p : List MemPlace} (hs : P.underlying t = some (.struct fs)) (hC : P.cellsOf t = 6) (hv : Value.okWide P w r b0 t v) (h : DataW.Trod enc P w base spare held t v d p) :
    ∃ c0 c1 c2 c3 c4 c5 n y, v = .agg #[c0, c1, c2, c3, c4, c5] ∧ DataW.trod enc P w base spare held n t [c0, c1, c2, c3, c4, c5] = some y := by
  obtain ⟨cs, rfl, hsz⟩ := okWide_struct hs hv
  obtain ⟨l⟩ := cs
  match l, hsz.trans hC with
  | [c0, c1, c2, c3, c4, c5], _ =>
    obtain ⟨fuel, hf⟩ := h
    exact ⟨c0, c1, c2, c3, c4, c5, fuel, _, rfl, hf⟩
theorem open_agg_2 {P : Program} {r : Reach} {b0 : Nat} {t : TypeId} {fs : Array Field} {v : Value} {d : DataW H} {p : List MemPlace} (hs : P.underlying t = some (.struct fs)) (hC : P.cellsOf t = 2) (hv : Value.okWide P w r b0 t v) (h : DataW.Trod enc P w base spare held t v d p) :
    ∃ c0 c1 n y, v = .agg #[c0, c1] ∧ DataW.trod enc P w base spare held n t [c0, c1] = some y := by
  obtain ⟨cs, rfl, hsz⟩ := okWide_struct hs hv
  obtain ⟨l⟩ := cs
  match l, hsz.trans hC with
  | [c0, c1], _ =>
    obtain ⟨fuel, hf⟩ := h
    exact ⟨c0, c1, fuel, _, rfl, hf⟩
set_option maxRecDepth 100000 in
theorem claim_open {r : Reach} {b0 : Nat} {v : Value} {d : DataW H} {p : List MemPlace} (hv : Value.okWide Try.prog w r b0 39 v) (h : DataW.Trod enc Try.prog w base spare held 39 v d p) :
    ∃ c : Cla, v = c.u.val ∧ ClaOK c := by
  obtain ⟨c0, c1, c2, c3, c4, c5, n, y, rfl, hf⟩ := open_agg_6 Try.underlying39 k_claim hv h
  obtain ⟨c, rfl, rfl, rfl, rfl, rfl, rfl, hc⟩ := claim_cells hf
  exact ⟨c, rfl, hc⟩
set_option maxRecDepth 100000 in
theorem truth_open {r : Reach} {b0 : Nat} {v : Value} {d : DataW H} {p : List MemPlace} (hv : Value.okWide Try.prog w r b0 52 v) (h : DataW.Trod enc Try.prog w base spare held 52 v d p) :
    ∃ c : Int × Int, v = .agg #[.int .i64 c.1, .int .i64 c.2] ∧ i64ok c.1 ∧ i64ok c.2 := by
  obtain ⟨c0, c1, n, y, rfl, hf⟩ := open_agg_2 Try.underlying52 k_truth hv h
  obtain ⟨xs, m, -, -, -, hl, hg⟩ := DataW.trod_struct Try.underlying52 hf
  obtain ⟨y0, e0⟩ := get_some (l := xs) (i := 0) (by rw [hl]; decide)
  obtain ⟨y1, e1⟩ := get_some (l := xs) (i := 1) (by rw [hl]; decide)
  have g0 := hg 0 _ rfl
  have g1 := hg 1 _ rfl
  rw [e0] at g0
  rw [e1] at g1
  simp [k_int] at g0 g1
  obtain ⟨x, rfl, ox⟩ := int_cell g0
  obtain ⟨z, rfl, oz⟩ := int_cell g1
  exact ⟨(x, z), rfl, ox, oz⟩
end
end Go.Proofs.Ytfjecbfcnngacaa
