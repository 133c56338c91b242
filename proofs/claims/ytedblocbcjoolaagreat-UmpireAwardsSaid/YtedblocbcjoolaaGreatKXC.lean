/- Plain laws of layer 7: the adjusters' parts changed, each field alone, wider ranges. -/
import Derived.Test.YtedblocbcjoolaaGreatKXB
set_option linter.unusedSimpArgs false
set_option linter.unusedVariables false
namespace Go.Hs
open Go.RowKit Go.Proofs.YtedblocbcjoolaaGreat
/-- The parts changed. -/
def Fld.turn (f : Fld) : Fld := { f with alo := f.blo, ahi := f.bhi, blo := f.alo, bhi := f.ahi }
def Thr.turn (x : Thr) : Thr := ⟨x.b, x.a, x.u⟩
def Cas.turn (c : Cas) : Cas := c.withF (c.flds.map Fld.turn)
def Sm.turn (s : Sm) : Sm := ⟨s.award, s.e0, s.e1, s.e3, s.e2⟩
theorem matter_iff {c : Cas} {f : Fld} : matterB c f = true ↔ ∃ x u, ThrOK f x ∧ f.ulo ≤ u ∧ u ≤ f.uhi ∧ payC c f (settledS f ⟨x.a, x.b, u⟩) ≠ payC c f (settledS f x) := by
  unfold matterB
  simp only [List.any_eq_true, bne_iff_ne, ne_eq]
  constructor
  · rintro ⟨x, hx, u, hu, h⟩; exact ⟨x, u, mem_truths.1 hx, (mem_every.1 hu).1, (mem_every.1 hu).2, h⟩
  · rintro ⟨x, u, hx, h1, h2, h⟩; exact ⟨x, mem_truths.2 hx, u, mem_every.2 ⟨h1, h2⟩, h⟩
/-- Wider ranges. -/
structure WiderF (f g : Fld) : Prop where
  crop : g.crop = f.crop
  value : g.value = f.value
  near : g.near = f.near
  a : g.alo ≤ f.alo ∧ f.ahi ≤ g.ahi
  b : g.blo ≤ f.blo ∧ f.bhi ≤ g.bhi
  u : g.ulo ≤ f.ulo ∧ f.uhi ≤ g.uhi
theorem WiderF.refl (f : Fld) : WiderF f f := ⟨rfl, rfl, rfl, ⟨Int.le_refl _, Int.le_refl _⟩, ⟨Int.le_refl _, Int.le_refl _⟩, ⟨Int.le_refl _, Int.le_refl _⟩⟩
theorem WiderF.thr {f g : Fld} (h : WiderF f g) {x : Thr} (hx : ThrOK f x) : ThrOK g x := by
  have := h.a; have := h.b; have := h.u; have := hx.a; have := hx.b; have := hx.u
  refine ⟨?_, ?_, ?_⟩ <;> omega
theorem WiderF.called {f g : Fld} (h : WiderF f g) (x : Thr) : calledB g x = calledB f x := by
  unfold calledB
  rw [Bool.eq_iff_iff, decide_eq_true_iff, decide_eq_true_iff, h.near]
theorem WiderF.settled {f g : Fld} (h : WiderF f g) (x : Thr) : settledS g x = settledS f x := by
  unfold settledS
  rw [h.called]
theorem WiderF.out {f g : Fld} (h : WiderF f g) (c d : Cas) (ht : d.tars = c.tars) (hd : d.day = c.day) (x : Thr) : outS d g x = outS c f x := by
  have e := h.settled x
  have e2 : loserS g x = loserS f x := by unfold loserS; rw [h.called, e]
  unfold outS
  rw [e, e2]
  unfold payC claimF
  rw [ht, hd, h.crop, h.value]
inductive WiderL : List Fld → List Fld → Prop
  | nil : WiderL [] []
  | cons {f g : Fld} {fs gs : List Fld} (h : WiderF f g) (k : WiderL fs gs) : WiderL (f :: fs) (g :: gs)
theorem WiderL.refl : ∀ l : List Fld, WiderL l l
  | [] => .nil
  | f :: l => .cons (.refl f) (.refl l)
theorem WiderL.set {g : Fld} : ∀ (l : List Fld) (k : Nat) (_ : ∀ h : k < l.length, WiderF l[k] g), WiderL l (l.set k g)
  | [], k, _ => by simp; exact .nil
  | f :: l, 0, h => .cons (h (by simp)) (.refl l)
  | f :: l, k + 1, h => .cons (.refl f) (WiderL.set l k (fun hk => by have := h (by simpa using hk); simpa using this))
theorem WiderL.sums {c d : Cas} (ht : d.tars = c.tars) (hd : d.day = c.day) {fs gs : List Fld} (h : WiderL fs gs) : ∀ (s r : Sm), r ∈ sumsFrom c fs s → r ∈ sumsFrom d gs s := by
  induction h with
  | nil => intro s r h; exact h
  | cons hf _ ih =>
    intro s r hr
    simp only [sumsFrom, List.mem_flatMap] at hr ⊢
    obtain ⟨x, hx, hr⟩ := hr
    exact ⟨x, mem_truths.2 (hf.thr (mem_truths.1 hx)), by rw [hf.out c d ht hd]; exact ih _ r hr⟩
end Go.Hs
