/- Plain laws of layer 7: each field alone. -/
import Derived.Test.YtbmjnilcinfdiaaGreatKXC
set_option linter.unusedSimpArgs false
set_option linter.unusedVariables false
namespace Go.Hs
open Go.RowKit Go.Proofs.YtbmjnilcinfdiaaGreat
/-- What a field's awards can be. -/
def payLo (c : Cas) (f : Fld) : Int := bLo (c.withF [f]) 0
def payHi (c : Cas) (f : Fld) : Int := bHi (c.withF [f]) 0
theorem one_ends {c : Cas} (h : CasOK c) {f : Fld} (hf : FldOK c.tars f) : EndsOf (fun x => ∃ t, ThrOK f t ∧ payC c f (settledS f t) = x) (payLo c f) (payHi c f) := by
  have hx : CasOK (c.withF [f]) := withF_ok h (by simp) (fun g hg => by obtain rfl := List.mem_singleton.1 hg; exact hf)
  refine (bounds_ends hx 0).congr (fun x => ?_)
  simp only [askQ]
  constructor
  · rintro ⟨s, hs, rfl⟩
    obtain ⟨t, ht, rfl⟩ := mem_sumsS.1 hs
    cases ht with
    | cons hx hk => cases hk; exact ⟨_, hx, by simp [sumT, Cas.withF, Sm.plus, Sm.zero, outS]; rfl⟩
  · rintro ⟨t, ht, rfl⟩
    exact ⟨_, mem_sumsS.2 ⟨[t], .cons ht .nil, rfl⟩, by simp [sumT, Cas.withF, Sm.plus, Sm.zero, outS]; rfl⟩
def sumLo (c : Cas) (l : List Fld) : Int := (l.map (payLo c)).sum
def sumHi (c : Cas) (l : List Fld) : Int := (l.map (payHi c)).sum
theorem all_ends {c : Cas} (h : CasOK c) : ∀ (l : List Fld) (_ : ∀ f ∈ l, FldOK c.tars f) (s : Sm), EndsOf (fun x => ∃ r, r ∈ sumsFrom c l s ∧ r.award = x) (s.award + sumLo c l) (s.award + sumHi c l)
  | [], _, s => ⟨⟨s, by simp [sumsFrom], by simp [sumLo]⟩, ⟨s, by simp [sumsFrom], by simp [sumHi]⟩, by
      rintro x ⟨r, hr, rfl⟩
      obtain rfl : r = s := by simpa [sumsFrom] using hr
      simp [sumLo, sumHi]⟩
  | f :: l, hl, s => by
    have h1 := one_ends h (hl f (by simp))
    have hl' : ∀ g ∈ l, FldOK c.tars g := fun g hg => hl g (by simp [hg])
    have ih := fun x => all_ends h l hl' (s.plus (outS c f x))
    have ea : ∀ x, (s.plus (outS c f x)).award = s.award + payC c f (settledS f x) := fun x => rfl
    have e1 : sumLo c (f :: l) = payLo c f + sumLo c l := by simp [sumLo]
    have e2 : sumHi c (f :: l) = payHi c f + sumHi c l := by simp [sumHi]
    rw [e1, e2]
    obtain ⟨x, hx, ex⟩ := h1.mn
    obtain ⟨y, hy, ey⟩ := h1.mx
    refine ⟨?_, ?_, ?_⟩
    · obtain ⟨r, hr, er⟩ := (ih x).mn
      refine ⟨r, ?_, ?_⟩
      · simp only [sumsFrom, List.mem_flatMap]; exact ⟨x, mem_truths.2 hx, hr⟩
      · rw [er, ea, ex]; omega
    · obtain ⟨r, hr, er⟩ := (ih y).mx
      refine ⟨r, ?_, ?_⟩
      · simp only [sumsFrom, List.mem_flatMap]; exact ⟨y, mem_truths.2 hy, hr⟩
      · rw [er, ea, ey]; omega
    · rintro z ⟨r, hr, rfl⟩
      simp only [sumsFrom, List.mem_flatMap] at hr
      obtain ⟨t, ht, hr⟩ := hr
      have := (ih t).all _ ⟨r, hr, rfl⟩
      rw [ea] at this
      have k := h1.all _ ⟨t, mem_truths.1 ht, rfl⟩
      omega
/-- The award's bounds are the sums of those of the fields alone. -/
theorem award_alone {c : Cas} (h : CasOK c) : bLo c 0 = sumLo c c.flds ∧ bHi c 0 = sumHi c c.flds := by
  have := (bounds_ends h 0).unique (c := Sm.zero.award + sumLo c c.flds) (d := Sm.zero.award + sumHi c c.flds) (all_ends h c.flds h.flds Sm.zero)
  simpa [Sm.zero] using this
/-- Sums with the same fees. -/
structure Even (s r : Sm) : Prop where
  e1 : s.e1 = r.e1
  e2 : s.e2 = r.e2
  e3 : s.e3 = r.e3
theorem Even.symm {s r : Sm} (h : Even s r) : Even r s := ⟨h.e1.symm, h.e2.symm, h.e3.symm⟩
theorem Even.plus {s r : Sm} (h : Even s r) (o p : Out) (e : o.loser = p.loser) : Even (s.plus o) (r.plus p) := by
  obtain ⟨h1, h2, h3⟩ := h
  refine ⟨?_, ?_, ?_⟩ <;> simp only [Sm.plus, e, h1, h2, h3]
theorem Even.calm {s r : Sm} (h : Even s r) (o : Out) (e : o.loser = 0) : Even (s.plus o) r := by
  obtain ⟨h1, h2, h3⟩ := h
  refine ⟨?_, ?_, ?_⟩ <;> simp [Sm.plus, e, h1, h2, h3]
theorem Even.fees {s r : Sm} (h : Even s r) (fee : Int) : feeA fee s = feeA fee r ∧ feeB fee s = feeB fee r := by
  obtain ⟨h1, h2, h3⟩ := h
  unfold feeA feeB calledS
  rw [h1, h2, h3]; exact ⟨rfl, rfl⟩
theorem even_sums {c d : Cas} : ∀ (l : List Fld) (s r q : Sm), Even s q → r ∈ sumsFrom c l s → ∃ p, p ∈ sumsFrom d l q ∧ Even r p
  | [], s, r, q, h, hr => by
    obtain rfl : r = s := by simpa [sumsFrom] using hr
    exact ⟨q, by simp [sumsFrom], h⟩
  | f :: l, s, r, q, h, hr => by
    simp only [sumsFrom, List.mem_flatMap] at hr
    obtain ⟨x, hx, hr⟩ := hr
    obtain ⟨p, hp, e⟩ := even_sums (c := c) (d := d) l _ r (q.plus (outS d f x)) (h.plus (outS c f x) (outS d f x) rfl) hr
    exact ⟨p, by simp only [sumsFrom, List.mem_flatMap]; exact ⟨x, hx, hp⟩, e⟩
theorem calm_sums {c d : Cas} {f : Fld} (hf : ∀ x ∈ truthsS f, loserS f x = 0) (hne : ∃ x, x ∈ truthsS f) : ∀ (l m : List Fld) (s q : Sm), Even s q →
    (∀ r, r ∈ sumsFrom c (l ++ f :: m) s → ∃ p, p ∈ sumsFrom d (l ++ m) q ∧ Even r p) ∧ (∀ p, p ∈ sumsFrom d (l ++ m) q → ∃ r, r ∈ sumsFrom c (l ++ f :: m) s ∧ Even r p)
  | [], m, s, q, h => by
    constructor
    · intro r hr
      simp only [List.nil_append, sumsFrom, List.mem_flatMap] at hr
      obtain ⟨x, hx, hr⟩ := hr
      exact even_sums m _ r q (h.calm _ (hf x hx)) hr
    · intro p hp
      obtain ⟨x, hx⟩ := hne
      obtain ⟨r, hr, e⟩ := even_sums (d := c) m q p (s.plus (outS c f x)) (h.calm _ (hf x hx)).symm hp
      exact ⟨r, by simp only [List.nil_append, sumsFrom, List.mem_flatMap]; exact ⟨x, hx, hr⟩, e.symm⟩
  | g :: l, m, s, q, h => by
    constructor
    · intro r hr
      simp only [List.cons_append, sumsFrom, List.mem_flatMap] at hr
      obtain ⟨x, hx, hr⟩ := hr
      obtain ⟨p, hp, e⟩ := (calm_sums (c := c) (d := d) hf hne l m _ (q.plus (outS d g x)) (h.plus (outS c g x) (outS d g x) rfl)).1 r hr
      exact ⟨p, by simp only [List.cons_append, sumsFrom, List.mem_flatMap]; exact ⟨x, hx, hp⟩, e⟩
    · intro p hp
      simp only [List.cons_append, sumsFrom, List.mem_flatMap] at hp
      obtain ⟨x, hx, hp⟩ := hp
      obtain ⟨r, hr, e⟩ := (calm_sums (c := c) (d := d) hf hne l m (s.plus (outS c g x)) _ (h.plus (outS c g x) (outS d g x) rfl)).2 p hp
      exact ⟨r, by simp only [List.cons_append, sumsFrom, List.mem_flatMap]; exact ⟨x, hx, hr⟩, e⟩
/-- A field that is not called for has no influence on the fees. -/
theorem calm_fees {c : Cas} {l m : List Fld} {f : Fld} (hf : ∀ x ∈ truthsS f, loserS f x = 0) (hx : CasOK (c.withF (l ++ f :: m))) (hy : CasOK (c.withF (l ++ m))) :
    (bLo (c.withF (l ++ f :: m)) 1 = bLo (c.withF (l ++ m)) 1 ∧ bHi (c.withF (l ++ f :: m)) 1 = bHi (c.withF (l ++ m)) 1) ∧ (bLo (c.withF (l ++ f :: m)) 2 = bLo (c.withF (l ++ m)) 2 ∧ bHi (c.withF (l ++ f :: m)) 2 = bHi (c.withF (l ++ m)) 2) := by
  have hne : ∃ x, x ∈ truthsS f := List.exists_mem_of_ne_nil _ (truths_ne (hx.flds f (by simp [Cas.withF])))
  obtain ⟨k1, k2⟩ := calm_sums (c := c.withF (l ++ f :: m)) (d := c.withF (l ++ m)) hf hne l m Sm.zero Sm.zero ⟨rfl, rfl, rfl⟩
  constructor
  · refine ((bounds_ends hx 1).congr (fun x => ?_)).unique (bounds_ends hy 1)
    constructor
    · rintro ⟨s, hs, rfl⟩
      obtain ⟨p, hp, e⟩ := k1 s hs
      exact ⟨p, hp, (e.fees _).1.symm⟩
    · rintro ⟨p, hp, rfl⟩
      obtain ⟨s, hs, e⟩ := k2 p hp
      exact ⟨s, hs, (e.fees _).1⟩
  · refine ((bounds_ends hx 2).congr (fun x => ?_)).unique (bounds_ends hy 2)
    constructor
    · rintro ⟨s, hs, rfl⟩
      obtain ⟨p, hp, e⟩ := k1 s hs
      exact ⟨p, hp, (e.fees _).2.symm⟩
    · rintro ⟨p, hp, rfl⟩
      obtain ⟨s, hs, e⟩ := k2 p hp
      exact ⟨s, hs, (e.fees _).2⟩
end Go.Hs
