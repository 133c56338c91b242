/- Plain laws of layer 7: a greater Near, the adjusters' parts changed, what does not matter, wider ranges. -/
import Derived.Test.YtedblocbcjoolaaGreatKB9
set_option linter.unusedSimpArgs false
set_option linter.unusedVariables false
namespace Go.Hs
open Go.RowKit Go.Proofs.YtedblocbcjoolaaGreat
/-- The case with other fields. -/
def Cas.withF (c : Cas) (l : List Fld) : Cas := { c with flds := l }
/-- A truth's sum is one of all sums. -/
theorem sumT_cons (c : Cas) (f : Fld) (fs : List Fld) (x : Thr) (t : List Thr) (s : Sm) : ((f :: fs).zip (x :: t)).foldl (fun s p => s.plus (outS c p.1 p.2)) s = (fs.zip t).foldl (fun s p => s.plus (outS c p.1 p.2)) (s.plus (outS c f x)) := rfl
/-- A truth of some fields. -/
inductive TruthOf : List Fld → List Thr → Prop
  | nil : TruthOf [] []
  | cons {f : Fld} {fs : List Fld} {x : Thr} {t : List Thr} (h : ThrOK f x) (k : TruthOf fs t) : TruthOf (f :: fs) (x :: t)
theorem mem_sums {c : Cas} : ∀ (fs : List Fld) (s r : Sm), r ∈ sumsFrom c fs s ↔ ∃ t, TruthOf fs t ∧ r = (fs.zip t).foldl (fun s p => s.plus (outS c p.1 p.2)) s
  | [], s, r => by
    simp only [sumsFrom, List.mem_singleton]
    constructor
    · intro h; exact ⟨[], .nil, by simpa using h⟩
    · rintro ⟨t, -, h⟩; simpa using h
  | f :: fs, s, r => by
    simp only [sumsFrom, List.mem_flatMap]
    constructor
    · rintro ⟨x, hx, h⟩
      obtain ⟨t, ht, e⟩ := (mem_sums fs _ r).1 h
      exact ⟨x :: t, .cons (mem_truths.1 hx) ht, by rw [sumT_cons]; exact e⟩
    · rintro ⟨t, ht, e⟩
      cases ht with
      | cons hx hk => exact ⟨_, mem_truths.2 hx, (mem_sums fs _ r).2 ⟨_, hk, by rw [sumT_cons] at e; exact e⟩⟩
theorem mem_sumsS {c : Cas} {r : Sm} : r ∈ sumsS c ↔ ∃ t, TruthOf c.flds t ∧ r = sumT c c.flds t := mem_sums c.flds Sm.zero r
theorem truthOf_iff {fs : List Fld} {t : List Thr} : TruthOf fs t ↔ t.length = fs.length ∧ ∀ k (h1 : k < fs.length) (h2 : k < t.length), ThrOK fs[k] t[k] := by
  constructor
  · intro h
    induction h with
    | nil => exact ⟨rfl, fun k h1 => by simp at h1⟩
    | cons hx _ ih =>
      refine ⟨by simp [ih.1], fun k h1 h2 => ?_⟩
      cases k with
      | zero => exact hx
      | succ k => exact ih.2 k (by simpa using h1) (by simpa using h2)
  · induction fs generalizing t with
    | nil => rintro ⟨h, -⟩; cases t with
      | nil => exact .nil
      | cons _ _ => simp at h
    | cons f fs ih =>
      rintro ⟨h, k⟩
      cases t with
      | nil => simp at h
      | cons x t => exact .cons (k 0 (by simp) (by simp)) (ih ⟨by simpa using h, fun i h1 h2 => by have := k (i + 1) (by simpa using h1) (by simpa using h2); simpa using this⟩)
end Go.Hs
