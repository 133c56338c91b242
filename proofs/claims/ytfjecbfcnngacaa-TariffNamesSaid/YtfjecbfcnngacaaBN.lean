/- Plain laws: what the bounds of a claim are. -/
import Derived.Test.YtfjecbfcnngacaaBL
namespace Go.Proofs.Ytfjecbfcnngacaa
open Go.RowKit Go.Hs
/-- Both ends are reached, and nothing lies outside. -/
structure EndsP (f : Int → Int → Int) (l : List (Int × Int)) (s : ES) : Prop where
  low : (s.ld, s.ln) ∈ l ∧ f s.ld s.ln = s.lo
  high : (s.hd, s.hn) ∈ l ∧ f s.hd s.hn = s.hi
  all : ∀ t, t ∈ l → s.lo ≤ f t.1 t.2 ∧ f t.1 t.2 ≤ s.hi
  first : s.first = false
theorem ends_step {f : Int → Int → Int} {l : List (Int × Int)} {s : ES} {x : Int × Int} (h : s.first = true ∧ l = [] ∨ EndsP f l s) : EndsP f (l ++ [x]) (s.next (f x.1 x.2) x.1 x.2) := by
  obtain ⟨a, b⟩ := x
  rcases h with ⟨h, rfl⟩ | h
  · unfold ES.next ES.low ES.high
    rw [h]
    refine ⟨⟨by simp, by simp⟩, ⟨by simp, by simp⟩, fun t ht => ?_, rfl⟩
    simp at ht
    subst ht
    simp
  · unfold ES.next ES.low ES.high
    rw [h.first]
    simp only [Bool.false_or, decide_eq_true_eq]
    refine ⟨?_, ?_, ?_, rfl⟩
    · simp only
      by_cases g : f a b < s.lo
      · simp [g]
      · simp only [g, if_false]; exact ⟨List.mem_append_left _ h.low.1, h.low.2⟩
    · simp only
      by_cases g : s.hi < f a b
      · simp [g]
      · simp only [g, if_false]; exact ⟨List.mem_append_left _ h.high.1, h.high.2⟩
    · intro t ht
      simp only
      have key : (s.lo ≤ f t.1 t.2 ∧ f t.1 t.2 ≤ s.hi) ∨ t = (a, b) := by
        rcases List.mem_append.1 ht with g | g
        · exact .inl (h.all t g)
        · exact .inr (by simpa using g)
      rcases key with g | rfl
      · have := h.all _ h.low.1
        split <;> split <;> omega
      · simp only
        have := h.all _ h.low.1
        split <;> split <;> omega
theorem foldE_ends (f : Int → Int → Int) (l : List (Int × Int)) (hl : l ≠ []) : EndsP f l (foldE f l) := by
  suffices h : ∀ r : List (Int × Int), ((foldE f r.reverse).first = true ∧ r.reverse = []) ∨ EndsP f r.reverse (foldE f r.reverse) by
    have := h l.reverse
    rw [List.reverse_reverse] at this
    rcases this with ⟨-, g⟩ | g
    · exact absurd g hl
    · exact g
  intro r
  induction r with
  | nil => exact .inl ⟨rfl, rfl⟩
  | cons x r ih =>
    right
    rw [List.reverse_cons, foldE_snoc]
    exact ends_step ih
theorem mem_seqTo {dlo clo : Int} {C D : Nat} {d n : Int} (h1 : dlo ≤ d) (h2 : d < dlo + D) (h3 : clo ≤ n) (h4 : n < clo + C) : (d, n) ∈ seqTo dlo clo C D 0 := by
  unfold seqTo
  refine List.mem_append_left _ (List.mem_flatMap.2 ⟨(d - dlo).toNat, List.mem_range.2 (by omega), List.mem_map.2 ⟨(n - clo).toNat, List.mem_range.2 (by omega), ?_⟩⟩)
  have e1 : dlo + ((d - dlo).toNat : Int) = d := by omega
  have e2 : clo + ((n - clo).toNat : Int) = n := by omega
  rw [e1, e2]
/-- The bounds of a claim: both ends are payments in truths, and each payment is between them. -/
structure BoundsP (l : List Tar) (c : Cla) (s : ES) : Prop where
  low : truthB c s.ld s.ln = true ∧ payS l c s.ld s.ln = s.lo
  high : truthB c s.hd s.hn = true ∧ payS l c s.hd s.hn = s.hi
  all : ∀ d n, truthB c d n = true → s.lo ≤ payS l c d n ∧ payS l c d n ≤ s.hi
theorem truthB_iff {c : Cla} {d n : Int} : truthB c d n = true ↔ (c.dlo ≤ d ∧ d ≤ c.dhi) ∧ c.clo ≤ n ∧ n ≤ c.chi := by
  simp only [truthB, Bool.and_eq_true, inR_iff]
theorem ends_spec {l : List Tar} {c : Cla} (hc : ClaimOK l c) : BoundsP l c (endsS l c) := by
  have h1 := hc.day
  have h2 := hc.count
  have hD : (sizeOfR c.dlo c.dhi : Int) = c.dhi - c.dlo + 1 := by unfold sizeOfR; omega
  have hC : (sizeOfR c.clo c.chi : Int) = c.chi - c.clo + 1 := by unfold sizeOfR; omega
  unfold endsS endsTo
  generalize sizeOfR c.dlo c.dhi = D at *
  generalize sizeOfR c.clo c.chi = C at *
  have hm : ∀ d n, truthB c d n = true → (d, n) ∈ seqTo c.dlo c.clo C D 0 := by
    intro d n h
    obtain ⟨g1, g2⟩ := truthB_iff.1 h
    exact mem_seqTo g1.1 (by omega) g2.1 (by omega)
  have hn : ∀ t, t ∈ seqTo c.dlo c.clo C D 0 → truthB c t.1 t.2 = true := by
    intro t h
    have g := seqTo_mem h
    refine truthB_iff.2 ⟨⟨g.1, ?_⟩, g.2.1, ?_⟩ <;> omega
  have hne : seqTo c.dlo c.clo C D 0 ≠ [] := by
    intro e
    have := hm c.dlo c.clo (truthB_iff.2 ⟨⟨Int.le_refl _, h1.2.1⟩, Int.le_refl _, h2.2.1⟩)
    rw [e] at this; cases this
  have h := foldE_ends (payS l c) (seqTo c.dlo c.clo C D 0) hne
  generalize foldE (payS l c) (seqTo c.dlo c.clo C D 0) = s at *
  have a1 := hn (s.ld, s.ln) h.low.1
  have a2 := hn (s.hd, s.hn) h.high.1
  exact ⟨⟨a1, h.low.2⟩, ⟨a2, h.high.2⟩, fun d n ht => h.all (d, n) (hm d n ht)⟩
end Go.Proofs.Ytfjecbfcnngacaa
