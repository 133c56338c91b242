/- Plain laws of layer 7: the reference's lists of outcomes, and their bounds. -/
import Derived.Test.YtedblocbcjoolaaGreatKVK
import Derived.Test.YtedblocbcjoolaaGreatKXC
set_option linter.unusedSimpArgs false
set_option linter.unusedVariables false
namespace Go.Hs
open Go.RowKit Go.Proofs.YtedblocbcjoolaaGreat
def Oc.same (o p : Oc) : Bool := decide (o.pay = p.pay) && ((o.called == p.called) && decide (o.lost = p.lost))
theorem Oc.same_iff {o p : Oc} : o.same p = true ↔ o = p := by
  obtain ⟨a, b, d⟩ := o
  obtain ⟨a2, b2, d2⟩ := p
  simp only [Oc.same, Bool.and_eq_true, decide_eq_true_eq, beq_iff_eq, Oc.mk.injEq]
def knownS (l : List Oc) (o : Oc) : Bool := l.any (fun p => p.same o)
theorem known_iff {l : List Oc} {o : Oc} : knownS l o = true ↔ o ∈ l := by
  simp only [knownS, List.any_eq_true, Oc.same_iff]
  exact ⟨fun ⟨p, h, e⟩ => e ▸ h, fun h => ⟨o, h, rfl⟩⟩
def addS (l : List Oc) (o : Oc) : List Oc := if knownS l o then l else l ++ [o]
theorem mem_addS {l : List Oc} {o p : Oc} : p ∈ addS l o ↔ p ∈ l ∨ p = o := by
  unfold addS
  split
  · rename_i h
    have := known_iff.1 h
    exact ⟨.inl, fun h => h.elim id (fun e => e ▸ this)⟩
  · simp
theorem add_len (l : List Oc) (o : Oc) : (addS l o).length ≤ l.length + 1 := by
  unfold addS
  split <;> simp
/-- All outcomes of a field, each once. -/
def outcomesF (c : Cas) (f : Fld) (l : List Thr) : List Oc := l.foldl (fun r x => addS r (ocS c f x)) []
def outcomesS (c : Cas) (f : Fld) : List Oc := outcomesF c f (truthsS f)
theorem mem_outcomes_from (c : Cas) (f : Fld) : ∀ (l : List Thr) (r : List Oc) (p : Oc), p ∈ l.foldl (fun r x => addS r (ocS c f x)) r ↔ p ∈ r ∨ ∃ x ∈ l, p = ocS c f x
  | [], r, p => by simp
  | x :: l, r, p => by
    rw [List.foldl_cons, mem_outcomes_from c f l, mem_addS]
    constructor
    · rintro ((h | h) | ⟨y, hy, e⟩)
      · exact .inl h
      · exact .inr ⟨x, by simp, h⟩
      · exact .inr ⟨y, by simp [hy], e⟩
    · rintro (h | ⟨y, hy, e⟩)
      · exact .inl (.inl h)
      · rcases List.mem_cons.1 hy with rfl | hy
        · exact .inl (.inr e)
        · exact .inr ⟨y, hy, e⟩
theorem mem_outcomesS {c : Cas} {f : Fld} {p : Oc} : p ∈ outcomesS c f ↔ ∃ x, ThrOK f x ∧ p = ocS c f x := by
  unfold outcomesS outcomesF
  rw [mem_outcomes_from]
  constructor
  · rintro (h | ⟨x, hx, e⟩)
    · cases h
    · exact ⟨x, mem_truths.1 hx, e⟩
  · rintro ⟨x, hx, e⟩; exact .inr ⟨x, mem_truths.2 hx, e⟩
theorem outcomes_len_from (c : Cas) (f : Fld) : ∀ (l : List Thr) (r : List Oc), (l.foldl (fun r x => addS r (ocS c f x)) r).length ≤ r.length + l.length
  | [], r => by simp
  | x :: l, r => by
    rw [List.foldl_cons]
    have := outcomes_len_from c f l (addS r (ocS c f x))
    have := add_len r (ocS c f x)
    simp only [List.length_cons]; omega
theorem outcomes_len (c : Cas) (f : Fld) (l : List Thr) : (outcomesF c f l).length ≤ l.length := by
  have := outcomes_len_from c f l []
  simpa [outcomesF] using this
theorem outcomes_next (c : Cas) (f : Fld) {l : List Thr} {k : Nat} (h : k < l.length) : addS (outcomesF c f (l.take k)) (ocS c f l[k]) = outcomesF c f (l.take (k + 1)) := by
  unfold outcomesF
  rw [List.take_succ_eq_append_getElem h, List.foldl_append]; rfl
/-- Each list with each outcome more. -/
def nextE (all : List (List Oc)) (l : List Oc) : List (List Oc) := all.flatMap fun p => l.map fun o => p ++ [o]
def endsF (c : Cas) (fs : List Fld) : List (List Oc) := fs.foldl (fun all f => nextE all (outcomesS c f)) [[]]
theorem ends_next (c : Cas) {l : List Fld} {k : Nat} (h : k < l.length) : nextE (endsF c (l.take k)) (outcomesS c l[k]) = endsF c (l.take (k + 1)) := by
  unfold endsF
  rw [List.take_succ_eq_append_getElem h, List.foldl_append]; rfl
theorem mem_prod (c : Cas) : ∀ (fs : List Fld) (all : List (List Oc)) (q : List Oc), q ∈ fs.foldl (fun all f => nextE all (outcomesS c f)) all ↔ ∃ p ∈ all, ∃ t, TruthOf fs t ∧ q = p ++ ocsT c fs t
  | [], all, q => by
    constructor
    · intro h; exact ⟨q, h, [], .nil, by simp [ocsT]⟩
    · rintro ⟨p, hp, t, ht, e⟩
      cases ht
      have e2 : q = p := by simpa [ocsT] using e
      rw [e2]; exact hp
  | f :: fs, all, q => by
    rw [List.foldl_cons, mem_prod c fs]
    constructor
    · rintro ⟨p, hp, t, ht, rfl⟩
      obtain ⟨p0, h0, hp⟩ := List.mem_flatMap.1 hp
      obtain ⟨o, ho, rfl⟩ := List.mem_map.1 hp
      obtain ⟨x, hx, rfl⟩ := mem_outcomesS.1 ho
      exact ⟨p0, h0, x :: t, .cons hx ht, by simp [ocsT]⟩
    · rintro ⟨p, hp, t, ht, rfl⟩
      cases ht with
      | cons hx hk =>
        rename_i x t
        exact ⟨p ++ [ocS c f x], List.mem_flatMap.2 ⟨p, hp, List.mem_map.2 ⟨_, mem_outcomesS.2 ⟨x, hx, rfl⟩, rfl⟩⟩, t, hk, by simp [ocsT]⟩
theorem mem_ends {c : Cas} {fs : List Fld} {q : List Oc} : q ∈ endsF c fs ↔ ∃ t, TruthOf fs t ∧ q = ocsT c fs t := by
  unfold endsF
  rw [mem_prod]
  constructor
  · rintro ⟨p, hp, t, ht, rfl⟩
    obtain rfl := List.mem_singleton.1 hp
    exact ⟨t, ht, rfl⟩
  · rintro ⟨t, ht, rfl⟩; exact ⟨[], by simp, t, ht, rfl⟩
def askR (k : Nat) (fee : Int) (r : Rs) : Int := match k with
  | 0 => r.award
  | 1 => r.far fee
  | 2 => r.soc fee
  | 3 => r.award - r.far fee
  | _ => r.award + r.soc fee
theorem like_ask {s : Sm} {r : Rs} (h : Like s r) (k : Nat) (fee : Int) : askQ k fee s = askR k fee r := by
  unfold askQ askR
  split <;> simp [h.award, h.far, h.soc]
theorem like_sum {c : Cas} (hc : CasOK c) (h0 : checkS c.tars = 0) {t : List Thr} (ht : TruthOf c.flds t) : SmN c.flds.length (sumT c c.flds t) ∧ Like (sumT c c.flds t) (sumR (ocsT c c.flds t)) := by
  obtain ⟨hl, hk⟩ := truthOf_iff.1 ht
  have := like_truth hc h0 c.flds t 0 Sm.zero Rs.zero (fun k h1 h2 => ⟨List.getElem_mem h1, hk k h1 h2⟩) SmN.zero Like.zero
  have e : 0 + (c.flds.zip t).length = c.flds.length := by simp; omega
  rw [e] at this
  exact this
/-- The hull of numbers. -/
def lowH (l : List Int) : Int := l.foldl min 1099511627776
def highH (l : List Int) : Int := l.foldl max (-1099511627776)
theorem hull_ends {l : List Int} (hne : l ≠ []) (h : ∀ x ∈ l, -1099511627776 ≤ x ∧ x ≤ 1099511627776) : EndsOf (· ∈ l) (lowH l) (highH l) := by
  obtain ⟨h1, h2, h3⟩ := foldl_min l 1099511627776
  obtain ⟨k1, k2, k3⟩ := foldl_max l (-1099511627776)
  obtain ⟨y, hy⟩ := List.exists_mem_of_ne_nil l hne
  have by1 := h y hy
  refine ⟨?_, ?_, fun x hx => ⟨h3 x hx, k3 x hx⟩⟩
  · rcases h1 with e | e
    · have : lowH l = y := by have := h3 y hy; unfold lowH; omega
      rw [this]; exact hy
    · exact e
  · rcases k1 with e | e
    · have : highH l = y := by have := k3 y hy; unfold highH; omega
      rw [this]; exact hy
    · exact e
theorem ask_big {n : Nat} (hn : n ≤ 3) {s : Sm} (h : SmN n s) {fee : Int} (hf : 0 ≤ fee ∧ fee ≤ 10000) (k : Nat) : -1099511627776 ≤ askQ k fee s ∧ askQ k fee s ≤ 1099511627776 := by
  have h1 := feeA_bd hf.1 s
  have h2 := feeB_bd hf.1 s
  have h3 := h.a
  have : 100000 * (n : Int) ≤ 300000 := by omega
  unfold askQ
  split <;> omega
/-- The reference's bounds are the bounds over all truths. -/
theorem ref_bounds {c : Cas} (hc : CasOK c) (h0 : checkS c.tars = 0) (k : Nat) : lowH ((endsF c c.flds).map fun l => askR k c.fee (sumR l)) = bLo c k ∧ highH ((endsF c c.flds).map fun l => askR k c.fee (sumR l)) = bHi c k := by
  have hb := bounds_ends hc k
  have key : ∀ x, x ∈ ((endsF c c.flds).map fun l => askR k c.fee (sumR l)) ↔ ∃ s ∈ sumsS c, askQ k c.fee s = x := fun x => by
    rw [List.mem_map]
    constructor
    · rintro ⟨l, hl, rfl⟩
      obtain ⟨t, ht, rfl⟩ := mem_ends.1 hl
      exact ⟨_, mem_sumsS.2 ⟨t, ht, rfl⟩, like_ask (like_sum hc h0 ht).2 k _⟩
    · rintro ⟨s, hs, rfl⟩
      obtain ⟨t, ht, rfl⟩ := mem_sumsS.1 hs
      exact ⟨_, mem_ends.2 ⟨t, ht, rfl⟩, (like_ask (like_sum hc h0 ht).2 k _).symm⟩
  refine ((hull_ends ?_ ?_).congr key).unique hb
  · intro e
    have := (key _).2 hb.mn
    rw [e] at this; cases this
  · intro x hx
    obtain ⟨s, hs, rfl⟩ := (key x).1 hx
    obtain ⟨t, ht, rfl⟩ := mem_sumsS.1 hs
    exact ask_big hc.few (like_sum hc h0 ht).1 hc.fee k
/-- Whether the umpire matters, by the reference. -/
def matterR (c : Cas) (f : Fld) : Bool := (truthsS f).any fun x => (truthsS f).any fun y => decide (x.a = y.a) && (decide (x.b = y.b) && (ocS c f x).pay != (ocS c f y).pay)
theorem matterR_eq (c : Cas) (f : Fld) : matterR c f = matterB c f := by
  rw [Bool.eq_iff_iff, matter_iff]
  unfold matterR
  simp only [List.any_eq_true, Bool.and_eq_true, decide_eq_true_eq, bne_iff_ne, ne_eq]
  constructor
  · rintro ⟨x, hx, y, hy, e1, e2, h⟩
    have hx' := mem_truths.1 hx
    have hy' := mem_truths.1 hy
    refine ⟨y, x.u, hy', hx'.u.1, hx'.u.2, fun e => h ?_⟩
    rw [← e1, ← e2] at e
    exact e
  · rintro ⟨x, u, hx, h1, h2, h⟩
    exact ⟨⟨x.a, x.b, u⟩, mem_truths.2 ⟨hx.a, hx.b, ⟨h1, h2⟩⟩, x, mem_truths.2 hx, rfl, rfl, h⟩
end Go.Hs
