/- Plain laws of layer 7: the adjusters' parts changed, each field alone, wider ranges. -/
import Derived.Test.YtbmjnilcinfdiaaGreatKXB
set_option linter.unusedSimpArgs false
set_option linter.unusedVariables false
namespace Go.Hs
open Go.RowKit Go.Proofs.YtbmjnilcinfdiaaGreat
/-- The parts changed. -/
def Fld.turn (f : Fld) : Fld := { f with alo := f.blo, ahi := f.bhi, blo := f.alo, bhi := f.ahi }
def Thr.turn (x : Thr) : Thr := ⟨x.b, x.a, x.u⟩
def Cas.turn (c : Cas) : Cas := c.withF (c.flds.map Fld.turn)
def Sm.turn (s : Sm) : Sm := ⟨s.award, s.e0, s.e1, s.e3, s.e2⟩
theorem absI_comm (a b : Int) : absI (a - b) = absI (b - a) := by unfold absI; omega
theorem turn_ok {l : List Tar} {f : Fld} (h : FldOK l f) : FldOK l f.turn := ⟨h.crop, h.value, h.near, h.b, h.a, h.u⟩
theorem turn_E {c : Cas} (h : caseE c = 0) : caseE c.turn = 0 := by
  have hc := caseE_zero h
  refine withF_E h (by simpa using hc.few) (fun g hg => ?_)
  obtain ⟨f, hf, rfl⟩ := List.mem_map.1 hg
  exact turn_ok (hc.flds f hf)
theorem turn_called (f : Fld) (x : Thr) : calledB f.turn x.turn = calledB f x := by
  have e : absI (x.turn.a - x.turn.b) = absI (x.a - x.b) := absI_comm x.b x.a
  unfold calledB
  rw [Bool.eq_iff_iff, decide_eq_true_iff, decide_eq_true_iff, e]
  exact Iff.rfl
theorem turn_settled (f : Fld) (x : Thr) : settledS f.turn x.turn = settledS f x := by
  unfold settledS
  rw [turn_called]
  simp only [Thr.turn, Int.min_comm x.b x.a, Int.max_comm x.b x.a, Int.add_comm x.b x.a]
theorem loser_swap (p q : Int) : (if p < q then (2 : Nat) else if q < p then 3 else 1) = if (if q < p then (2 : Nat) else if p < q then 3 else 1) = 2 then 3 else if (if q < p then (2 : Nat) else if p < q then 3 else 1) = 3 then 2 else (if q < p then (2 : Nat) else if p < q then 3 else 1) := by
  by_cases h1 : p < q
  · have h2 : ¬ q < p := by omega
    simp [h1, h2]
  · by_cases h2 : q < p
    · simp [h1, h2]
    · simp [h1, h2]
theorem turn_loser (f : Fld) (x : Thr) : loserS f.turn x.turn = if loserS f x = 2 then 3 else if loserS f x = 3 then 2 else loserS f x := by
  have e1 := turn_called f x
  have e2 := turn_settled f x
  unfold loserS
  rw [e1, e2]
  cases calledB f x
  · rfl
  · exact loser_swap (absI (x.a - settledS f x)) (absI (x.b - settledS f x))
theorem turn_thr {f : Fld} {x : Thr} (h : ThrOK f x) : ThrOK f.turn x.turn := ⟨h.b, h.a, h.u⟩
theorem turn_turn (x : Thr) : x.turn.turn = x := rfl
theorem turn_thr' {f : Fld} {x : Thr} (h : ThrOK f.turn x) : ThrOK f x.turn := ⟨h.b, h.a, h.u⟩
theorem turn_pay (c : Cas) (f : Fld) (n : Int) : payC c.turn f.turn n = payC c f n := rfl
theorem plus_swap (s : Sm) (pay : Int) (k : Nat) : s.turn.plus ⟨pay, if k = 2 then 3 else if k = 3 then 2 else k⟩ = (s.plus ⟨pay, k⟩).turn := by
  simp only [Sm.plus, Sm.turn]
  by_cases h2 : k = 2
  · subst h2; simp
  · by_cases h3 : k = 3
    · subst h3; simp
    · simp [h2, h3]
theorem turn_plus (c : Cas) (s : Sm) (f : Fld) (x : Thr) : s.turn.plus (outS c.turn f.turn x.turn) = (s.plus (outS c f x)).turn := by
  have e : outS c.turn f.turn x.turn = ⟨payC c f (settledS f x), if loserS f x = 2 then 3 else if loserS f x = 3 then 2 else loserS f x⟩ := by
    unfold outS
    rw [turn_settled, turn_loser]; rfl
  rw [e]
  exact plus_swap s _ _
theorem turn_fold (c : Cas) : ∀ (fs : List Fld) (t : List Thr) (s : Sm), ((fs.map Fld.turn).zip (t.map Thr.turn)).foldl (fun s p => s.plus (outS c.turn p.1 p.2)) s.turn = ((fs.zip t).foldl (fun s p => s.plus (outS c p.1 p.2)) s).turn
  | [], t, s => by simp
  | f :: fs, [], s => by simp
  | f :: fs, x :: t, s => by
    simp only [List.map_cons, List.zip_cons_cons, List.foldl_cons]
    rw [turn_plus]
    exact turn_fold c fs t _
theorem turn_sum (c : Cas) (t : List Thr) : sumT c.turn c.turn.flds (t.map Thr.turn) = (sumT c c.flds t).turn := turn_fold c c.flds t Sm.zero
theorem turn_truth {fs : List Fld} {t : List Thr} (h : TruthOf fs t) : TruthOf (fs.map Fld.turn) (t.map Thr.turn) := by
  induction h with
  | nil => exact .nil
  | cons hx _ ih => exact .cons (turn_thr hx) ih
theorem turn_truth' {fs : List Fld} {t : List Thr} (h : TruthOf (fs.map Fld.turn) t) : ∃ u, TruthOf fs u ∧ t = u.map Thr.turn := by
  induction fs generalizing t with
  | nil => cases h; exact ⟨[], .nil, rfl⟩
  | cons f fs ih =>
    cases h with
    | cons hx hk =>
      rename_i x t
      obtain ⟨u, hu, rfl⟩ := ih hk
      exact ⟨x.turn :: u, .cons (turn_thr' hx) hu, rfl⟩
theorem turn_award {c : Cas} (h : caseE c = 0) : bLo c.turn 0 = bLo c 0 ∧ bHi c.turn 0 = bHi c 0 := by
  refine ((bounds_ends (caseE_zero (turn_E h)) 0).congr (fun x => ?_)).unique (bounds_ends (caseE_zero h) 0)
  simp only [mem_sumsS, askQ]
  constructor
  · rintro ⟨s, ⟨t, ht, rfl⟩, rfl⟩
    obtain ⟨u, hu, rfl⟩ := turn_truth' (fs := c.flds) ht
    exact ⟨_, ⟨u, hu, rfl⟩, by rw [turn_sum]; rfl⟩
  · rintro ⟨s, ⟨t, ht, rfl⟩, rfl⟩
    exact ⟨_, ⟨t.map Thr.turn, turn_truth ht, rfl⟩, by rw [turn_sum]; rfl⟩
theorem matter_iff {c : Cas} {f : Fld} : matterB c f = true ↔ ∃ x u, ThrOK f x ∧ f.ulo ≤ u ∧ u ≤ f.uhi ∧ payC c f (settledS f ⟨x.a, x.b, u⟩) ≠ payC c f (settledS f x) := by
  unfold matterB
  simp only [List.any_eq_true, bne_iff_ne, ne_eq]
  constructor
  · rintro ⟨x, hx, u, hu, h⟩; exact ⟨x, u, mem_truths.1 hx, (mem_every.1 hu).1, (mem_every.1 hu).2, h⟩
  · rintro ⟨x, u, hx, h1, h2, h⟩; exact ⟨x, mem_truths.2 hx, u, mem_every.2 ⟨h1, h2⟩, h⟩
theorem turn_matter (c : Cas) (f : Fld) : matterB c.turn f.turn = matterB c f := by
  rw [Bool.eq_iff_iff, matter_iff, matter_iff]
  constructor
  · rintro ⟨x, u, hx, h1, h2, h⟩
    refine ⟨x.turn, u, turn_thr' hx, h1, h2, ?_⟩
    rw [turn_pay, turn_pay] at h
    intro e; apply h
    have e1 := turn_settled f ⟨x.turn.a, x.turn.b, u⟩
    have e2 := turn_settled f x.turn
    rw [turn_turn] at e2
    rw [← e1, ← e2] at e
    exact e
  · rintro ⟨x, u, hx, h1, h2, h⟩
    refine ⟨x.turn, u, turn_thr hx, h1, h2, ?_⟩
    rw [turn_pay, turn_pay]
    intro e; apply h
    have e1 := turn_settled f ⟨x.a, x.b, u⟩
    have e2 := turn_settled f x
    rw [← e1, ← e2]
    exact e
theorem turn_matters (c : Cas) : mattersS c.turn = mattersS c := by
  unfold mattersS
  have hl : c.turn.flds.length = c.flds.length := by simp [Cas.turn, Cas.withF]
  rw [hl]
  congr 1
  refine List.filter_congr (fun i hi => ?_)
  have hi' : i < c.flds.length := List.mem_range.1 hi
  have : c.turn.flds.getD i default = (c.flds.getD i default).turn := by simp [Cas.turn, Cas.withF, hi']
  rw [this, turn_matter]
theorem turn_fees (fee : Int) (s : Sm) (h : 0 ≤ fee) : (feeA fee s - feeB fee s.turn = 0 ∨ feeA fee s - feeB fee s.turn = 1 ∧ feeB fee s = feeB fee s.turn ∧ feeA fee s = feeB fee s + 1) ∧ feeA fee s + feeB fee s = feeA fee s.turn + feeB fee s.turn := by
  have e : calledS s.turn = calledS s := by
    unfold calledS Sm.turn; simp only; congr 1; simp only [eq_iff_iff]; omega
  unfold feeA feeB
  rw [e]
  simp only [Sm.turn]
  cases calledS s
  · simp
  · simp only [if_true]
    by_cases h1 : s.e3 < s.e2
    · have h2 : ¬ s.e2 < s.e3 := by omega
      simp [h1, h2]
    · by_cases h2 : s.e2 < s.e3
      · simp [h1, h2]
      · simp only [if_neg h1, if_neg h2]; omega

/-- Wider ranges. -/
structure WiderF (f g : Fld) : Prop where
  crop : g.crop = f.crop
  value : g.value = f.value
  near : g.near = f.near
  a : g.alo ≤ f.alo ∧ f.ahi ≤ g.ahi
  b : g.blo ≤ f.blo ∧ f.bhi ≤ g.bhi
  u : g.ulo ≤ f.ulo ∧ f.uhi ≤ g.uhi
theorem WiderF.refl (f : Fld) : WiderF f f := ⟨rfl, rfl, rfl, ⟨Int.le_refl _, Int.le_refl _⟩, ⟨Int.le_refl _, Int.le_refl _⟩, ⟨Int.le_refl _, Int.le_refl _⟩⟩
theorem WiderF.thr {f g : Fld} (h : WiderF f g) {x : Thr} (hx : ThrOK f x) : ThrOK g x := by
  have := h.a; have := h.b; have := h.u; have := hx.a; have := hx.b; have := hx.u
  refine ⟨?_, ?_, ?_⟩ <;> omega
theorem WiderF.called {f g : Fld} (h : WiderF f g) (x : Thr) : calledB g x = calledB f x := by
  unfold calledB
  rw [Bool.eq_iff_iff, decide_eq_true_iff, decide_eq_true_iff, h.near]
theorem WiderF.settled {f g : Fld} (h : WiderF f g) (x : Thr) : settledS g x = settledS f x := by
  unfold settledS
  rw [h.called]
theorem WiderF.out {f g : Fld} (h : WiderF f g) (c d : Cas) (ht : d.tars = c.tars) (hd : d.day = c.day) (x : Thr) : outS d g x = outS c f x := by
  have e := h.settled x
  have e2 : loserS g x = loserS f x := by unfold loserS; rw [h.called, e]
  unfold outS
  rw [e, e2]
  unfold payC claimF
  rw [ht, hd, h.crop, h.value]
inductive WiderL : List Fld → List Fld → Prop
  | nil : WiderL [] []
  | cons {f g : Fld} {fs gs : List Fld} (h : WiderF f g) (k : WiderL fs gs) : WiderL (f :: fs) (g :: gs)
theorem WiderL.refl : ∀ l : List Fld, WiderL l l
  | [] => .nil
  | f :: l => .cons (.refl f) (.refl l)
theorem WiderL.set {g : Fld} : ∀ (l : List Fld) (k : Nat) (_ : ∀ h : k < l.length, WiderF l[k] g), WiderL l (l.set k g)
  | [], k, _ => by simp; exact .nil
  | f :: l, 0, h => .cons (h (by simp)) (.refl l)
  | f :: l, k + 1, h => .cons (.refl f) (WiderL.set l k (fun hk => by have := h (by simpa using hk); simpa using this))
theorem WiderL.sums {c d : Cas} (ht : d.tars = c.tars) (hd : d.day = c.day) {fs gs : List Fld} (h : WiderL fs gs) : ∀ (s r : Sm), r ∈ sumsFrom c fs s → r ∈ sumsFrom d gs s := by
  induction h with
  | nil => intro s r h; exact h
  | cons hf _ ih =>
    intro s r hr
    simp only [sumsFrom, List.mem_flatMap] at hr ⊢
    obtain ⟨x, hx, hr⟩ := hr
    exact ⟨x, mem_truths.2 (hf.thr (mem_truths.1 hx)), by rw [hf.out c d ht hd]; exact ih _ r hr⟩
theorem wider_bounds {c : Cas} (h : CasOK c) {l : List Fld} (hl : CasOK (c.withF l)) (hw : WiderL c.flds l) (k : Nat) : bLo (c.withF l) k ≤ bLo c k ∧ bHi c k ≤ bHi (c.withF l) k := by
  have hs : ∀ x, (∃ s, s ∈ sumsS c ∧ askQ k c.fee s = x) → (∃ s, s ∈ sumsS (c.withF l) ∧ askQ k (c.withF l).fee s = x) := by
    rintro x ⟨s, hs, rfl⟩
    exact ⟨s, hw.sums (c := c) (d := c.withF l) rfl rfl _ _ hs, rfl⟩
  exact ⟨ends_sub (bounds_ends h k) (bounds_ends hl k) (fun x hx => ⟨x, hs x hx, Int.le_refl _⟩), ends_sup (bounds_ends h k) (bounds_ends hl k) (fun x hx => ⟨x, hs x hx, Int.le_refl _⟩)⟩
theorem mem_counts {f : Fld} {n : Int} : n ∈ countsS f ↔ (0 ≤ n ∧ n ≤ 100) ∧ ∃ x, ThrOK f x ∧ settledS f x = n := by
  unfold countsS isCount
  simp only [List.mem_map, List.mem_filter, List.mem_range, List.any_eq_true, beq_iff_eq]
  constructor
  · rintro ⟨i, ⟨hi, x, hx, e⟩, rfl⟩
    exact ⟨by omega, x, mem_truths.1 hx, e⟩
  · rintro ⟨h, x, hx, e⟩
    exact ⟨n.toNat, ⟨by omega, x, mem_truths.2 hx, by omega⟩, by omega⟩
theorem wider_counts {f g : Fld} (h : WiderF f g) {n : Int} (hn : n ∈ countsS f) : n ∈ countsS g := by
  obtain ⟨h1, x, hx, e⟩ := mem_counts.1 hn
  exact mem_counts.2 ⟨h1, x, h.thr hx, by rw [h.settled]; exact e⟩
end Go.Hs
