/- Plain laws of layer 7: a greater Near, the adjusters' parts changed, what does not matter, wider ranges. -/
import Derived.Test.YtbmjnilcinfdiaaGreatKB9
set_option linter.unusedSimpArgs false
set_option linter.unusedVariables false
namespace Go.Hs
open Go.RowKit Go.Proofs.YtbmjnilcinfdiaaGreat
/-- The case with other fields. -/
def Cas.withF (c : Cas) (l : List Fld) : Cas := { c with flds := l }
theorem withF_ok {c : Cas} (h : CasOK c) {l : List Fld} (hn : l.length ≤ 3) (hl : ∀ f ∈ l, FldOK c.tars f) : CasOK (c.withF l) := ⟨h.tars, hn, h.day, h.fee, hl⟩
theorem withF_E {c : Cas} (h : caseE c = 0) {l : List Fld} (hn : l.length ≤ 3) (hl : ∀ f ∈ l, FldOK c.tars f) : caseE (c.withF l) = 0 := caseE_of (c := c.withF l) (show checkS c.tars = 0 from caseE_tars h) (withF_ok (caseE_zero h) hn hl)
theorem mem_set {l : List Fld} {k : Nat} {f g : Fld} (h : g ∈ l.set k f) : g = f ∨ g ∈ l := by
  rcases List.mem_or_eq_of_mem_set h with h | h
  · exact .inr h
  · exact .inl h
theorem setF_E {c : Cas} (h : caseE c = 0) {k : Nat} {f : Fld} (hf : FldOK c.tars f) : caseE (c.withF (c.flds.set k f)) = 0 := by
  have hc := caseE_zero h
  refine withF_E h (by simpa using hc.few) (fun g hg => ?_)
  rcases mem_set hg with rfl | hg
  · exact hf
  · exact hc.flds g hg

/-- The umpire is never called, or always. -/
theorem called_never {f : Fld} : calledV f = 2 ↔ ∀ x ∈ truthsS f, calledB f x = false := by
  unfold calledV
  cases h1 : (truthsS f).any (fun x => !calledB f x) <;> cases h2 : (truthsS f).any (calledB f)
  · simp only [List.any_eq_false] at h2; simp; intro x hx; simpa using h2 x hx
  · simp only [List.any_eq_true] at h2; obtain ⟨x, hx, e⟩ := h2
    simp; exact ⟨x, hx, e⟩
  · simp only [List.any_eq_false] at h2; simp; intro x hx; simpa using h2 x hx
  · simp only [List.any_eq_true] at h2; obtain ⟨x, hx, e⟩ := h2
    simp; exact ⟨x, hx, e⟩
theorem called_always {f : Fld} : calledV f = 1 ↔ (∃ x, x ∈ truthsS f) ∧ ∀ x ∈ truthsS f, calledB f x = true := by
  unfold calledV
  cases h1 : (truthsS f).any (fun x => !calledB f x) <;> cases h2 : (truthsS f).any (calledB f)
  · simp only [List.any_eq_false] at h1 h2
    simp; intro x hx
    have := h1 x hx; have := h2 x hx; simp_all
  · simp only [List.any_eq_false] at h1
    simp only [List.any_eq_true] at h2; obtain ⟨x, hx, e⟩ := h2
    simp; exact ⟨⟨x, hx⟩, fun y hy => by simpa using h1 y hy⟩
  · simp only [List.any_eq_true] at h1; obtain ⟨x, hx, e⟩ := h1
    simp; intro y hy; exact ⟨x, hx, by simpa using e⟩
  · simp only [List.any_eq_true] at h1; obtain ⟨x, hx, e⟩ := h1
    simp; intro y hy; exact ⟨x, hx, by simpa using e⟩
theorem calledV_in (f : Fld) : calledV f = 1 ∨ calledV f = 2 ∨ calledV f = 3 := by
  unfold calledV
  split <;> split <;> simp
def Fld.withNear (f : Fld) (n : Int) : Fld := { f with near := n }
theorem truths_near (f : Fld) (n : Int) : truthsS (f.withNear n) = truthsS f := rfl
theorem called_near {f : Fld} {n : Int} {x : Thr} (h : f.near ≤ n) (hc : calledB (f.withNear n) x = true) : calledB f x = true :=
  decide_eq_true (Int.lt_of_le_of_lt h (of_decide_eq_true hc : n < absI (x.a - x.b)))
theorem called_far {l : List Tar} {f : Fld} (hf : FldOK l f) {x : Thr} (hx : ThrOK f x) : calledB (f.withNear 100) x = false :=
  decide_eq_false (fun h : (100 : Int) < absI (x.a - x.b) => by
    have h1 := hf.a; have h2 := hf.b; have h3 := hx.a; have h4 := hx.b
    unfold absI at h; omega)
theorem near_never {l : List Tar} {f : Fld} (hf : FldOK l f) : calledV (f.withNear 100) = 2 := called_never.2 fun x hx => called_far hf (mem_truths.1 hx)
theorem near_still {f : Fld} {n : Int} (h : f.near ≤ n) (hc : calledV f = 2) : calledV (f.withNear n) = 2 := called_never.2 fun x hx => by
  cases e : calledB (f.withNear n) x with
  | false => rfl
  | true => have := called_near h e; rw [called_never.1 hc x hx] at this; cases this
theorem near_before {f : Fld} {n : Int} (h : f.near ≤ n) (hc : calledV (f.withNear n) = 1) : calledV f = 1 := by
  obtain ⟨h1, h2⟩ := called_always.1 hc
  exact called_always.2 ⟨h1, fun x hx => called_near h (h2 x hx)⟩
theorem near_ok {l : List Tar} {f : Fld} (hf : FldOK l f) {n : Int} (hn : 0 ≤ n ∧ n ≤ 100) : FldOK l (f.withNear n) := ⟨hf.crop, hf.value, hn, hf.a, hf.b, hf.u⟩

/-- What does not matter. -/
theorem mem_matters {c : Cas} {k : Nat} : (k : Int) ∈ mattersS c ↔ k < c.flds.length ∧ matterB c (c.flds.getD k default) = true := by
  unfold mattersS
  simp only [List.mem_map, List.mem_filter, List.mem_range]
  constructor
  · rintro ⟨i, h, e⟩
    obtain rfl : i = k := by omega
    exact h
  · intro h; exact ⟨k, h, rfl⟩
theorem matter_no {c : Cas} {f : Fld} (h : ∀ x, ThrOK f x → ∀ u, f.ulo ≤ u → u ≤ f.uhi → payC c f (settledS f ⟨x.a, x.b, u⟩) = payC c f (settledS f x)) : matterB c f = false := by
  unfold matterB
  rw [List.any_eq_false]
  intro x hx
  rw [Bool.not_eq_true, List.any_eq_false]
  intro u hu
  have hu' := mem_every.1 hu
  rw [Bool.not_eq_true, bne_eq_false_iff_eq]
  exact h x (mem_truths.1 hx) u hu'.1 hu'.2
theorem calledB_u (f : Fld) (x : Thr) (u : Int) : calledB f ⟨x.a, x.b, u⟩ = calledB f x := rfl
theorem matter_never {c : Cas} {f : Fld} (h : calledV f = 2) : matterB c f = false := matter_no fun x hx u _ _ => by
  have hc := called_never.1 h x (mem_truths.2 hx)
  unfold settledS
  rw [calledB_u, hc]; rfl
theorem matter_known {c : Cas} {f : Fld} (h : f.ulo = f.uhi) : matterB c f = false := matter_no fun x hx u h1 h2 => by
  have : u = x.u := by have := hx.u; omega
  rw [this]
theorem matter_free {c : Cas} (hc : CasOK c) (h0 : checkS c.tars = 0) {f : Fld} (hf : FldOK c.tars f) (h : f.value = 0) : matterB c f = false := matter_no fun x hx u h1 h2 => by
  have hb := hf.a; have hb2 := hf.b; have ha := hx.a; have hbx := hx.b
  have e : ∀ n, 0 ≤ n ∧ n ≤ 100 → payC c f n = 0 := fun n hn => by
    rw [payC_eq h0 (claimF_iff.2 ⟨hf.crop, hf.value, hc.day, hn⟩), h]
    simp [payI]
  rw [e _ (settled_bd ⟨by simp only; omega, by simp only; omega⟩ ⟨by simp only; omega, by simp only; omega⟩), e _ (settled_bd ⟨by omega, by omega⟩ ⟨by omega, by omega⟩)]

/-- A truth's sum is one of all sums. -/
theorem sumT_cons (c : Cas) (f : Fld) (fs : List Fld) (x : Thr) (t : List Thr) (s : Sm) : ((f :: fs).zip (x :: t)).foldl (fun s p => s.plus (outS c p.1 p.2)) s = (fs.zip t).foldl (fun s p => s.plus (outS c p.1 p.2)) (s.plus (outS c f x)) := rfl
/-- A truth of some fields. -/
inductive TruthOf : List Fld → List Thr → Prop
  | nil : TruthOf [] []
  | cons {f : Fld} {fs : List Fld} {x : Thr} {t : List Thr} (h : ThrOK f x) (k : TruthOf fs t) : TruthOf (f :: fs) (x :: t)
theorem mem_sums {c : Cas} : ∀ (fs : List Fld) (s r : Sm), r ∈ sumsFrom c fs s ↔ ∃ t, TruthOf fs t ∧ r = (fs.zip t).foldl (fun s p => s.plus (outS c p.1 p.2)) s
  | [], s, r => by
    simp only [sumsFrom, List.mem_singleton]
    constructor
    · intro h; exact ⟨[], .nil, by simpa using h⟩
    · rintro ⟨t, -, h⟩; simpa using h
  | f :: fs, s, r => by
    simp only [sumsFrom, List.mem_flatMap]
    constructor
    · rintro ⟨x, hx, h⟩
      obtain ⟨t, ht, e⟩ := (mem_sums fs _ r).1 h
      exact ⟨x :: t, .cons (mem_truths.1 hx) ht, by rw [sumT_cons]; exact e⟩
    · rintro ⟨t, ht, e⟩
      cases ht with
      | cons hx hk => exact ⟨_, mem_truths.2 hx, (mem_sums fs _ r).2 ⟨_, hk, by rw [sumT_cons] at e; exact e⟩⟩
theorem mem_sumsS {c : Cas} {r : Sm} : r ∈ sumsS c ↔ ∃ t, TruthOf c.flds t ∧ r = sumT c c.flds t := mem_sums c.flds Sm.zero r
theorem truthOf_iff {fs : List Fld} {t : List Thr} : TruthOf fs t ↔ t.length = fs.length ∧ ∀ k (h1 : k < fs.length) (h2 : k < t.length), ThrOK fs[k] t[k] := by
  constructor
  · intro h
    induction h with
    | nil => exact ⟨rfl, fun k h1 => by simp at h1⟩
    | cons hx _ ih =>
      refine ⟨by simp [ih.1], fun k h1 h2 => ?_⟩
      cases k with
      | zero => exact hx
      | succ k => exact ih.2 k (by simpa using h1) (by simpa using h2)
  · induction fs generalizing t with
    | nil => rintro ⟨h, -⟩; cases t with
      | nil => exact .nil
      | cons _ _ => simp at h
    | cons f fs ih =>
      rintro ⟨h, k⟩
      cases t with
      | nil => simp at h
      | cons x t => exact .cons (k 0 (by simp) (by simp)) (ih ⟨by simpa using h, fun i h1 h2 => by have := k (i + 1) (by simpa using h1) (by simpa using h2); simpa using this⟩)
theorem in_bounds {c : Cas} (h : CasOK c) {t : List Thr} (ht : TruthOf c.flds t) (k : Nat) : bLo c k ≤ askQ k c.fee (sumT c c.flds t) ∧ askQ k c.fee (sumT c c.flds t) ≤ bHi c k :=
  (bounds_ends h k).all _ ⟨_, mem_sumsS.2 ⟨t, ht, rfl⟩, rfl⟩
end Go.Hs
