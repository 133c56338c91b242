/- An argument that is a list of tariffs, opened: what the walk is told of it. -/
import Derived.Test.YtfjecbfcnngacaaRows
import Derived.Test.YtfjecbfcnngacaaN
import Derived.ProofKit
import Derived.OpenShut
import Derived.ChangeOld
import Derived.Deep.Slices
import Derived.Deep.Fields
namespace Go.Hs
open Go.RowKit
/-- A slice of whatever length that reads as a list. -/
def SliceW {α : Type} (R : World → Nat → Nat → α → Prop) (k : Nat) (w : World) (v : Value) (xs : List α) : Prop :=
  ∃ a cap, v = .slice a xs.length cap ∧ xs.length ≤ cap ∧ xs.length ≤ 9223372036854775807 ∧ Rows R k w a xs
def IntsW : World → Value → List Int → Prop := SliceW IntAt 1
def IntsAtW (w : World) (b o : Nat) (xs : List Int) : Prop := ∃ v, w.cell? ⟨b, o, none⟩ = some v ∧ IntsW w v xs
def Ints2W : World → Value → List (List Int) → Prop := SliceW IntsAtW 1
def Ints2AtW (w : World) (b o : Nat) (xs : List (List Int)) : Prop := ∃ v, w.cell? ⟨b, o, none⟩ = some v ∧ Ints2W w v xs
def Ints3W : World → Value → List (List (List Int)) → Prop := SliceW Ints2AtW 1
structure TarCW (w : World) (c3 c4 c5 : Value) (t : Tar) : Prop where
  f : i64ok t.start
  l : i64ok t.least
  weeks : IntsW w c3 t.weeks
  counts : IntsW w c4 t.counts
  rates : Ints3W w c5 t.rates
def TarAtW (w : World) (b o : Nat) (t : Tar) : Prop := ∃ c3 c4 c5,
  w.cell? ⟨b, o, none⟩ = some (.int .i64 t.start) ∧ w.cell? ⟨b, o + 1, none⟩ = some (.bool t.whole) ∧ w.cell? ⟨b, o + 2, none⟩ = some (.int .i64 t.least) ∧
  w.cell? ⟨b, o + 3, none⟩ = some c3 ∧ w.cell? ⟨b, o + 4, none⟩ = some c4 ∧ w.cell? ⟨b, o + 5, none⟩ = some c5 ∧ TarCW w c3 c4 c5 t
def TarsW : World → Value → List Tar → Prop := SliceW TarAtW 6
/-- At most 5 tariffs, of at most 7 weeks and counts, and 5 crops with at most 7 lists of at most 7 rates. -/
def thinC (x : List (List Int)) : Bool := decide (x.length ≤ 7) && allB x.length (fun i => decide ((x.getD i []).length ≤ 7))
def thinT (t : Tar) : Bool := decide (t.weeks.length ≤ 7) && decide (t.counts.length ≤ 7) && decide (t.rates.length ≤ 5) && allB t.rates.length (fun c => thinC (t.rates.getD c []))
def thinB (l : List Tar) : Bool := decide (l.length ≤ 5) && allB l.length (fun i => thinT (l.getD i default))

theorem SliceW.toV {α : Type} {R S : World → Nat → Nat → α → Prop} {k : Nat} {w : World} {v : Value} {xs : List α} (h : SliceW R k w v xs) (hl : xs.length ≤ 7)
    (hs : ∀ i (hi : i < xs.length) b o, R w b o xs[i] → S w b o xs[i]) : SliceV S k w v xs := by
  obtain ⟨a, c, he, h1, -, hr⟩ := h
  refine ⟨a, c, he, h1, by omega, fun i hi => ?_⟩
  obtain ⟨b, o, hb, hx⟩ := hr i hi
  exact ⟨b, o, hb, hs i hi _ _ hx⟩
theorem IntsW.toV {w : World} {v : Value} {xs : List Int} (h : IntsW w v xs) (hl : xs.length ≤ 7) : IntsV w v xs := SliceW.toV h hl (fun _ _ _ _ h => h)
theorem Ints2W.toV {w : World} {v : Value} {xs : List (List Int)} (h : Ints2W w v xs) (hl : thinC xs = true) : Ints2V w v xs := by
  simp only [thinC, Bool.and_eq_true, decide_eq_true_eq, allB_iff] at hl
  refine SliceW.toV h hl.1 (fun i hi b o hx => ?_)
  obtain ⟨u, hc, hu⟩ := hx
  exact ⟨u, hc, hu.toV (by have := hl.2 i hi; simpa [hi] using this)⟩
theorem TarsW.toV {w : World} {v : Value} {l : List Tar} (h : TarsW w v l) (hl : thinB l = true) : TarsV w v l := by
  simp only [thinB, thinT, Bool.and_eq_true, decide_eq_true_eq, allB_iff] at hl
  refine SliceW.toV h (by omega) (fun i hi b o hx => ?_)
  obtain ⟨c3, c4, c5, h0, h1, h2, h3, h4, h5, g0, g1, g2, g3, g4⟩ := hx
  have ht := hl.2 i hi
  have e : l.getD i default = l[i] := by simp [hi]
  rw [e] at ht
  refine ⟨c3, c4, c5, h0, h1, h2, h3, h4, h5, g0, g1, g2.toV ht.1.1.1, g3.toV ht.1.1.2, SliceW.toV g4 (by omega) (fun j hj b o hx => ?_)⟩
  obtain ⟨u, hc, hu⟩ := hx
  exact ⟨u, hc, hu.toV (by have := ht.2 j hj; simpa [hj] using this)⟩
end Go.Hs
namespace Go.Proofs.Ytfjecbfcnngacaa
open Go.ChangeShapes Go.WideShapes Go.ChangeAt Go.RowKit Go.Deep Go.Hs
section
variable {H : Type} {enc : TypeId × Value → H} {w : World} {base : Nat} {spare : Nat → Bool} {held : Bool}

theorem add_none (b o n : Nat) : (⟨b, o, none⟩ : Addr).add n = ⟨b, o + n, none⟩ := by
  unfold Addr.add
  split
  · rename_i h; subst h; rfl
  · rfl
theorem spot_none {a : Addr} {v : Value} (h : w.cell? (a.add 0) = some v) : a = ⟨a.block, a.off, none⟩ := by
  obtain ⟨b, o, s⟩ := a
  cases s with
  | none => rfl
  | some s =>
    have e : (⟨b, o, some s⟩ : Addr).add 0 = ⟨b, o, some s⟩ := rfl
    rw [e] at h
    unfold World.cell? at h
    split at h
    · simp at h
    · cases h

theorem slice_open {α : Type} [Inhabited α] {P : Program} {t e : TypeId} {k : Nat} {R : World → Nat → Nat → α → Prop} (ht : P.underlying t = some (.slice e)) (hk : P.cellsOf e = k + 1)
    (hR : ∀ b o cs n y, w.cells? base ⟨b, o, none⟩ (k + 1) = some cs → DataW.trod enc P w base spare held n e cs = some y → ∃ x, R w b o x)
    {fuel : Nat} {v : Value} {x : DataW H × List MemPlace} (h : DataW.trod enc P w base spare held fuel t [v] = some x) : ∃ xs, SliceW R (k + 1) w v xs := by
  rcases open_slice ht h with ⟨h0, -⟩ | ⟨a, len, cap, m, n, D, Pl, hcs, -, hl, hm, hmm, -, hi⟩
  · simp at h0; subst h0
    exact ⟨[], none, 0, rfl, Nat.le_refl _, by simp, fun i h => absurd h (Nat.not_lt_zero _)⟩
  · simp at hcs; subst hcs
    have hex : ∀ i : Nat, ∃ x : α, i < len → ∃ b off, some a = some ⟨b, off, none⟩ ∧ R w b (off + i * (k + 1)) x := by
      intro i
      by_cases hil : i < len
      · obtain ⟨cs', hc, hd⟩ := hi i (by rw [hmm]; split <;> omega)
        rw [hk] at hc
        obtain ⟨cs0, hc0, -⟩ := hi 0 (by rw [hmm]; split <;> omega)
        rw [hk, Nat.zero_mul] at hc0
        obtain ⟨-, hcl, hat⟩ := World.cells?_some hc0
        have hz := hat 0 (by omega)
        rw [List.getElem?_eq_getElem (by omega)] at hz
        have e0 : a.add 0 = a := by unfold Addr.add; simp
        rw [e0] at hz
        have ha := spot_none hz
        rw [ha, add_none] at hc
        obtain ⟨x, hx⟩ := hR _ _ _ _ _ hc hd
        exact ⟨x, fun _ => ⟨a.block, a.off, by rw [← ha], hx⟩⟩
      · exact ⟨default, fun h => absurd h hil⟩
    refine ⟨(List.range len).map (fun i => Classical.choose (hex i)), some a, cap, by simp, by simpa using hl, ?_, fun i hi => ?_⟩
    · simp only [maxLen] at hm; simp; omega
    · simp at hi
      have := Classical.choose_spec (hex i) hi
      simpa using this

theorem cell_one {b o : Nat} {cs : List Value} (h : w.cells? base ⟨b, o, none⟩ (0 + 1) = some cs) : ∃ v, cs = [v] ∧ w.cell? ⟨b, o, none⟩ = some v := by
  obtain ⟨-, hl, hat⟩ := World.cells?_some h
  match cs, hl with
  | [v], _ => exact ⟨v, rfl, by have := hat 0 (by omega); rw [add_none] at this; simpa using this⟩

theorem bd_of_wf {n : Int} (h : (Lit.int .i64 n).wf = true) : i64ok n := by
  have := bounds_i64 h
  unfold i64ok; omega

theorem ints_open {fuel : Nat} {v : Value} {x : DataW H × List MemPlace} (h : DataW.trod enc Try.prog w base spare held fuel 59 [v] = some x) : ∃ xs, IntsW w v xs :=
  slice_open (k := 0) Try.underlying59 (by kernel_rfl) (fun b o cs n y hc hd => by
    obtain ⟨v, rfl, hv⟩ := cell_one hc
    obtain ⟨z, he, -, hw⟩ := DataW.trod_int Try.underlying3 hd
    simp at he; subst he
    exact ⟨z, hv, bd_of_wf hw⟩) h
theorem ints2_open {fuel : Nat} {v : Value} {x : DataW H × List MemPlace} (h : DataW.trod enc Try.prog w base spare held fuel 66 [v] = some x) : ∃ xs, Ints2W w v xs :=
  slice_open (k := 0) Try.underlying66 (by kernel_rfl) (fun b o cs n y hc hd => by
    obtain ⟨v, rfl, hv⟩ := cell_one hc
    obtain ⟨z, hz⟩ := ints_open hd
    exact ⟨z, v, hv, hz⟩) h
theorem ints3_open {fuel : Nat} {v : Value} {x : DataW H × List MemPlace} (h : DataW.trod enc Try.prog w base spare held fuel 60 [v] = some x) : ∃ xs, Ints3W w v xs :=
  slice_open (k := 0) Try.underlying60 (by kernel_rfl) (fun b o cs n y hc hd => by
    obtain ⟨v, rfl, hv⟩ := cell_one hc
    obtain ⟨z, hz⟩ := ints2_open hd
    exact ⟨z, v, hv, hz⟩) h

theorem six_fields {P : Program} {t : TypeId} {f0 f1 f2 f3 f4 f5 : Field} (hs : P.underlying t = some (.struct #[f0, f1, f2, f3, f4, f5])) (hone : oneCellFields P #[f0, f1, f2, f3, f4, f5] = true) {n : Nat} {v0 v1 v2 v3 v4 v5 : Value} {y : DataW H × List MemPlace}
    (hd : DataW.trod enc P w base spare held n t [v0, v1, v2, v3, v4, v5] = some y) : ∃ (m : Nat) (y0 y1 y2 y3 y4 y5 : DataW H × List MemPlace),
      DataW.trod enc P w base spare held m f0.type [v0] = some y0 ∧ DataW.trod enc P w base spare held m f1.type [v1] = some y1 ∧ DataW.trod enc P w base spare held m f2.type [v2] = some y2 ∧
      DataW.trod enc P w base spare held m f3.type [v3] = some y3 ∧ DataW.trod enc P w base spare held m f4.type [v4] = some y4 ∧ DataW.trod enc P w base spare held m f5.type [v5] = some y5 := by
  obtain ⟨xs, m, -, -, -, hlen, hg⟩ := DataW.trod_struct hs hd
  obtain ⟨o0, k0⟩ := hone_of hone 0 f0 rfl
  obtain ⟨o1, k1⟩ := hone_of hone 1 f1 rfl
  obtain ⟨o2, k2⟩ := hone_of hone 2 f2 rfl
  obtain ⟨o3, k3⟩ := hone_of hone 3 f3 rfl
  obtain ⟨o4, k4⟩ := hone_of hone 4 f4 rfl
  obtain ⟨o5, k5⟩ := hone_of hone 5 f5 rfl
  match xs, hlen with
  | [y0, y1, y2, y3, y4, y5], _ =>
    exact ⟨m, y0, y1, y2, y3, y4, y5, by simpa [o0, k0] using hg 0 f0 rfl, by simpa [o1, k1] using hg 1 f1 rfl, by simpa [o2, k2] using hg 2 f2 rfl, by simpa [o3, k3] using hg 3 f3 rfl, by simpa [o4, k4] using hg 4 f4 rfl, by simpa [o5, k5] using hg 5 f5 rfl⟩

theorem tar_open {b o : Nat} {cs : List Value} {n : Nat} {y : DataW H × List MemPlace} (hc : w.cells? base ⟨b, o, none⟩ (5 + 1) = some cs) (hd : DataW.trod enc Try.prog w base spare held n 62 cs = some y) : ∃ t, TarAtW w b o t := by
  obtain ⟨-, hl, hat⟩ := World.cells?_some hc
  match cs, hl with
  | [v0, v1, v2, v3, v4, v5], _ =>
    obtain ⟨m, y0, y1, y2, y3, y4, y5, f0, f1, f2, f3, f4, f5⟩ := six_fields Try.underlying62 (by kernel_rfl) hd
    obtain ⟨z0, e0, -, w0⟩ := DataW.trod_int Try.underlying3 f0
    obtain ⟨z1, e1, -⟩ := DataW.trod_bool Try.underlying4 f1
    obtain ⟨z2, e2, -, w2⟩ := DataW.trod_int Try.underlying3 f2
    obtain ⟨z3, h3⟩ := ints_open f3
    obtain ⟨z4, h4⟩ := ints_open f4
    obtain ⟨z5, h5⟩ := ints3_open f5
    simp at e0 e1 e2; subst e0 e1 e2
    have g0 := hat 0 (by omega)
    have g1 := hat 1 (by omega)
    have g2 := hat 2 (by omega)
    have g3 := hat 3 (by omega)
    have g4 := hat 4 (by omega)
    have g5 := hat 5 (by omega)
    simp [add_none] at g0 g1 g2 g3 g4 g5
    exact ⟨⟨z0, z1, z2, z3, z4, z5⟩, v3, v4, v5, g0, g1, g2, g3, g4, g5, bd_of_wf w0, bd_of_wf w2, h3, h4, h5⟩

theorem tars_open {fuel : Nat} {v : Value} {x : DataW H × List MemPlace} (h : DataW.trod enc Try.prog w base spare held fuel 22 [v] = some x) : ∃ l, TarsW w v l :=
  slice_open (k := 5) Try.underlying22 (by kernel_rfl) (fun _ _ _ _ _ hc hd => tar_open hc hd) h
end
end Go.Proofs.Ytfjecbfcnngacaa
