/- Bundled: what the texts UE O VL VN UF UG ZU UH UI UJ say one after another. -/
import Derived.Test.YtedblocbcjoolaaKB1
import Derived.Test.YtedblocbcjoolaaKB3
import Derived.Test.YtedblocbcjoolaaRows
import Derived.Test.YtedblocbcjoolaaKB2
import Derived.ProofKit
import Derived.OpenShut
import Derived.ChangeOld
import Derived.Deep.Slices
import Derived.Deep.Fields
import Derived.Maps.AppendAt
/- Contracts of layer 7: the small functions, and what is settled. -/
namespace Go.Proofs.Ytedblocbcjoolaa
open Go.RowKit Go.Hs
attribute [local irreducible] World.setCell World.alloc

theorem umin_i64 {x y z : Int} (h : z = if y < x then y else x) (ats : Array TypeId) (ty : TypeId) (w : World) : (Builtin.min_ ats ty #[.int .i64 x, .int .i64 y]).run Try.prog w = .ok (.int .i64 z) w := by
  subst h; rfl
theorem umax_i64 {x y z : Int} (h : z = if x < y then y else x) (ats : Array TypeId) (ty : TypeId) (w : World) : (Builtin.max_ ats ty #[.int .i64 x, .int .i64 y]).run Try.prog w = .ok (.int .i64 z) w := by
  subst h; rfl

set_option maxHeartbeats 400000 in
theorem within_u (n lo hi : Int) (w : World) :
    Calls Try.prog 30 #[.int .i64 n, .int .i64 lo, .int .i64 hi] w fun e w' => e = .returned (.bool (inR n lo hi)) ∧ Ext w w' := by
  by_cases h : lo ≤ n
  · go_enter Try.func30, Try.ntmps30
    go_wp2
    go_ret
    exact ⟨ret_bool (by simp [inR, h]), Ext.refl _⟩
  · go_enter Try.func30, Try.ntmps30
    go_wp2
    go_ret
    exact ⟨ret_bool (by have : ¬ lo ≤ n := by omega
                        simp [inR, this]), Ext.refl _⟩

set_option maxHeartbeats 400000 in
theorem has_u (lo hi n : Int) (w : World) :
    Calls Try.prog 35 #[.agg #[.int .i64 lo, .int .i64 hi], .int .i64 n] w fun e w' => e = .returned (.bool (inR n lo hi)) ∧ Ext w w' := by
  have hw := Lib.hid (within_u n lo hi)
  go_enter Try.func35, Try.ntmps35
  go_wp2_with fail
  (with_reducible refine (hw.out _).mono ?_)
  rintro e w1 ⟨rfl, hx⟩
  go_wp2_with fail
  go_ret
  exact ⟨rfl, by (repeat (first | exact Ext.refl _ | (with_reducible assumption) | (with_reducible refine Ext.drew ?_) | (with_reducible refine Ext.alloc ?_ _) | (with_reducible refine Ext.drewN ?_ _) | (with_reducible refine Ext.setCell ?_ (by omega) _) | (with_reducible refine Ext.trans ?_ (by with_reducible assumption))))⟩

set_option maxHeartbeats 400000 in
theorem abs_u (n : Int) (h : -1000 ≤ n ∧ n ≤ 1000) (w : World) :
    Calls Try.prog 36 #[.int .i64 n] w fun e w' => e = .returned (.int .i64 (absI n)) ∧ Ext w w' := by
  have hm : ∀ w, (Builtin.max_ #[3, 3] 3 #[.int .i64 n, .int .i64 (-n)]).run Try.prog w = .ok (.int .i64 (absI n)) w := fun w => umax_i64 (by unfold absI; split <;> omega) _ _ _
  generalize absI n = m at *
  go_enter Try.func36, Try.ntmps36
  go_wp2_with fail
  go_ret
  exact ⟨rfl, Ext.refl _⟩

set_option maxHeartbeats 1000000 in
theorem counts_u (lo hi : Int) (w : World) :
    Calls Try.prog 50 #[.agg #[.int .i64 lo, .int .i64 hi]] w fun e w' => e = .returned (.bool (countsB lo hi)) ∧ Ext w w' := by
  have HC : Hid (countsB lo hi = (decide (0 ≤ lo) && (decide (lo ≤ hi) && (decide (hi ≤ 100) && decide (hi - lo ≤ 4))))) := rfl
  generalize countsB lo hi = r at *
  by_cases h1 : 0 ≤ lo
  · by_cases h2 : lo ≤ hi
    · by_cases h3 : hi ≤ 100
      · by_cases h4 : hi - lo ≤ 4
        · obtain rfl : r = true := by rw [HC.out]; simp [h1, h2, h3, h4]
          have d1 : decide (0 ≤ lo) = true := decide_eq_true h1
          have d2 : decide (lo ≤ hi) = true := decide_eq_true h2
          have d3 : decide (hi ≤ 100) = true := decide_eq_true h3
          have d4 : decide (hi - lo ≤ 4) = true := decide_eq_true h4
          go_enter Try.func50, Try.ntmps50
          go_wp2_with fail
          go_ret
          exact ⟨rfl, by (repeat (first | exact Ext.refl _ | (with_reducible assumption) | (with_reducible refine Ext.drew ?_) | (with_reducible refine Ext.alloc ?_ _) | (with_reducible refine Ext.drewN ?_ _) | (with_reducible refine Ext.setCell ?_ (by omega) _) | (with_reducible refine Ext.trans ?_ (by with_reducible assumption))))⟩
        · obtain rfl : r = false := by rw [HC.out]; simp [h1, h2, h3, h4]
          have d1 : decide (0 ≤ lo) = true := decide_eq_true h1
          have d2 : decide (lo ≤ hi) = true := decide_eq_true h2
          have d3 : decide (hi ≤ 100) = true := decide_eq_true h3
          have d4 : decide (hi - lo ≤ 4) = false := decide_eq_false h4
          go_enter Try.func50, Try.ntmps50
          go_wp2_with fail
          go_ret
          exact ⟨rfl, by (repeat (first | exact Ext.refl _ | (with_reducible assumption) | (with_reducible refine Ext.drew ?_) | (with_reducible refine Ext.alloc ?_ _) | (with_reducible refine Ext.drewN ?_ _) | (with_reducible refine Ext.setCell ?_ (by omega) _) | (with_reducible refine Ext.trans ?_ (by with_reducible assumption))))⟩
      · obtain rfl : r = false := by rw [HC.out]; simp [h1, h2, h3]
        have d1 : decide (0 ≤ lo) = true := decide_eq_true h1
        have d2 : decide (lo ≤ hi) = true := decide_eq_true h2
        have d3 : decide (hi ≤ 100) = false := decide_eq_false h3
        go_enter Try.func50, Try.ntmps50
        go_wp2_with fail
        go_ret
        exact ⟨rfl, by (repeat (first | exact Ext.refl _ | (with_reducible assumption) | (with_reducible refine Ext.drew ?_) | (with_reducible refine Ext.alloc ?_ _) | (with_reducible refine Ext.drewN ?_ _) | (with_reducible refine Ext.setCell ?_ (by omega) _) | (with_reducible refine Ext.trans ?_ (by with_reducible assumption))))⟩
    · obtain rfl : r = false := by rw [HC.out]; simp [h1, h2]
      have d1 : decide (0 ≤ lo) = true := decide_eq_true h1
      have d2 : decide (lo ≤ hi) = false := decide_eq_false h2
      go_enter Try.func50, Try.ntmps50
      go_wp2_with fail
      go_ret
      exact ⟨rfl, by (repeat (first | exact Ext.refl _ | (with_reducible assumption) | (with_reducible refine Ext.drew ?_) | (with_reducible refine Ext.alloc ?_ _) | (with_reducible refine Ext.drewN ?_ _) | (with_reducible refine Ext.setCell ?_ (by omega) _) | (with_reducible refine Ext.trans ?_ (by with_reducible assumption))))⟩
  · obtain rfl : r = false := by rw [HC.out]; simp [h1]
    have d1 : decide (0 ≤ lo) = false := decide_eq_false h1
    go_enter Try.func50, Try.ntmps50
    go_wp2_with fail
    go_ret
    exact ⟨rfl, by (repeat (first | exact Ext.refl _ | (with_reducible assumption) | (with_reducible refine Ext.drew ?_) | (with_reducible refine Ext.alloc ?_ _) | (with_reducible refine Ext.drewN ?_ _) | (with_reducible refine Ext.setCell ?_ (by omega) _) | (with_reducible refine Ext.trans ?_ (by with_reducible assumption))))⟩

set_option maxRecDepth 100000 in
theorem min2_u (x y z : Int) (hz : z = if y < x then y else x) (b : Nat) (w : World) (h0 : w.cell? ⟨b, 0, none⟩ = some (.int .i64 x)) (h1 : w.cell? ⟨b, 1, none⟩ = some (.int .i64 y)) (c : Nat) (_ : 2 ≤ c) :
    Calls Try.prog 37 #[.slice (some ⟨b, 0, none⟩) 2 c] w fun e w' => e = .returned (.int .i64 z) ∧ Ext w w' := by
  have hm : ∀ w, (Builtin.min_ #[3, 3] 3 #[.int .i64 x, .int .i64 y]).run Try.prog w = .ok (.int .i64 z) w := fun w => umin_i64 hz _ _ _
  clear hz
  have hs : Calls Try.prog 55 #[.slice (some ⟨b, 0, none⟩) 2 c] w fun e w' => e = .returned (.int .i64 z) ∧ Ext w w' := by
    go_enter Try.func55, Try.ntmps55
    go_wp2_with fail
    go_loopw [3, 4] (fun s3 s4 wr => ((s4 = .int .i64 1 ∧ s3 = .int .i64 x) ∨ (s4 = .int .i64 2 ∧ s3 = .int .i64 z)) ∧ wr = w) (fun _ s _ => 2 - (intOf s).toNat)
    case atStart => exact ⟨.inl ⟨rfl, rfl⟩, rfl⟩
    case round =>
      obtain ⟨h4, hww⟩ := hrel
      subst hww
      rcases h4 with ⟨rfl, rfl⟩ | ⟨rfl, rfl⟩
      · go_wp2_with fail
        go_roundw
        case rel => exact ⟨.inr ⟨rfl, rfl⟩, trivial⟩
        case measure => simp [intOf]
      · go_wp2_with fail
        go_ret
        exact ⟨rfl, Ext.refl _⟩
  have HS := Lib.hid hs
  clear hs h0 h1 hm
  go_enter Try.func37, Try.ntmps37
  go_wp2_with fail
  (refine HS.out.mono ?_)
  rintro e w1 ⟨rfl, hx⟩
  go_wp2_with fail
  go_ret
  exact ⟨rfl, hx⟩
end Go.Proofs.Ytedblocbcjoolaa

/- An argument that is a list of tariffs, opened: what the walk is told of it. -/
namespace Go.Hs
open Go.RowKit
/-- A slice of whatever length that reads as a list. -/
def SliceW {α : Type} (R : World → Nat → Nat → α → Prop) (k : Nat) (w : World) (v : Value) (xs : List α) : Prop :=
  ∃ a cap, v = .slice a xs.length cap ∧ xs.length ≤ cap ∧ xs.length ≤ 9223372036854775807 ∧ Rows R k w a xs
def IntsW : World → Value → List Int → Prop := SliceW IntAt 1
def IntsAtW (w : World) (b o : Nat) (xs : List Int) : Prop := ∃ v, w.cell? ⟨b, o, none⟩ = some v ∧ IntsW w v xs
def Ints2W : World → Value → List (List Int) → Prop := SliceW IntsAtW 1
def Ints2AtW (w : World) (b o : Nat) (xs : List (List Int)) : Prop := ∃ v, w.cell? ⟨b, o, none⟩ = some v ∧ Ints2W w v xs
def Ints3W : World → Value → List (List (List Int)) → Prop := SliceW Ints2AtW 1
structure TarCW (w : World) (c3 c4 c5 : Value) (t : Tar) : Prop where
  f : i64ok t.start
  l : i64ok t.least
  weeks : IntsW w c3 t.weeks
  counts : IntsW w c4 t.counts
  rates : Ints3W w c5 t.rates
def TarAtW (w : World) (b o : Nat) (t : Tar) : Prop := ∃ c3 c4 c5,
  w.cell? ⟨b, o, none⟩ = some (.int .i64 t.start) ∧ w.cell? ⟨b, o + 1, none⟩ = some (.bool t.whole) ∧ w.cell? ⟨b, o + 2, none⟩ = some (.int .i64 t.least) ∧
  w.cell? ⟨b, o + 3, none⟩ = some c3 ∧ w.cell? ⟨b, o + 4, none⟩ = some c4 ∧ w.cell? ⟨b, o + 5, none⟩ = some c5 ∧ TarCW w c3 c4 c5 t
def TarsW : World → Value → List Tar → Prop := SliceW TarAtW 6
/-- At most 5 tariffs, of at most 7 weeks and counts, and 5 crops with at most 7 lists of at most 7 rates. -/
def thinC (x : List (List Int)) : Bool := decide (x.length ≤ 7) && allB x.length (fun i => decide ((x.getD i []).length ≤ 7))
def thinT (t : Tar) : Bool := decide (t.weeks.length ≤ 7) && decide (t.counts.length ≤ 7) && decide (t.rates.length ≤ 5) && allB t.rates.length (fun c => thinC (t.rates.getD c []))
def thinB (l : List Tar) : Bool := decide (l.length ≤ 5) && allB l.length (fun i => thinT (l.getD i default))

theorem SliceW.toV {α : Type} {R S : World → Nat → Nat → α → Prop} {k : Nat} {w : World} {v : Value} {xs : List α} (h : SliceW R k w v xs) (hl : xs.length ≤ 7)
    (hs : ∀ i (hi : i < xs.length) b o, R w b o xs[i] → S w b o xs[i]) : SliceV S k w v xs := by
  obtain ⟨a, c, he, h1, -, hr⟩ := h
  refine ⟨a, c, he, h1, by omega, fun i hi => ?_⟩
  obtain ⟨b, o, hb, hx⟩ := hr i hi
  exact ⟨b, o, hb, hs i hi _ _ hx⟩
theorem IntsW.toV {w : World} {v : Value} {xs : List Int} (h : IntsW w v xs) (hl : xs.length ≤ 7) : IntsV w v xs := SliceW.toV h hl (fun _ _ _ _ h => h)
theorem Ints2W.toV {w : World} {v : Value} {xs : List (List Int)} (h : Ints2W w v xs) (hl : thinC xs = true) : Ints2V w v xs := by
  simp only [thinC, Bool.and_eq_true, decide_eq_true_eq, allB_iff] at hl
  refine SliceW.toV h hl.1 (fun i hi b o hx => ?_)
  obtain ⟨u, hc, hu⟩ := hx
  exact ⟨u, hc, hu.toV (by have := hl.2 i hi; simpa [hi] using this)⟩
theorem TarsW.toV {w : World} {v : Value} {l : List Tar} (h : TarsW w v l) (hl : thinB l = true) : TarsV w v l := by
  simp only [thinB, thinT, Bool.and_eq_true, decide_eq_true_eq, allB_iff] at hl
  refine SliceW.toV h (by omega) (fun i hi b o hx => ?_)
  obtain ⟨c3, c4, c5, h0, h1, h2, h3, h4, h5, g0, g1, g2, g3, g4⟩ := hx
  have ht := hl.2 i hi
  have e : l.getD i default = l[i] := by simp [hi]
  rw [e] at ht
  refine ⟨c3, c4, c5, h0, h1, h2, h3, h4, h5, g0, g1, g2.toV ht.1.1.1, g3.toV ht.1.1.2, SliceW.toV g4 (by omega) (fun j hj b o hx => ?_)⟩
  obtain ⟨u, hc, hu⟩ := hx
  exact ⟨u, hc, hu.toV (by have := ht.2 j hj; simpa [hj] using this)⟩
end Go.Hs
namespace Go.Proofs.Ytedblocbcjoolaa
open Go.ChangeShapes Go.WideShapes Go.ChangeAt Go.RowKit Go.Deep Go.Hs
section
variable {H : Type} {enc : TypeId × Value → H} {w : World} {base : Nat} {spare : Nat → Bool} {held : Bool}

end
end Go.Proofs.Ytedblocbcjoolaa

/- Contracts: the reference's order of lists of numbers, and whether two are the same. -/
namespace Go.Hs
open Go.RowKit
def beforeI : List Int → List Int → Bool
  | [], [] => false
  | [], _ :: _ => true
  | _ :: _, [] => false
  | x :: a, y :: b => if x = y then beforeI a b else decide (x < y)
def sameI (a b : List Int) : Bool := a.length == b.length && (!beforeI a b && !beforeI b a)
theorem beforeI_drop (i : Nat) : ∀ (a b : List Int), (∀ j, j < i → a.getD j 0 = b.getD j 0) → i ≤ a.length → i ≤ b.length → beforeI a b = beforeI (a.drop i) (b.drop i) := by
  induction i with
  | zero => intro a b _ _ _; rfl
  | succ i ih =>
    intro a b h ha hb
    cases a with
    | nil => simp at ha
    | cons x a =>
      cases b with
      | nil => simp at hb
      | cons y b =>
        have e : x = y := by have := h 0 (by omega); simpa using this
        subst e
        have e2 : beforeI (x :: a) (x :: b) = beforeI a b := by rw [beforeI, if_pos rfl]
        rw [e2]
        exact ih a b (fun j hj => by have := h (j + 1) (by omega); simpa using this) (by simpa using ha) (by simpa using hb)
theorem beforeI_at {a b : List Int} {i : Nat} (h : ∀ j, j < i → a.getD j 0 = b.getD j 0) (ha : i < a.length) (hb : i < b.length) (hne : a.getD i 0 ≠ b.getD i 0) : beforeI a b = decide (a.getD i 0 < b.getD i 0) := by
  rw [beforeI_drop i a b h (by omega) (by omega), List.drop_eq_getElem_cons ha, List.drop_eq_getElem_cons hb]
  have e1 : a.getD i 0 = a[i] := by simp [ha]
  have e2 : b.getD i 0 = b[i] := by simp [hb]
  rw [e1, e2] at hne ⊢
  rw [beforeI, if_neg hne]
theorem beforeI_end {a b : List Int} {i : Nat} (h : ∀ j, j < i → a.getD j 0 = b.getD j 0) (ha : i ≤ a.length) (hb : i ≤ b.length) (he : i = a.length ∨ i = b.length) : beforeI a b = decide (a.length < b.length) := by
  rw [beforeI_drop i a b h ha hb]
  rcases he with rfl | rfl
  · rw [List.drop_length]
    by_cases e : a.length = b.length
    · have : b.drop a.length = [] := by rw [e]; exact List.drop_length
      rw [this, e]; simp [beforeI]
    · have hl : a.length < b.length := by omega
      rw [List.drop_eq_getElem_cons hl]
      simp [beforeI, hl]
  · rw [List.drop_length]
    by_cases e : a.length = b.length
    · have : a.drop b.length = [] := by rw [← e]; exact List.drop_length
      rw [this, e]; simp [beforeI]
    · have hl : b.length < a.length := by omega
      rw [List.drop_eq_getElem_cons hl]
      simp [beforeI]; omega
theorem IntsV.cellsI {w : World} {v : Value} {a : List Int} (h : IntsV w v a) : ∃ p c, v = .slice p a.length c ∧ a.length ≤ c ∧ ∀ i, i < a.length → ∃ b off, p = some ⟨b, off, none⟩ ∧ w.cell? ⟨b, off + i, none⟩ = some (.int .i64 (a.getD i 0)) := by
  obtain ⟨p, c, rfl, h1, -, hr⟩ := h
  refine ⟨p, c, rfl, h1, fun i hi => ?_⟩
  obtain ⟨b, off, e, hc⟩ := hr i hi
  refine ⟨b, off, e, ?_⟩
  have := hc.1
  have e2 : a[i] = a.getD i 0 := by simp [hi]
  rw [e2, Nat.mul_one] at this
  exact this
end Go.Hs
namespace Go.Proofs.Ytedblocbcjoolaa
open Go.RowKit Go.Hs
attribute [local irreducible] World.setCell World.alloc

set_option maxRecDepth 100000 in
set_option maxHeartbeats 2000000 in
theorem BeforeI_any (v u : Value) (a b : List Int) (w : World) (hv : IntsV w v a) (hu : IntsV w u b) (ha : a.length ≤ 1000) (_ : b.length ≤ 1000) :
    Calls Try.prog 24 #[v, u] w fun e w' => e = .returned (.bool (beforeI a b)) ∧ Ext w w' := by
  obtain ⟨p, c, rfl, h1, hr⟩ := hv.cellsI
  obtain ⟨q, d, rfl, h2, hs⟩ := hu.cellsI
  have HR := Lib.hid hr
  have HS := Lib.hid hs
  have HAT : Hid (∀ i, (∀ j, j < i → a.getD j 0 = b.getD j 0) → i < a.length → i < b.length → a.getD i 0 ≠ b.getD i 0 → beforeI a b = decide (a.getD i 0 < b.getD i 0)) := Lib.hid (fun i h1 h2 h3 h4 => beforeI_at h1 h2 h3 h4)
  have HEN : Hid (∀ i, (∀ j, j < i → a.getD j 0 = b.getD j 0) → i ≤ a.length → i ≤ b.length → (i = a.length ∨ i = b.length) → beforeI a b = decide (a.length < b.length)) := Lib.hid (fun i h1 h2 h3 h4 => beforeI_end h1 h2 h3 h4)
  clear hv hu hr hs
  generalize hres : beforeI a b = res at *
  clear hres
  go_enter Try.func24, Try.ntmps24
  go_wp2_with fail
  go_loopw [5] (fun s5 wr => ∃ i : Nat, i ≤ a.length ∧ i ≤ b.length ∧ s5 = .int .i64 i ∧ Hid (∀ j, j < i → a.getD j 0 = b.getD j 0) ∧ Ext w wr) (fun s _ => a.length - (intOf s).toNat)
  case atStart => exact ⟨0, Nat.zero_le _, Nat.zero_le _, rfl, Lib.hid (fun j hj => absurd hj (Nat.not_lt_zero _)), Ext.refl _⟩
  case round =>
    obtain ⟨i, hia, hib, rfl, HI, hx⟩ := hrel
    obtain ⟨wo, rfl⟩ : ∃ x, x = wr := ⟨_, rfl⟩
    by_cases hla : i < a.length
    · by_cases hlb : i < b.length
      · obtain ⟨b1, o1, rfl, q1⟩ := HR.out i hla
        obtain ⟨b2, o2, rfl, q2⟩ := HS.out i hlb
        replace q1 := hx.keep q1
        replace q2 := hx.keep q2
        have HNE : Hid (a.getD i 0 ≠ b.getD i 0 → res = decide (a.getD i 0 < b.getD i 0)) := Lib.hid (fun h => HAT.out i HI.out hla hlb h)
        have HEQ : Hid (a.getD i 0 = b.getD i 0 → ∀ j, j < i + 1 → a.getD j 0 = b.getD j 0) := Lib.hid (fun h j hj => by
          rcases Nat.lt_succ_iff_lt_or_eq.1 hj with g | rfl
          · exact HI.out j g
          · exact h)
        have hi0 : (0 : Int) ≤ (i : Int) := by omega
        have hi1 : (i : Int) < (a.length : Int) := by omega
        have hi2 : (i : Int) < (b.length : Int) := by omega
        have G1 : ∀ w', Ext wo w' → w'.cell? ⟨b1, o1 + i, none⟩ = some (.int .i64 (a.getD i 0)) := fun w' h => h.keep q1
        have G2 : ∀ w', Ext wo w' → w'.cell? ⟨b2, o2 + i, none⟩ = some (.int .i64 (b.getD i 0)) := fun w' h => h.keep q2
        clear HI HAT HEN
        generalize a.getD i 0 = x at *
        generalize b.getD i 0 = y at *
        by_cases hxy : x = y
        · have HE := Lib.hid (HEQ.out hxy)
          subst hxy
          go_wp2_with fail
          go_quiet (fail)
          go_wp2_with fail
          go_roundw
          case rel => exact ⟨i + 1, by omega, by omega, by go_num, HE, by (repeat (first | exact Ext.refl _ | (with_reducible assumption) | (with_reducible refine Ext.drew ?_) | (with_reducible refine Ext.alloc ?_ _) | (with_reducible refine Ext.drewN ?_ _) | (with_reducible refine Ext.setCell ?_ (by omega) _) | (with_reducible refine Ext.trans ?_ (by with_reducible assumption))))⟩
          case measure => simp [intOf]; omega
        · have he := HNE.out hxy
          have hn : (x != y) = true := by rw [bne_iff_ne]; exact hxy
          have HEE := Lib.hid he
          clear HNE HEQ he
          go_wp2_with fail
          go_quiet (fail)
          go_wp2_with fail
          have r1 := G1 _ (show Ext wo _ by (repeat (first | exact Ext.refl _ | (with_reducible assumption) | (with_reducible refine Ext.drew ?_) | (with_reducible refine Ext.alloc ?_ _) | (with_reducible refine Ext.drewN ?_ _) | (with_reducible refine Ext.setCell ?_ (by omega) _) | (with_reducible refine Ext.trans ?_ (by with_reducible assumption)))))
          go_quiet (fail)
          go_wp2_with fail
          go_ret
          exact ⟨by rw [HEE.out]; simp, by (repeat (first | exact Ext.refl _ | (with_reducible assumption) | (with_reducible refine Ext.drew ?_) | (with_reducible refine Ext.alloc ?_ _) | (with_reducible refine Ext.drewN ?_ _) | (with_reducible refine Ext.setCell ?_ (by omega) _) | (with_reducible refine Ext.trans ?_ (by with_reducible assumption))))⟩
      · have e : i = b.length := by omega
        have he := HEN.out i HI.out hia hib (.inr e)
        have hdd : decide (a.length < b.length) = decide ((a.length : Int) < (b.length : Int)) := by simp
        rw [hdd] at he
        have HEE := Lib.hid he
        clear HI HAT HEN he hdd
        go_wp2_with fail
        go_ret
        exact ⟨by rw [HEE.out]; simp, hx⟩
    · have e : i = a.length := by omega
      have he := HEN.out i HI.out hia hib (.inl e)
      have hdd : decide (a.length < b.length) = decide ((a.length : Int) < (b.length : Int)) := by simp
      rw [hdd] at he
      have HEE := Lib.hid he
      clear HI HAT HEN he hdd
      go_wp2_with fail
      go_ret
      exact ⟨by rw [HEE.out]; simp, hx⟩
set_option maxRecDepth 100000 in
theorem SameI_any (v u : Value) (a b : List Int) (w : World) (hv : IntsV w v a) (hu : IntsV w u b) (ha : a.length ≤ 1000) (hb : b.length ≤ 1000) :
    Calls Try.prog 10 #[v, u] w fun e w' => e = .returned (.bool (sameI a b)) ∧ Ext w w' := by
  have HB := Lib.hid (BeforeI_any v u a b w hv hu ha hb)
  have HC : Hid (∀ w', Ext w w' → Calls Try.prog 24 #[u, v] w' fun e w'' => e = .returned (.bool (beforeI b a)) ∧ Ext w' w'') := fun w' hx => BeforeI_any u v b a w' (hu.ext hx) (hv.ext hx) hb ha
  obtain ⟨p, c, rfl, h1, -⟩ := hv.cellsI
  obtain ⟨q, d, rfl, h2, -⟩ := hu.cellsI
  have HE : Hid (sameI a b = (a.length == b.length && (!beforeI a b && !beforeI b a))) := rfl
  generalize hr : sameI a b = res at *
  generalize beforeI a b = bf at *
  generalize beforeI b a = bg at *
  clear hv hu hr
  generalize a.length = n at *
  generalize b.length = m at *
  by_cases e : n = m
  · subst e
    cases bf with
    | true =>
      have he : res = false := by rw [HE.out]; simp
      subst he
      go_enter Try.func10, Try.ntmps10
      go_wp2_with fail
      (refine HB.out.mono ?_)
      rintro e w1 ⟨rfl, hx⟩
      go_wp2_with fail
      go_ret
      exact ⟨rfl, hx⟩
    | false =>
      have he : res = !bg := by rw [HE.out]; simp
      subst he
      go_enter Try.func10, Try.ntmps10
      go_wp2_with fail
      (refine HB.out.mono ?_)
      rintro e w1 ⟨rfl, hx⟩
      go_wp2_with fail
      (refine (HC.out _ hx).mono ?_)
      rintro e w2 ⟨rfl, hx2⟩
      go_wp2_with fail
      go_ret
      exact ⟨rfl, hx.trans hx2⟩
  · have hq : ((n : Int) == (m : Int)) = false := by rw [beq_eq_false_iff_ne]; omega
    have he : res = false := by rw [HE.out]; simp [e]
    subst he
    go_enter Try.func10, Try.ntmps10
    go_wp2_with fail
    go_ret
    exact ⟨rfl, Ext.refl _⟩

end Go.Proofs.Ytedblocbcjoolaa

/- Boxes of some cells, laid ahead of calls or behind them. -/
namespace Go.Hs
open Go.RowKit
def setAll : World → Nat → Nat → List Value → World
  | w, _, _, [] => w
  | w, T, i, v :: vs => setAll (w.setCell ⟨T, i, none⟩ v) T (i + 1) vs
theorem setAll_ext {W w : World} {T : Nat} (hT : W.heap.size ≤ T) : ∀ (vs : List Value) (i : Nat) {w : World}, Ext W w → Ext W (setAll w T i vs)
  | [], _, _, h => h
  | _ :: vs, i, _, h => setAll_ext (w := w) hT vs (i + 1) (h.setCell hT _)
theorem setAll_size {T : Nat} : ∀ (vs : List Value) (i : Nat) (w : World), (setAll w T i vs).heap.size = w.heap.size
  | [], _, _ => rfl
  | _ :: vs, i, w => by rw [setAll, setAll_size vs (i + 1), World.size_setCell]
theorem setAll_frozen {T : Nat} : ∀ (vs : List Value) (i : Nat) (w : World) (a : Addr), (setAll w T i vs).frozen? a = w.frozen? a
  | [], _, _, _ => rfl
  | _ :: vs, i, w, a => by rw [setAll, setAll_frozen vs (i + 1), World.frozen?_setCell]
theorem setAll_other {T : Nat} : ∀ (vs : List Value) (i : Nat) (w : World) (b o : Nat) (x : Value), (b ≠ T ∨ o < i) → w.cell? ⟨b, o, none⟩ = some x → (setAll w T i vs).cell? ⟨b, o, none⟩ = some x
  | [], _, _, _, _, _, _, h => h
  | v :: vs, i, w, b, o, x, hn, h => by
    rw [setAll]
    refine setAll_other vs (i + 1) _ b o x (by omega) ?_
    rw [World.cell?_setCell_other (h := by intro e; cases e; simp at hn)]; exact h
theorem setAll_at {T : Nat} : ∀ (vs : List Value) (i : Nat) (w : World), (∀ j, j < vs.length → ∃ x, w.cell? ⟨T, i + j, none⟩ = some x) → ∀ j x, vs[j]? = some x → (setAll w T i vs).cell? ⟨T, i + j, none⟩ = some x
  | [], _, _, _, j, x, h => by simp at h
  | v :: vs, i, w, hz, j, x, h => by
    rw [setAll]
    obtain ⟨y, hy⟩ := hz 0 (by simp)
    cases j with
    | zero =>
      simp at h; subst h
      exact setAll_other vs (i + 1) _ T (i + 0) v (.inr (by omega)) (World.cell?_setCell_same _ _ _ hy)
    | succ j =>
      have := setAll_at vs (i + 1) (w.setCell ⟨T, i, none⟩ v) (fun k hk => by
        obtain ⟨z, hz⟩ := hz (k + 1) (by simpa using hk)
        refine ⟨z, ?_⟩
        rw [World.cell?_setCell_other (h := by intro e; injection e with _ e2 _; omega), show i + 1 + k = i + (k + 1) by omega]; exact hz) j x (by simpa using h)
      rw [show i + (j + 1) = i + 1 + j by omega]; exact this
/-- From a world on, in which some of the old blocks may change. -/
structure KP (p : Nat → Prop) (w w' : World) : Prop where
  os : w'.os = w.os
  tape : w'.tape = w.tape
  output : w'.output = w.output
  size : w.heap.size ≤ w'.heap.size
  block : ∀ k, k < w.heap.size → ¬ p k → w'.heap[k]? = w.heap[k]?
section
variable {p : Nat → Prop} {a b c : World}
theorem Ext.kp (h : Ext a b) : KP p a b := ⟨h.os, h.tape, h.output, h.size, fun _ hk _ => h.heap hk⟩
theorem KP.refl (w : World) : KP p w w := (Ext.refl w).kp
theorem KP.trans (h : KP p a b) (k : KP p b c) : KP p a c :=
  ⟨k.os.trans h.os, k.tape.trans h.tape, k.output.trans h.output, Nat.le_trans h.size k.size, fun i hi hr => (k.block i (Nat.lt_of_lt_of_le hi h.size) hr).trans (h.block i hi hr)⟩
theorem KP.grown {o : Option Nat} (h : a.grownBy b o) (ho : ∀ g, o = some g → p g) : KP p a b := ⟨h.os, h.tape, h.output, h.size, fun i hi hr => h.block i hi (fun e => hr (ho i e.symm))⟩
theorem KP.ext (h : KP p a b) (k : Ext b c) : KP p a c := h.trans k.kp
theorem KP.drew (h : KP p a b) : KP p a b.drew := h.ext (Ext.refl b).drew
theorem KP.alloc (h : KP p a b) (o : Obj) : KP p a (b.alloc o) := h.ext ((Ext.refl b).alloc o)
theorem KP.setCell {T i : Nat} (h : KP p a b) (hT : p T) (v : Value) : KP p a (b.setCell ⟨T, i, none⟩ v) :=
  have E : Below 0 b (b.setCell ⟨T, i, none⟩ v) := Below.setCell (Below.refl 0 b) (Nat.zero_le _) v
  ⟨E.os.trans h.os, E.tape.trans h.tape, E.output.trans h.output, Nat.le_trans h.size E.size, fun k hk hr => (Below.heap_setCell _ _ _ _ (show k ≠ T from fun e => hr (e ▸ hT))).trans (h.block k hk hr)⟩
theorem KP.keep (h : KP p a b) {k o : Nat} {v : Value} (hr : ¬ p k) (hc : a.cell? ⟨k, o, none⟩ = some v) : b.cell? ⟨k, o, none⟩ = some v := by
  rw [World.cell?_of_block (w := a) (h.block k (lt_of_cell hc) hr)]; exact hc
theorem KP.frozen (h : KP p a b) {k o : Nat} (hk : k < a.heap.size) (hr : ¬ p k) : b.frozen? ⟨k, o, none⟩ = a.frozen? ⟨k, o, none⟩ := World.frozen?_of_block (w := a) (h.block k hk hr)
end
/-- A box of some cells that is laid behind a world. -/
structure BoxN (W : World) (T : Nat) (vs : List Value) (w : World) : Prop where
  ext : Ext W w
  cells : ∀ i x, vs[i]? = some x → w.cell? ⟨T, i, none⟩ = some x
  fr : ∀ o, w.frozen? ⟨T, o, none⟩ = false
  ge : W.heap.size ≤ T
  lt : T < w.heap.size
section
variable {W w w' A : World} {T : Nat} {vs zs : List Value} {t : TypeId}
theorem BoxN.keep (h : BoxN W T vs w) (hx : Ext w w') : BoxN W T vs w' :=
  ⟨h.ext.trans hx, fun i x hi => hx.keep (h.cells i x hi), fun o => (hx.frozen h.lt).trans (h.fr o), h.ge, Nat.lt_of_lt_of_le h.lt hx.size⟩
theorem BoxN.made (hx : Ext W A) : BoxN W A.heap.size vs (A.alloc (.cells vs.toArray t)) :=
  ⟨hx.alloc _, fun i x hi => by
    have : vs.toArray[i]? = some x := by simpa using hi
    simp [go_sem, this], fun o => by simp [go_sem], hx.size, by simp⟩
theorem BoxN.zero (hx : Ext W A) (h : Ext (A.alloc (.cells zs.toArray t)) w) : BoxN W A.heap.size zs w := (BoxN.made hx).keep h
theorem BoxN.has (h : BoxN W T vs w) (o : Nat) (ho : o < vs.length) : ∃ x, w.cell? ⟨T, o, none⟩ = some x := ⟨vs[o], h.cells o _ (by simp [ho])⟩
theorem BoxN.stored (h : BoxN W T zs w) (hl : vs.length ≤ zs.length) : BoxN W T vs (setAll w T 0 vs) := by
  refine ⟨setAll_ext (w := w) h.ge vs 0 h.ext, fun i x hi => ?_, fun o => (setAll_frozen vs 0 w _).trans (h.fr o), h.ge, ?_⟩
  · have := setAll_at (T := T) vs 0 w (fun j hj => ⟨zs[j]'(by omega), by rw [Nat.zero_add]; exact h.cells j _ (by simp)⟩) i x hi
    rwa [Nat.zero_add] at this
  · rw [setAll_size]; exact h.lt
end
end Go.Hs

/- Contracts of layer 7: what is settled. -/
namespace Go.Proofs.Ytedblocbcjoolaa
open Go.RowKit Go.Hs
attribute [local irreducible] World.setCell World.alloc

set_option maxHeartbeats 400000 in
theorem truths_u (f : Fld) (w : World) :
    Calls Try.prog 23 #[f.c.val] w fun e w' => e = .returned (.func (.func 41) #[] #[.pointer (some ⟨w.heap.size, 0, none⟩)]) ∧ w' = w.alloc (.cells #[f.c.c0, f.c.c1, f.c.c2, f.c.c3, f.c.c4, f.c.c5, f.c.c6, f.c.c7, f.c.c8] 46) := by
  generalize f.c = v
  go_enter Try.func23, Try.ntmps23
  go_wp2_with fail
  go_ret
  exact ⟨rfl, rfl⟩

set_option maxRecDepth 100000 in
set_option maxHeartbeats 2000000 in
theorem settle_u (f : Fld) (x : Thr) (hn : 0 ≤ f.near ∧ f.near ≤ 100) (ha : 0 ≤ x.a ∧ x.a ≤ 100) (hb : 0 ≤ x.b ∧ x.b ≤ 100) (hu : 0 ≤ x.u ∧ x.u ≤ 100) (w : World) :
    Calls Try.prog 17 #[f.c.val, x.c.val] w fun e w' => e = .returned (.tuple #[.int .i64 (settledS f x), .int .i64 (loserS f x)]) ∧ Ext w w' := by
  have HS : Hid (settledS f x = if calledB f x then min (max x.u (min x.a x.b)) (max x.a x.b) else (x.a + x.b) / 2) := rfl
  have HL : Hid (loserS f x = if calledB f x then (if absI (x.b - settledS f x) < absI (x.a - settledS f x) then 2 else if absI (x.a - settledS f x) < absI (x.b - settledS f x) then 3 else 1) else 0) := rfl
  have HCB : Hid (calledB f x = decide (f.near < absI (x.a - x.b))) := rfl
  have HBD := Lib.hid (settled_bd (f := f) ha hb)
  have HA := Lib.hid abs_u
  have HM := Lib.hid min2_u
  generalize settledS f x = st at *
  generalize loserS f x = ls at *
  generalize calledB f x = cb at *
  obtain ⟨cr, va, ne, al, ah, bl, bh, ul, uh⟩ := f
  obtain ⟨A, B, U⟩ := x
  simp only [Fld.c, Thr.c] at *
  go_enter Try.func17, Try.ntmps17
  go_wp2_with fail
  have X : Ext w ((w.alloc (.cells #[.int .i64 cr, .int .i64 va, .int .i64 ne, .int .i64 al, .int .i64 ah, .int .i64 bl, .int .i64 bh, .int .i64 ul, .int .i64 uh] 46)).alloc (.cells #[.int .i64 A, .int .i64 B, .int .i64 U] 62)) := by (repeat (first | exact Ext.refl _ | (with_reducible assumption) | (with_reducible refine Ext.drew ?_) | (with_reducible refine Ext.alloc ?_ _) | (with_reducible refine Ext.drewN ?_ _) | (with_reducible refine Ext.setCell ?_ (by omega) _) | (with_reducible refine Ext.trans ?_ (by with_reducible assumption))))
  have n2 : ((w.alloc (.cells #[.int .i64 cr, .int .i64 va, .int .i64 ne, .int .i64 al, .int .i64 ah, .int .i64 bl, .int .i64 bh, .int .i64 ul, .int .i64 uh] 46)).alloc (.cells #[.int .i64 A, .int .i64 B, .int .i64 U] 62)).cell? ⟨w.heap.size, 2, none⟩ = some (.int .i64 ne) := by simp
  have x0 : ((w.alloc (.cells #[.int .i64 cr, .int .i64 va, .int .i64 ne, .int .i64 al, .int .i64 ah, .int .i64 bl, .int .i64 bh, .int .i64 ul, .int .i64 uh] 46)).alloc (.cells #[.int .i64 A, .int .i64 B, .int .i64 U] 62)).cell? ⟨w.heap.size + 1, 0, none⟩ = some (.int .i64 A) := by simp
  have x1 : ((w.alloc (.cells #[.int .i64 cr, .int .i64 va, .int .i64 ne, .int .i64 al, .int .i64 ah, .int .i64 bl, .int .i64 bh, .int .i64 ul, .int .i64 uh] 46)).alloc (.cells #[.int .i64 A, .int .i64 B, .int .i64 U] 62)).cell? ⟨w.heap.size + 1, 1, none⟩ = some (.int .i64 B) := by simp
  have x2 : ((w.alloc (.cells #[.int .i64 cr, .int .i64 va, .int .i64 ne, .int .i64 al, .int .i64 ah, .int .i64 bl, .int .i64 bh, .int .i64 ul, .int .i64 uh] 46)).alloc (.cells #[.int .i64 A, .int .i64 B, .int .i64 U] 62)).cell? ⟨w.heap.size + 1, 2, none⟩ = some (.int .i64 U) := by simp
  generalize ((w.alloc (.cells #[.int .i64 cr, .int .i64 va, .int .i64 ne, .int .i64 al, .int .i64 ah, .int .i64 bl, .int .i64 bh, .int .i64 ul, .int .i64 uh] 46)).alloc (.cells #[.int .i64 A, .int .i64 B, .int .i64 U] 62)) = W at *
  have g2 : ∀ w', Ext W w' → w'.cell? ⟨w.heap.size, 2, none⟩ = some (.int .i64 ne) := fun w' h => h.keep n2
  have g0 : ∀ w', Ext W w' → w'.cell? ⟨w.heap.size + 1, 0, none⟩ = some (.int .i64 A) := fun w' h => h.keep x0
  have g1 : ∀ w', Ext W w' → w'.cell? ⟨w.heap.size + 1, 1, none⟩ = some (.int .i64 B) := fun w' h => h.keep x1
  have hdl : absI (A - B) ≤ ne ∨ ne < absI (A - B) := by omega
  have HD := Lib.hid (show -1000 ≤ A - B ∧ A - B ≤ 1000 by omega)
  have HAB := Lib.hid (HA.out (A - B) HD.out)
  have hwr : IntKind.i64.wrap (A - B) = A - B := IntWalk.i64_in _ (by omega)
  generalize hmm : absI (A - B) = m at *
  have HMM := Lib.hid hmm
  clear hmm
  rcases hdl with hdl | hdl
  · have hd : decide (m ≤ ne) = true := decide_eq_true hdl
    refine wp_region_quiet (C := Ext W) (by kernel_rfl) (by kernel_rfl) (Ext.drew (by (repeat (first | exact Ext.refl _ | (with_reducible assumption) | (with_reducible refine Ext.drew ?_) | (with_reducible refine Ext.alloc ?_ _) | (with_reducible refine Ext.drewN ?_ _) | (with_reducible refine Ext.setCell ?_ (by omega) _) | (with_reducible refine Ext.trans ?_ (by with_reducible assumption)))))) ?_
    rw [show ∀ (l : List Oper), l.toArray.toList = l from fun l => rfl]
    repeat (first
      | go_big_quiet_skip
      | (go_big_quiet_want
         first
          | (go_big_quiet_op; go_big_quiet_on)
          | (apply Exists.intro
             refine ⟨fun w' hxw => ?_, ?_⟩
             focus (have q2 := g2 w' hxw; have q0 := g0 w' hxw; have q1 := g1 w' hxw; go_simp; first | exact rfl | exact (HAB.out w').mono (fun e w'' h => ⟨h.1, hxw.trans h.2⟩))
             simp only [Act.put, List.setIfInBounds_toArray, List.set_cons_zero, List.set_cons_succ]
             go_big_quiet_on)))
    refine wpQuiet_nil ?_
    intro w2 hx2
    have q0 := g0 w2 hx2
    have q1 := g1 w2 hx2
    have hcb : cb = false := by rw [HCB.out]; exact decide_eq_false (by omega)
    subst hcb
    obtain rfl : ls = 0 := HL.out
    obtain rfl : st = (A + B) / 2 := HS.out
    clear g0 g1 g2 n2 x0 x1 x2
    go_wp2_with fail
    go_ret2
    exact ⟨rfl, X.trans hx2⟩
  · have hd : decide (m ≤ ne) = false := decide_eq_false (by omega)
    refine wp_region_quiet (C := Ext W) (by kernel_rfl) (by kernel_rfl) (Ext.drew (by (repeat (first | exact Ext.refl _ | (with_reducible assumption) | (with_reducible refine Ext.drew ?_) | (with_reducible refine Ext.alloc ?_ _) | (with_reducible refine Ext.drewN ?_ _) | (with_reducible refine Ext.setCell ?_ (by omega) _) | (with_reducible refine Ext.trans ?_ (by with_reducible assumption)))))) ?_
    rw [show ∀ (l : List Oper), l.toArray.toList = l from fun l => rfl]
    repeat (first
      | go_big_quiet_skip
      | (go_big_quiet_want
         first
          | (go_big_quiet_op; go_big_quiet_on)
          | (apply Exists.intro
             refine ⟨fun w' hxw => ?_, ?_⟩
             focus (have q2 := g2 w' hxw; have q0 := g0 w' hxw; have q1 := g1 w' hxw; go_simp; first | exact rfl | exact (HAB.out w').mono (fun e w'' h => ⟨h.1, hxw.trans h.2⟩))
             simp only [Act.put, List.setIfInBounds_toArray, List.set_cons_zero, List.set_cons_succ]
             go_big_quiet_on)))
    refine wpQuiet_nil ?_
    intro w2 hx2
    have hcb : cb = true := by rw [HCB.out]; exact decide_eq_true (by omega)
    subst hcb
    have HS' : Hid (st = min (max U (min A B)) (max A B)) := HS.out
    clear HS HCB hd hdl HAB HMM hwr
    have q0 := g0 w2 hx2
    have q1 := g1 w2 hx2
    have q2 := hx2.keep x2
    clear g0 g1 g2 n2 x0 x1 x2
    have XX := X.trans hx2
    clear X hx2
    obtain ⟨lw, hlw⟩ : ∃ lw, lw = min A B := ⟨_, rfl⟩
    obtain ⟨hg, hhg⟩ : ∃ hg, hg = max A B := ⟨_, rfl⟩
    have hmx : ∀ w, (Builtin.max_ #[3, 3] 3 #[.int .i64 A, .int .i64 B]).run Try.prog w = .ok (.int .i64 hg) w := fun w => umax_i64 (by split <;> omega) _ _ _
    have HM1 := Lib.hid (HM.out A B lw (by split <;> omega))
    have g0 : ∀ w', Ext w2 w' → w'.cell? ⟨w.heap.size + 1, 0, none⟩ = some (.int .i64 A) := fun w' h => h.keep q0
    have g1 : ∀ w', Ext w2 w' → w'.cell? ⟨w.heap.size + 1, 1, none⟩ = some (.int .i64 B) := fun w' h => h.keep q1
    have hlt : w.heap.size + 1 < w2.heap.size := lt_of_cell q0
    have HQ2 := Lib.hid q2
    have HLT := Lib.hid hlw
    have HHG := Lib.hid hhg
    clear hlw hhg
    go_upto_region 3 with fail
    go_cut [6, 7] from 25 to 35 (fun s6 s7 wx => s6 = .int .i64 lw ∧ s7 = .int .i64 hg ∧ Ext w2 wx)
    case first =>
      have HSS : Hid (∀ w', Ext w2 w' → (w'.cell? ⟨w.heap.size + 1, 0, none⟩ = some (.int .i64 A) ∧ w'.cell? ⟨w.heap.size + 1, 1, none⟩ = some (.int .i64 B)) ∧ Ext w2 w') := fun w' hx => ⟨⟨hx.keep q0, hx.keep q1⟩, hx⟩
      clear g0 g1
      go_region_held3 (fun w' => (w'.cell? ⟨w.heap.size + 1, 0, none⟩ = some (.int .i64 A) ∧ w'.cell? ⟨w.heap.size + 1, 1, none⟩ = some (.int .i64 B)) ∧ Ext w2 w')
        ((refine HSS.out _ ?_; (repeat (first | exact Ext.refl _ | (with_reducible assumption) | (with_reducible refine Ext.drew ?_) | (with_reducible refine Ext.alloc ?_ _) | (with_reducible refine Ext.drewN ?_ _) | (with_reducible refine Ext.setCell ?_ (by omega) _) | (with_reducible refine Ext.trans ?_ (by with_reducible assumption))))))
        (first
          | (go_at_call 37; (refine (HM1.out _ _ (by simp) (by simp) _ (by decide)).mono ?_); rintro e w3 ⟨rfl, hx3⟩))
      all_goals
        go_wp2_with fail
        go_meet
        exact ⟨rfl, rfl, by (repeat (first | exact Ext.refl _ | (with_reducible assumption) | (with_reducible refine Ext.drew ?_) | (with_reducible refine Ext.alloc ?_ _) | (with_reducible refine Ext.drewN ?_ _) | (with_reducible refine Ext.setCell ?_ (by omega) _) | (with_reducible refine Ext.trans ?_ (by with_reducible assumption))))⟩
    case rest =>
      obtain ⟨rfl, rfl, hxc⟩ := hcut
      obtain ⟨wd, rfl⟩ : ∃ x, x = wc := ⟨_, rfl⟩
      have q0 := hxc.keep q0
      have q1 := hxc.keep q1
      have q2 := hxc.keep q2
      have XX := XX.trans hxc
      clear hxc g0 g1 HQ2 hlt HM1 hmx
      obtain ⟨t1, ht1⟩ : ∃ t1, t1 = max U lw := ⟨_, rfl⟩
      have hlw := HLT.out
      have hhg := HHG.out
      have hm1 : ∀ w, (Builtin.max_ #[3, 3] 3 #[.int .i64 U, .int .i64 lw]).run Try.prog w = .ok (.int .i64 t1) w := fun w => umax_i64 (by split <;> omega) _ _ _
      have hm2 : st = if hg < t1 then hg else t1 := by rw [HS'.out]; split <;> omega
      have HM2 := Lib.hid (HM.out t1 hg st hm2)
      have HST := HBD.out
      have HLS : Hid ((ls : Int) = if absI (B - st) < absI (A - st) then 2 else if absI (A - st) < absI (B - st) then 3 else 1) := by rw [HL.out]; simp only [if_true]; exact Lib.hid (by split; rfl; split <;> rfl)
      have HT1 := Lib.hid ht1
      clear hm2 HS' HM ht1 HL HBD hlw hhg
      go_wp2_with fail
      (refine (HM2.out _ _ (by simp) (by simp) _ (by decide)).mono ?_)
      rintro e w3 ⟨rfl, hx3⟩
      have X3 : Ext wd w3 := by (repeat (first | exact Ext.refl _ | (with_reducible assumption) | (with_reducible refine Ext.drew ?_) | (with_reducible refine Ext.alloc ?_ _) | (with_reducible refine Ext.drewN ?_ _) | (with_reducible refine Ext.setCell ?_ (by omega) _) | (with_reducible refine Ext.trans ?_ (by with_reducible assumption))))
      have g0 : ∀ w', Ext w3 w' → w'.cell? ⟨w.heap.size + 1, 0, none⟩ = some (.int .i64 A) := fun w' h => h.keep (X3.keep q0)
      have g1 : ∀ w', Ext w3 w' → w'.cell? ⟨w.heap.size + 1, 1, none⟩ = some (.int .i64 B) := fun w' h => h.keep (X3.keep q1)
      have hw1 : IntKind.i64.wrap (A - st) = A - st := IntWalk.i64_in _ (by omega)
      have hw2 : IntKind.i64.wrap (B - st) = B - st := IntWalk.i64_in _ (by omega)
      have HA1 := Lib.hid (HA.out (A - st) (by omega))
      have HA2 := Lib.hid (HA.out (B - st) (by omega))
      generalize absI (A - st) = da at *
      generalize absI (B - st) = db at *
      clear hx3 q0 q1 q2 hm1 HM2 HA
      go_upto_region 5 with fail
      refine wp_region_quiet (C := Ext w3) (by kernel_rfl) (by kernel_rfl) (Ext.drew (by (repeat (first | exact Ext.refl _ | (with_reducible assumption) | (with_reducible refine Ext.drew ?_) | (with_reducible refine Ext.alloc ?_ _) | (with_reducible refine Ext.drewN ?_ _) | (with_reducible refine Ext.setCell ?_ (by omega) _) | (with_reducible refine Ext.trans ?_ (by with_reducible assumption)))))) ?_
      rw [show ∀ (l : List Oper), l.toArray.toList = l from fun l => rfl]
      repeat (first
        | go_big_quiet_skip
        | (go_big_quiet_want
           first
            | (go_big_quiet_op; go_big_quiet_on)
            | (apply Exists.intro
               refine ⟨fun w' hxw => ?_, ?_⟩
               focus (have q0 := g0 w' hxw; have q1 := g1 w' hxw; go_simp; first | exact rfl | first | exact (HA1.out w').mono (fun e w'' h => ⟨h.1, hxw.trans h.2⟩) | exact (HA2.out w').mono (fun e w'' h => ⟨h.1, hxw.trans h.2⟩))
               simp only [Act.put, List.setIfInBounds_toArray, List.set_cons_zero, List.set_cons_succ]
               go_big_quiet_on)))
      refine wpQuiet_nil ?_
      intro w2 hx2
      clear g0 g1 hw1 hw2
      by_cases h1 : db < da
      · have d1 : decide (db < da) = true := decide_eq_true h1
        have hls : (ls : Int) = 2 := by rw [HLS.out, if_pos h1]
        have HLS' := Lib.hid hls
        clear hls HLS
        go_wp2_with fail
        go_ret2
        exact ⟨congrArg (fun z => Ending.returned (.tuple #[.int .i64 st, .int .i64 z])) HLS'.out.symm, XX.trans (X3.trans hx2)⟩
      · have d1 : decide (db < da) = false := decide_eq_false h1
        by_cases h2 : da < db
        · have d2 : decide (da < db) = true := decide_eq_true h2
          have hls : (ls : Int) = 3 := by rw [HLS.out, if_neg h1, if_pos h2]
          have HLS' := Lib.hid hls
          clear hls HLS
          go_wp2_with fail
          go_ret2
          exact ⟨congrArg (fun z => Ending.returned (.tuple #[.int .i64 st, .int .i64 z])) HLS'.out.symm, XX.trans (X3.trans hx2)⟩
        · have d2 : decide (da < db) = false := decide_eq_false h2
          have hls : (ls : Int) = 1 := by rw [HLS.out, if_neg h1, if_neg h2]
          have HLS' := Lib.hid hls
          clear hls HLS
          go_wp2_with fail
          go_ret2
          exact ⟨congrArg (fun z => Ending.returned (.tuple #[.int .i64 st, .int .i64 z])) HLS'.out.symm, XX.trans (X3.trans hx2)⟩
end Go.Proofs.Ytedblocbcjoolaa

/- Contracts of layer 7: the claim of a field. -/
namespace Go.Hs
open Go.RowKit
/-- A case's value, written out. -/
abbrev casV (a1 : Option Addr) (n1 c1 : Nat) (day fee : Int) (a2 : Option Addr) (n2 c2 : Nat) : Value := .agg #[.slice a1 n1 c1, .int .i64 day, .int .i64 fee, .slice a2 n2 c2]
theorem CasV.open {w : World} {v : Value} {c : Cas} (h : CasV w v c) : ∃ a1 c1 a2 c2, v = casV a1 c.tars.length c1 c.day c.fee a2 c.flds.length c2 ∧ TarsV w (.slice a1 c.tars.length c1) c.tars ∧
    FldsV w (.slice a2 c.flds.length c2) c.flds ∧ Cells9 w a2 (c.flds.map Fld.c) ∧ c.flds.length ≤ c2 ∧ c.flds.length ≤ 1000 := by
  obtain ⟨vt, vf, rfl, h1, h2⟩ := h
  obtain ⟨a1, c1, rfl, -⟩ := id h1
  obtain ⟨a2, c2, rfl, h3, h4, h5⟩ := id h2
  exact ⟨a1, c1, a2, c2, rfl, h1, h2, h5, h3, h4⟩
end Go.Hs
namespace Go.Proofs.Ytedblocbcjoolaa
open Go.RowKit Go.Hs
attribute [local irreducible] World.setCell World.alloc

set_option maxRecDepth 100000 in
set_option maxHeartbeats 2000000 in
theorem claim_u (a1 : Option Addr) (n1 c1 : Nat) (day fee : Int) (a2 : Option Addr) (n2 c2 : Nat) (f : Fld) (n : Int) (w : World) :
    Calls Try.prog 38 #[casV a1 n1 c1 day fee a2 n2 c2, f.c.val, .int .i64 n] w fun e w' =>
      e = .returned (.tuple #[(⟨f.crop, f.value, day, day, n, n⟩ : Cla).u.val, .agg #[.int .i64 day, .int .i64 n]]) ∧ Ext w w' := by
  obtain ⟨cr, va, ne, al, ah, bl, bh, ul, uh⟩ := f
  simp only [Fld.c, Cla.u]
  go_enter Try.func38, Try.ntmps38
  go_wp2_with fail
  go_region
  all_goals
    go_wp2_with fail
    refine bodyPost_ret (v := .tuple #[.agg #[.int .i64 cr, .int .i64 va, .int .i64 day, .int .i64 day, .int .i64 n, .int .i64 n], .agg #[.int .i64 day, .int .i64 n]]) (by simp [results, Try.results38, go_sem]) rfl ⟨rfl, ?_⟩
    (repeat (first | exact Ext.refl _ | (with_reducible assumption) | (with_reducible refine Ext.drew ?_) | (with_reducible refine Ext.alloc ?_ _) | (with_reducible refine Ext.drewN ?_ _) | (with_reducible refine Ext.setCell ?_ (by omega) _) | (with_reducible refine Ext.trans ?_ (by with_reducible assumption))))

end Go.Proofs.Ytedblocbcjoolaa

/- What goes through a list with a function, of package umpire: slices.IndexFunc, slices.ContainsFunc, all. Printed by gen_all.py. -/
namespace Go.Proofs.Ytedblocbcjoolaa
open Go.RowKit Go.Hs

set_option maxHeartbeats 400000 in
theorem idx_fld (cap : Value) (a : Option Addr) (c : Nat) (us : List V9) (p : Nat → Bool) (I : Nat → World → Prop) (w : World)
    (hlen : us.length ≤ 140737488351232)
    (hrow : ∀ i w, I i w → Cells9 w a us)
    (hcall : ∀ i (h : i < us.length) w1, I i w1 → Calls Try.prog 52 #[us[i].val, cap] w1 fun e w2 => e = .returned (.bool (p i)) ∧ I (i + 1) w2)
    (h0 : I 0 w) :
    Calls Try.prog 67 #[.slice a us.length c, .func (.func 52) #[] #[cap]] w
      (IdxPost us.length p I) := by
  go_enter Try.func67, Try.ntmps67
  go_wp2
  go_loopw [4, 5, 8] (fun r j i wr => ∃ k : Nat, k ≤ us.length ∧ i = .int .i64 k ∧ (∀ m, m < k → p m = false) ∧ I k wr) (fun _ _ i _ => us.length - (intOf i).toNat)
  case atStart => exact ⟨0, Nat.zero_le _, rfl, fun m hm => absurd hm (Nat.not_lt_zero _), h0⟩
  case round =>
    obtain ⟨k, hk, rfl, hp, hI⟩ := hrel
    by_cases hlt : k < us.length
    · obtain ⟨b, off, rfl, g0, g1, g2, g3, g4, g5, g6, g7, g8⟩ := hrow k wr hI k hlt
      have hc0 := hcall k hlt wr hI
      cases hpk : p k
      · rw [hpk] at hc0
        clear hcall hrow
        have HP := Lib.hid hpk; clear hpk
        go_wp2_with ((with_reducible refine hc0.mono ?_); rintro e w2 ⟨rfl, hI2⟩)
        go_roundw
        case rel => exact ⟨k + 1, by omega, by go_num, fun m hm => by
          by_cases e : m = k
          · subst e; exact HP.out
          · exact hp m (by omega), hI2⟩
        case measure => simp [intOf]; omega
      · rw [hpk] at hc0
        clear hcall hrow
        have HP := Lib.hid hpk; clear hpk
        have HP0 := Lib.hid hp; clear hp
        go_wp2_with ((with_reducible refine hc0.mono ?_); rintro e w2 ⟨rfl, hI2⟩)
        go_ret
        exact .inl ⟨k, hlt, HP.out, HP0.out, rfl, hI2⟩
    · have hk' : k = us.length := by omega
      subst hk'
      have HP0 := Lib.hid hp; clear hp
      clear hcall hrow
      go_wp2
      go_ret
      exact .inr ⟨HP0.out, rfl, hI⟩

set_option maxHeartbeats 400000 in
theorem cont_fld (cap : Value) (a : Option Addr) (c : Nat) (us : List V9) (p : Nat → Bool) (I : Nat → World → Prop) (w : World)
    (hlen : us.length ≤ 140737488351232)
    (hrow : ∀ i w, I i w → Cells9 w a us)
    (hcall : ∀ i (h : i < us.length) w1, I i w1 → Calls Try.prog 52 #[us[i].val, cap] w1 fun e w2 => e = .returned (.bool (p i)) ∧ I (i + 1) w2)
    (h0 : I 0 w) :
    Calls Try.prog 51 #[.slice a us.length c, .func (.func 52) #[] #[cap]] w
      (ContPost us.length p I) := by
  have hi := idx_fld cap a c us p I w hlen hrow hcall h0
  clear hrow hcall h0
  go_enter Try.func51, Try.ntmps51
  go_wp2_with ((with_reducible refine hi.mono ?_); rintro e w2 (⟨i, hi1, hi2, hi3, rfl, hi5⟩ | ⟨hi3, rfl, hi5⟩))
  · have H2 := Lib.hid hi2; clear hi2
    have H3 := Lib.hid hi3; clear hi3
    go_wp2
    go_ret
    exact ContPost.yes hi1 H2.out (by simp) hi5
  · have H3 := Lib.hid hi3; clear hi3
    go_wp2
    go_ret
    exact ContPost.no H3.out (by simp) hi5

set_option maxHeartbeats 400000 in
theorem alls_fld (F : FuncId) (hF : FnOK F) (first caps : Array Value) (B : Nat) (x : V9) (r : Bool) (R : World → Prop) (w : World)
    (hcap : w.cell? ⟨B, 0, none⟩ = some (.func (.func F) first caps))
    (hcall : Calls Try.prog F (first.push x.val ++ caps) (w.alloc (.cells #[x.c0, x.c1, x.c2, x.c3, x.c4, x.c5, x.c6, x.c7, x.c8] 46)) fun e w2 => e = .returned (.bool r) ∧ R w2) :
    Calls Try.prog 52 #[x.val, .pointer (some ⟨B, 0, none⟩)] w fun e w2 => e = .returned (.bool (!r)) ∧ R w2 := by
  unfold FnOK at hF
  have hB : B < w.heap.size := lt_of_cell hcap
  go_enter Try.func52, Try.ntmps52
  go_wp2_with ((with_reducible refine hcall.mono ?_); rintro e w2 ⟨rfl, hR⟩)
  go_ret
  exact ⟨rfl, hR⟩

set_option maxHeartbeats 400000 in
/-- 'all': it goes through the list till the function says no. -/
theorem all_fld (F : FuncId) (hF : FnOK F) (first caps : Array Value) (a : Option Addr) (c : Nat) (us : List V9) (q : Nat → Bool) (I : Nat → World → Prop) (w : World)
    (hlen : us.length ≤ 140737488351232)
    (hrow : ∀ i w, I i w → Cells9 w a us)
    (hal : ∀ i w o, I i w → I i (w.alloc o))
    (hcall : ∀ i (h : i < us.length) w1, w.heap.size ≤ w1.heap.size → I i w1 → Calls Try.prog F (first.push us[i].val ++ caps) w1 fun e w2 => e = .returned (.bool (q i)) ∧ I (i + 1) w2 ∧ Kept w.heap.size w1 w2)
    (h0 : I 0 w) :
    Calls Try.prog 31 #[.slice a us.length c, .func (.func F) first caps] w
      (AllPost us.length q I) := by
  have hi := cont_fld (.pointer (some ⟨w.heap.size, 0, none⟩)) a c us (fun i => !q i) (AllInv w (.func (.func F) first caps) I) (w.alloc (.cells #[.func (.func F) first caps] 85)) hlen
    (fun i w1 h => hrow i w1 h.inv)
    (fun i h w1 hI => alls_fld F hF first caps w.heap.size us[i] (q i) _ w1 hI.cell ((hcall i h (w1.alloc (.cells #[us[i].c0, us[i].c1, us[i].c2, us[i].c3, us[i].c4, us[i].c5, us[i].c6, us[i].c7, us[i].c8] 46)) (Nat.le_trans (Nat.le_of_lt hI.size) ((Ext.refl w1).alloc (.cells #[us[i].c0, us[i].c1, us[i].c2, us[i].c3, us[i].c4, us[i].c5, us[i].c6, us[i].c7, us[i].c8] 46)).size) (hal _ _ _ hI.inv)).mono fun e w3 h3 => ⟨h3.1, AllInv.next hI ((Ext.refl w1).alloc (.cells #[us[i].c0, us[i].c1, us[i].c2, us[i].c3, us[i].c4, us[i].c5, us[i].c6, us[i].c7, us[i].c8] 46)) h3.2.1 h3.2.2⟩))
    ⟨by simp, by simp, hal _ _ _ h0⟩
  clear hrow hcall h0 hal
  go_enter Try.func31, Try.ntmps31
  go_wp2_with ((with_reducible refine hi.mono ?_); rintro e w2 ⟨i, hi1, hi2, rfl⟩)
  go_ret
  exact ⟨i, hi1, hi2.inv, ret_bool (by simp [allB, anyB, List.not_all_eq_any_not])⟩

/-- The same, where the function only makes the world grow. -/
theorem allx_fld (F : FuncId) (hF : FnOK F) (first caps : Array Value) (a : Option Addr) (c : Nat) (us : List V9) (q : Nat → Bool) (w : World)
    (hlen : us.length ≤ 140737488351232) (hrow : Cells9 w a us)
    (hcall : ∀ i (h : i < us.length) w1, Ext w w1 → Calls Try.prog F (first.push us[i].val ++ caps) w1 fun e w2 => e = .returned (.bool (q i)) ∧ Ext w1 w2) :
    Calls Try.prog 31 #[.slice a us.length c, .func (.func F) first caps] w fun e w' => e = .returned (.bool (allB us.length q)) ∧ Ext w w' :=
  (all_fld F hF first caps a c us q (fun _ w' => Ext w w') w hlen (fun _ _ h => hrow.ext h) (fun _ _ o h => h.alloc o)
    (fun i h w1 _ hI => (hcall i h w1 hI).mono fun _ _ h2 => ⟨h2.1, hI.trans h2.2, h2.2.kept _⟩) (Ext.refl w)).mono fun _ _ ⟨_, _, hI, he⟩ => ⟨he, hI⟩

end Go.Proofs.Ytedblocbcjoolaa

/- Contracts of layer 7: the payment on a field, and whether a case is valid. -/
namespace Go.Proofs.Ytedblocbcjoolaa
open Go.RowKit Go.Hs
attribute [local irreducible] World.setCell World.alloc

set_option maxRecDepth 100000 in
set_option maxHeartbeats 2000000 in
theorem pay_u (c : Cas) (v : Value) (f : Fld) (n : Int) (w : World) (hv : CasV w v c) :
    Calls Try.prog 18 #[v, f.c.val, .int .i64 n] w fun e w' => e = .returned (.tuple #[.int .i64 (payC c f n), .bool (payOk c f n)]) ∧ Ext w w' := by
  obtain ⟨a1, c1, a2, c2, rfl, ht, -, -, -, -⟩ := hv.open
  have HCL := Lib.hid (claim_u a1 c.tars.length c1 c.day c.fee a2 c.flds.length c2 f n)
  have HPY : Hid (∀ w', Ext w w' → Calls Try.prog 39 #[.slice a1 c.tars.length c1, (⟨f.crop, f.value, c.day, c.day, n, n⟩ : Cla).u.val, .agg #[.int .i64 c.day, .int .i64 n]] w' fun e w'' => e = .returned (.tuple #[.int .i64 (payC c f n), .int .i64 (payE c.tars (claimF c f n) c.day n)]) ∧ Ext w' w'') :=
    Lib.hid (fun w' hx => Pay_any _ _ (claimF c f n) c.day n w' (ht.ext hx))
  have HOK : Hid (payOk c f n = (payE c.tars (claimF c f n) c.day n == 0)) := rfl
  generalize payE c.tars (claimF c f n) c.day n = pe at *
  generalize payC c f n = pn at *
  generalize payOk c f n = ok at *
  generalize c.tars.length = n1 at *
  generalize c.flds.length = n2 at *
  obtain ⟨cr, va, ne, al, ah, bl, bh, ul, uh⟩ := f
  simp only [Fld.c, Cla.u] at *
  clear hv ht
  go_enter Try.func18, Try.ntmps18
  go_wp2_with fail
  (with_reducible refine (HCL.out _).mono ?_)
  rintro e w1 ⟨rfl, hx1⟩
  have X1 : Ext w w1 := by (repeat (first | exact Ext.refl _ | (with_reducible assumption) | (with_reducible refine Ext.drew ?_) | (with_reducible refine Ext.alloc ?_ _) | (with_reducible refine Ext.drewN ?_ _) | (with_reducible refine Ext.setCell ?_ (by omega) _) | (with_reducible refine Ext.trans ?_ (by with_reducible assumption))))
  have q0 := hx1.keep (k := w.heap.size) (o := 0) (v := .slice a1 n1 c1) (by simp [go_sem])
  have y0 : ∀ A B, ((w1.alloc A).alloc B).cell? ⟨w.heap.size, 0, none⟩ = some (.slice a1 n1 c1) := fun A B => (((Ext.refl w1).alloc A).alloc B).keep q0
  clear hx1 q0
  go_wp2_with fail
  (with_reducible refine (HPY.out _ ?hx).mono ?_)
  case hx => (repeat (first | exact Ext.refl _ | (with_reducible assumption) | (with_reducible refine Ext.drew ?_) | (with_reducible refine Ext.alloc ?_ _) | (with_reducible refine Ext.drewN ?_ _) | (with_reducible refine Ext.setCell ?_ (by omega) _) | (with_reducible refine Ext.trans ?_ (by with_reducible assumption))))
  rintro e w2 ⟨rfl, hx2⟩
  go_wp2_with fail
  go_ret2
  exact ⟨congrArg (fun z => Ending.returned (.tuple #[.int .i64 pn, .bool z])) HOK.out.symm, by (repeat (first | exact Ext.refl _ | (with_reducible assumption) | (with_reducible refine Ext.drew ?_) | (with_reducible refine Ext.alloc ?_ _) | (with_reducible refine Ext.drewN ?_ _) | (with_reducible refine Ext.setCell ?_ (by omega) _) | (with_reducible refine Ext.trans ?_ (by with_reducible assumption))))⟩

set_option maxRecDepth 100000 in
set_option maxHeartbeats 4000000 in
theorem field_u (c : Cas) (v : Value) (f : Fld) (w : World) (hv : CasV w v c) :
    Calls Try.prog 29 #[v, f.c.val] w fun e w' => e = .returned (.bool (fieldB c f)) ∧ Ext w w' := by
  have HPY : Hid (∀ w', Ext w w' → Calls Try.prog 18 #[v, f.c.val, .int .i64 0] w' fun e w'' => e = .returned (.tuple #[.int .i64 (payC c f 0), .bool (payOk c f 0)]) ∧ Ext w' w'') :=
    Lib.hid (fun w' hx => pay_u c v f 0 w' (hv.ext hx))
  obtain ⟨a1, c1, a2, c2, rfl, -, -, -, -, -⟩ := hv.open
  clear hv
  have HF : Hid (fieldB c f = (payOk c f 0 && (inR f.near 0 100 && (countsB f.alo f.ahi && (countsB f.blo f.bhi && countsB f.ulo f.uhi))))) := rfl
  generalize fieldB c f = r at *
  generalize payC c f 0 = pn at *
  generalize payOk c f 0 = ok at *
  obtain ⟨cr, va, ne, al, ah, bl, bh, ul, uh⟩ := f
  simp only [Fld.c] at *
  have HN := Lib.hid (within_u ne 0 100)
  have HCA := Lib.hid (counts_u al ah)
  have HCB := Lib.hid (counts_u bl bh)
  have HCU := Lib.hid (counts_u ul uh)
  generalize inR ne 0 100 = b1 at *
  generalize countsB al ah = b2 at *
  generalize countsB bl bh = b3 at *
  generalize countsB ul uh = b4 at *
  generalize c.tars.length = n1 at *
  generalize c.flds.length = n2 at *
  cases ok with
  | false =>
    obtain rfl : r = false := HF.out
    clear HF
    go_enter Try.func29, Try.ntmps29
    go_wp2_with fail
    (with_reducible refine (HPY.out _ (by (repeat (first | exact Ext.refl _ | (with_reducible assumption) | (with_reducible refine Ext.drew ?_) | (with_reducible refine Ext.alloc ?_ _) | (with_reducible refine Ext.drewN ?_ _) | (with_reducible refine Ext.setCell ?_ (by omega) _) | (with_reducible refine Ext.trans ?_ (by with_reducible assumption)))))).mono ?_)
    rintro e w1 ⟨rfl, hx1⟩
    have X1 : Ext w w1 := by (repeat (first | exact Ext.refl _ | (with_reducible assumption) | (with_reducible refine Ext.drew ?_) | (with_reducible refine Ext.alloc ?_ _) | (with_reducible refine Ext.drewN ?_ _) | (with_reducible refine Ext.setCell ?_ (by omega) _) | (with_reducible refine Ext.trans ?_ (by with_reducible assumption))))
    have c2 := hx1.keep (k := w.heap.size + 1) (o := 2) (v := .int .i64 ne) (by simp [go_sem])
    have c3 := hx1.keep (k := w.heap.size + 1) (o := 3) (v := .int .i64 al) (by simp [go_sem])
    have c4 := hx1.keep (k := w.heap.size + 1) (o := 4) (v := .int .i64 ah) (by simp [go_sem])
    have c5 := hx1.keep (k := w.heap.size + 1) (o := 5) (v := .int .i64 bl) (by simp [go_sem])
    have c6 := hx1.keep (k := w.heap.size + 1) (o := 6) (v := .int .i64 bh) (by simp [go_sem])
    have c7 := hx1.keep (k := w.heap.size + 1) (o := 7) (v := .int .i64 ul) (by simp [go_sem])
    have c8 := hx1.keep (k := w.heap.size + 1) (o := 8) (v := .int .i64 uh) (by simp [go_sem])
    clear hx1
    go_wp2_with fail
    go_ret
    exact ⟨rfl, by (repeat (first | exact Ext.refl _ | (with_reducible assumption) | (with_reducible refine Ext.drew ?_) | (with_reducible refine Ext.alloc ?_ _) | (with_reducible refine Ext.drewN ?_ _) | (with_reducible refine Ext.setCell ?_ (by omega) _) | (with_reducible refine Ext.trans ?_ (by with_reducible assumption))))⟩
  | true =>
    cases b1 with
    | false =>
      obtain rfl : r = false := HF.out
      clear HF
      go_enter Try.func29, Try.ntmps29
      go_wp2_with fail
      (with_reducible refine (HPY.out _ (by (repeat (first | exact Ext.refl _ | (with_reducible assumption) | (with_reducible refine Ext.drew ?_) | (with_reducible refine Ext.alloc ?_ _) | (with_reducible refine Ext.drewN ?_ _) | (with_reducible refine Ext.setCell ?_ (by omega) _) | (with_reducible refine Ext.trans ?_ (by with_reducible assumption)))))).mono ?_)
      rintro e w1 ⟨rfl, hx1⟩
      have X1 : Ext w w1 := by (repeat (first | exact Ext.refl _ | (with_reducible assumption) | (with_reducible refine Ext.drew ?_) | (with_reducible refine Ext.alloc ?_ _) | (with_reducible refine Ext.drewN ?_ _) | (with_reducible refine Ext.setCell ?_ (by omega) _) | (with_reducible refine Ext.trans ?_ (by with_reducible assumption))))
      have c2 := hx1.keep (k := w.heap.size + 1) (o := 2) (v := .int .i64 ne) (by simp [go_sem])
      have c3 := hx1.keep (k := w.heap.size + 1) (o := 3) (v := .int .i64 al) (by simp [go_sem])
      have c4 := hx1.keep (k := w.heap.size + 1) (o := 4) (v := .int .i64 ah) (by simp [go_sem])
      have c5 := hx1.keep (k := w.heap.size + 1) (o := 5) (v := .int .i64 bl) (by simp [go_sem])
      have c6 := hx1.keep (k := w.heap.size + 1) (o := 6) (v := .int .i64 bh) (by simp [go_sem])
      have c7 := hx1.keep (k := w.heap.size + 1) (o := 7) (v := .int .i64 ul) (by simp [go_sem])
      have c8 := hx1.keep (k := w.heap.size + 1) (o := 8) (v := .int .i64 uh) (by simp [go_sem])
      clear hx1
      go_wp2_with fail
      (with_reducible refine (HN.out _).mono ?_)
      rintro e w2 ⟨rfl, hx2⟩
      have c3 := hx2.keep c3
      have c4 := hx2.keep c4
      have c5 := hx2.keep c5
      have c6 := hx2.keep c6
      have c7 := hx2.keep c7
      have c8 := hx2.keep c8
      have X2 := X1.trans hx2
      clear hx2
      go_wp2_with fail
      go_ret
      exact ⟨rfl, by (repeat (first | exact Ext.refl _ | (with_reducible assumption) | (with_reducible refine Ext.drew ?_) | (with_reducible refine Ext.alloc ?_ _) | (with_reducible refine Ext.drewN ?_ _) | (with_reducible refine Ext.setCell ?_ (by omega) _) | (with_reducible refine Ext.trans ?_ (by with_reducible assumption))))⟩
    | true =>
      cases b2 with
      | false =>
        obtain rfl : r = false := HF.out
        clear HF
        go_enter Try.func29, Try.ntmps29
        go_wp2_with fail
        (with_reducible refine (HPY.out _ (by (repeat (first | exact Ext.refl _ | (with_reducible assumption) | (with_reducible refine Ext.drew ?_) | (with_reducible refine Ext.alloc ?_ _) | (with_reducible refine Ext.drewN ?_ _) | (with_reducible refine Ext.setCell ?_ (by omega) _) | (with_reducible refine Ext.trans ?_ (by with_reducible assumption)))))).mono ?_)
        rintro e w1 ⟨rfl, hx1⟩
        have X1 : Ext w w1 := by (repeat (first | exact Ext.refl _ | (with_reducible assumption) | (with_reducible refine Ext.drew ?_) | (with_reducible refine Ext.alloc ?_ _) | (with_reducible refine Ext.drewN ?_ _) | (with_reducible refine Ext.setCell ?_ (by omega) _) | (with_reducible refine Ext.trans ?_ (by with_reducible assumption))))
        have c2 := hx1.keep (k := w.heap.size + 1) (o := 2) (v := .int .i64 ne) (by simp [go_sem])
        have c3 := hx1.keep (k := w.heap.size + 1) (o := 3) (v := .int .i64 al) (by simp [go_sem])
        have c4 := hx1.keep (k := w.heap.size + 1) (o := 4) (v := .int .i64 ah) (by simp [go_sem])
        have c5 := hx1.keep (k := w.heap.size + 1) (o := 5) (v := .int .i64 bl) (by simp [go_sem])
        have c6 := hx1.keep (k := w.heap.size + 1) (o := 6) (v := .int .i64 bh) (by simp [go_sem])
        have c7 := hx1.keep (k := w.heap.size + 1) (o := 7) (v := .int .i64 ul) (by simp [go_sem])
        have c8 := hx1.keep (k := w.heap.size + 1) (o := 8) (v := .int .i64 uh) (by simp [go_sem])
        clear hx1
        go_wp2_with fail
        (with_reducible refine (HN.out _).mono ?_)
        rintro e w2 ⟨rfl, hx2⟩
        have c3 := hx2.keep c3
        have c4 := hx2.keep c4
        have c5 := hx2.keep c5
        have c6 := hx2.keep c6
        have c7 := hx2.keep c7
        have c8 := hx2.keep c8
        have X2 := X1.trans hx2
        clear hx2
        go_wp2_with fail
        (with_reducible refine (HCA.out _).mono ?_)
        rintro e w3 ⟨rfl, hx3⟩
        have c5 := hx3.keep c5
        have c6 := hx3.keep c6
        have c7 := hx3.keep c7
        have c8 := hx3.keep c8
        have X3 := X2.trans hx3
        clear hx3
        go_wp2_with fail
        go_ret
        exact ⟨rfl, by (repeat (first | exact Ext.refl _ | (with_reducible assumption) | (with_reducible refine Ext.drew ?_) | (with_reducible refine Ext.alloc ?_ _) | (with_reducible refine Ext.drewN ?_ _) | (with_reducible refine Ext.setCell ?_ (by omega) _) | (with_reducible refine Ext.trans ?_ (by with_reducible assumption))))⟩
      | true =>
        cases b3 with
        | false =>
          obtain rfl : r = false := HF.out
          clear HF
          go_enter Try.func29, Try.ntmps29
          go_wp2_with fail
          (with_reducible refine (HPY.out _ (by (repeat (first | exact Ext.refl _ | (with_reducible assumption) | (with_reducible refine Ext.drew ?_) | (with_reducible refine Ext.alloc ?_ _) | (with_reducible refine Ext.drewN ?_ _) | (with_reducible refine Ext.setCell ?_ (by omega) _) | (with_reducible refine Ext.trans ?_ (by with_reducible assumption)))))).mono ?_)
          rintro e w1 ⟨rfl, hx1⟩
          have X1 : Ext w w1 := by (repeat (first | exact Ext.refl _ | (with_reducible assumption) | (with_reducible refine Ext.drew ?_) | (with_reducible refine Ext.alloc ?_ _) | (with_reducible refine Ext.drewN ?_ _) | (with_reducible refine Ext.setCell ?_ (by omega) _) | (with_reducible refine Ext.trans ?_ (by with_reducible assumption))))
          have c2 := hx1.keep (k := w.heap.size + 1) (o := 2) (v := .int .i64 ne) (by simp [go_sem])
          have c3 := hx1.keep (k := w.heap.size + 1) (o := 3) (v := .int .i64 al) (by simp [go_sem])
          have c4 := hx1.keep (k := w.heap.size + 1) (o := 4) (v := .int .i64 ah) (by simp [go_sem])
          have c5 := hx1.keep (k := w.heap.size + 1) (o := 5) (v := .int .i64 bl) (by simp [go_sem])
          have c6 := hx1.keep (k := w.heap.size + 1) (o := 6) (v := .int .i64 bh) (by simp [go_sem])
          have c7 := hx1.keep (k := w.heap.size + 1) (o := 7) (v := .int .i64 ul) (by simp [go_sem])
          have c8 := hx1.keep (k := w.heap.size + 1) (o := 8) (v := .int .i64 uh) (by simp [go_sem])
          clear hx1
          go_wp2_with fail
          (with_reducible refine (HN.out _).mono ?_)
          rintro e w2 ⟨rfl, hx2⟩
          have c3 := hx2.keep c3
          have c4 := hx2.keep c4
          have c5 := hx2.keep c5
          have c6 := hx2.keep c6
          have c7 := hx2.keep c7
          have c8 := hx2.keep c8
          have X2 := X1.trans hx2
          clear hx2
          go_wp2_with fail
          (with_reducible refine (HCA.out _).mono ?_)
          rintro e w3 ⟨rfl, hx3⟩
          have c5 := hx3.keep c5
          have c6 := hx3.keep c6
          have c7 := hx3.keep c7
          have c8 := hx3.keep c8
          have X3 := X2.trans hx3
          clear hx3
          go_wp2_with fail
          (with_reducible refine (HCB.out _).mono ?_)
          rintro e w4 ⟨rfl, hx4⟩
          have c7 := hx4.keep c7
          have c8 := hx4.keep c8
          have X4 := X3.trans hx4
          clear hx4
          go_wp2_with fail
          go_ret
          exact ⟨rfl, by (repeat (first | exact Ext.refl _ | (with_reducible assumption) | (with_reducible refine Ext.drew ?_) | (with_reducible refine Ext.alloc ?_ _) | (with_reducible refine Ext.drewN ?_ _) | (with_reducible refine Ext.setCell ?_ (by omega) _) | (with_reducible refine Ext.trans ?_ (by with_reducible assumption))))⟩
        | true =>
          cases b4 with
          | false =>
            obtain rfl : r = false := HF.out
            clear HF
            go_enter Try.func29, Try.ntmps29
            go_wp2_with fail
            (with_reducible refine (HPY.out _ (by (repeat (first | exact Ext.refl _ | (with_reducible assumption) | (with_reducible refine Ext.drew ?_) | (with_reducible refine Ext.alloc ?_ _) | (with_reducible refine Ext.drewN ?_ _) | (with_reducible refine Ext.setCell ?_ (by omega) _) | (with_reducible refine Ext.trans ?_ (by with_reducible assumption)))))).mono ?_)
            rintro e w1 ⟨rfl, hx1⟩
            have X1 : Ext w w1 := by (repeat (first | exact Ext.refl _ | (with_reducible assumption) | (with_reducible refine Ext.drew ?_) | (with_reducible refine Ext.alloc ?_ _) | (with_reducible refine Ext.drewN ?_ _) | (with_reducible refine Ext.setCell ?_ (by omega) _) | (with_reducible refine Ext.trans ?_ (by with_reducible assumption))))
            have c2 := hx1.keep (k := w.heap.size + 1) (o := 2) (v := .int .i64 ne) (by simp [go_sem])
            have c3 := hx1.keep (k := w.heap.size + 1) (o := 3) (v := .int .i64 al) (by simp [go_sem])
            have c4 := hx1.keep (k := w.heap.size + 1) (o := 4) (v := .int .i64 ah) (by simp [go_sem])
            have c5 := hx1.keep (k := w.heap.size + 1) (o := 5) (v := .int .i64 bl) (by simp [go_sem])
            have c6 := hx1.keep (k := w.heap.size + 1) (o := 6) (v := .int .i64 bh) (by simp [go_sem])
            have c7 := hx1.keep (k := w.heap.size + 1) (o := 7) (v := .int .i64 ul) (by simp [go_sem])
            have c8 := hx1.keep (k := w.heap.size + 1) (o := 8) (v := .int .i64 uh) (by simp [go_sem])
            clear hx1
            go_wp2_with fail
            (with_reducible refine (HN.out _).mono ?_)
            rintro e w2 ⟨rfl, hx2⟩
            have c3 := hx2.keep c3
            have c4 := hx2.keep c4
            have c5 := hx2.keep c5
            have c6 := hx2.keep c6
            have c7 := hx2.keep c7
            have c8 := hx2.keep c8
            have X2 := X1.trans hx2
            clear hx2
            go_wp2_with fail
            (with_reducible refine (HCA.out _).mono ?_)
            rintro e w3 ⟨rfl, hx3⟩
            have c5 := hx3.keep c5
            have c6 := hx3.keep c6
            have c7 := hx3.keep c7
            have c8 := hx3.keep c8
            have X3 := X2.trans hx3
            clear hx3
            go_wp2_with fail
            (with_reducible refine (HCB.out _).mono ?_)
            rintro e w4 ⟨rfl, hx4⟩
            have c7 := hx4.keep c7
            have c8 := hx4.keep c8
            have X4 := X3.trans hx4
            clear hx4
            go_wp2_with fail
            (with_reducible refine (HCU.out _).mono ?_)
            rintro e w5 ⟨rfl, hx5⟩
            have X5 := X4.trans hx5
            clear hx5
            go_wp2_with fail
            go_ret
            exact ⟨rfl, by (repeat (first | exact Ext.refl _ | (with_reducible assumption) | (with_reducible refine Ext.drew ?_) | (with_reducible refine Ext.alloc ?_ _) | (with_reducible refine Ext.drewN ?_ _) | (with_reducible refine Ext.setCell ?_ (by omega) _) | (with_reducible refine Ext.trans ?_ (by with_reducible assumption))))⟩
          | true =>
            obtain rfl : r = true := HF.out
            clear HF
            go_enter Try.func29, Try.ntmps29
            go_wp2_with fail
            (with_reducible refine (HPY.out _ (by (repeat (first | exact Ext.refl _ | (with_reducible assumption) | (with_reducible refine Ext.drew ?_) | (with_reducible refine Ext.alloc ?_ _) | (with_reducible refine Ext.drewN ?_ _) | (with_reducible refine Ext.setCell ?_ (by omega) _) | (with_reducible refine Ext.trans ?_ (by with_reducible assumption)))))).mono ?_)
            rintro e w1 ⟨rfl, hx1⟩
            have X1 : Ext w w1 := by (repeat (first | exact Ext.refl _ | (with_reducible assumption) | (with_reducible refine Ext.drew ?_) | (with_reducible refine Ext.alloc ?_ _) | (with_reducible refine Ext.drewN ?_ _) | (with_reducible refine Ext.setCell ?_ (by omega) _) | (with_reducible refine Ext.trans ?_ (by with_reducible assumption))))
            have c2 := hx1.keep (k := w.heap.size + 1) (o := 2) (v := .int .i64 ne) (by simp [go_sem])
            have c3 := hx1.keep (k := w.heap.size + 1) (o := 3) (v := .int .i64 al) (by simp [go_sem])
            have c4 := hx1.keep (k := w.heap.size + 1) (o := 4) (v := .int .i64 ah) (by simp [go_sem])
            have c5 := hx1.keep (k := w.heap.size + 1) (o := 5) (v := .int .i64 bl) (by simp [go_sem])
            have c6 := hx1.keep (k := w.heap.size + 1) (o := 6) (v := .int .i64 bh) (by simp [go_sem])
            have c7 := hx1.keep (k := w.heap.size + 1) (o := 7) (v := .int .i64 ul) (by simp [go_sem])
            have c8 := hx1.keep (k := w.heap.size + 1) (o := 8) (v := .int .i64 uh) (by simp [go_sem])
            clear hx1
            go_wp2_with fail
            (with_reducible refine (HN.out _).mono ?_)
            rintro e w2 ⟨rfl, hx2⟩
            have c3 := hx2.keep c3
            have c4 := hx2.keep c4
            have c5 := hx2.keep c5
            have c6 := hx2.keep c6
            have c7 := hx2.keep c7
            have c8 := hx2.keep c8
            have X2 := X1.trans hx2
            clear hx2
            go_wp2_with fail
            (with_reducible refine (HCA.out _).mono ?_)
            rintro e w3 ⟨rfl, hx3⟩
            have c5 := hx3.keep c5
            have c6 := hx3.keep c6
            have c7 := hx3.keep c7
            have c8 := hx3.keep c8
            have X3 := X2.trans hx3
            clear hx3
            go_wp2_with fail
            (with_reducible refine (HCB.out _).mono ?_)
            rintro e w4 ⟨rfl, hx4⟩
            have c7 := hx4.keep c7
            have c8 := hx4.keep c8
            have X4 := X3.trans hx4
            clear hx4
            go_wp2_with fail
            (with_reducible refine (HCU.out _).mono ?_)
            rintro e w5 ⟨rfl, hx5⟩
            have X5 := X4.trans hx5
            clear hx5
            go_wp2_with fail
            go_ret
            exact ⟨rfl, by (repeat (first | exact Ext.refl _ | (with_reducible assumption) | (with_reducible refine Ext.drew ?_) | (with_reducible refine Ext.alloc ?_ _) | (with_reducible refine Ext.drewN ?_ _) | (with_reducible refine Ext.setCell ?_ (by omega) _) | (with_reducible refine Ext.trans ?_ (by with_reducible assumption))))⟩
end Go.Proofs.Ytedblocbcjoolaa

/- Contracts of layer 7: the error of a case; sums, and what is paid of the fee. -/
namespace Go.Proofs.Ytedblocbcjoolaa
open Go.RowKit Go.Hs
attribute [local irreducible] World.setCell World.alloc

theorem fn_field : FnOK 29 := fun args w => by simp [go_sem]
theorem allfld (c : Cas) (v : Value) (w : World) (hv : CasV w v c) (a : Option Addr) (k : Nat) (hc : Cells9 w a (c.flds.map Fld.c)) (hl : c.flds.length ≤ 1000) :
    Calls Try.prog 31 #[.slice a c.flds.length k, .func (.func 29) #[v] #[]] w fun e w' => e = .returned (.bool (fieldsB c)) ∧ Ext w w' := by
  have h := allx_fld 29 fn_field #[v] #[] a k (c.flds.map Fld.c) (fun i => fieldB c (c.flds.getD i default)) w (by simp; omega) hc
    (fun i hi w1 hx => by
      have hi' : i < c.flds.length := by simpa using hi
      have e1 : (c.flds.map Fld.c)[i] = (c.flds[i]).c := by simp
      rw [e1]
      refine (field_u c v c.flds[i] w1 (hv.ext hx)).mono ?_
      rintro e w2 ⟨rfl, h2⟩
      exact ⟨ret_bool (by simp [hi']), h2⟩)
  rw [List.length_map] at h
  exact h

set_option maxRecDepth 100000 in
set_option maxHeartbeats 4000000 in
theorem check_u (c : Cas) (v : Value) (w : World) (hv : CasV w v c) :
    Calls Try.prog 14 #[v] w fun e w' => e = .returned (.int .i64 (caseE c)) ∧ Ext w w' := by
  have HAL := Lib.hid (fun w' (hx : Ext w w') => allfld c v w' (hv.ext hx))
  obtain ⟨a1, c1, a2, c2, rfl, ht, hf, hcl, hl1, hl2⟩ := hv.open
  have HAL' : Hid (∀ w', Ext w w' → Calls Try.prog 31 #[.slice a2 c.flds.length c2, .func (.func 29) #[casV a1 c.tars.length c1 c.day c.fee a2 c.flds.length c2] #[]] w' fun e w'' => e = .returned (.bool (fieldsB c)) ∧ Ext w' w'') :=
    Lib.hid (fun w' hx => HAL.out w' hx a2 c2 (hcl.ext hx) hl2)
  have HCT : Hid (∀ w', Ext w w' → Calls Try.prog 28 #[.slice a1 c.tars.length c1] w' fun e w'' => e = .returned (.int .i64 (checkS c.tars)) ∧ Ext w' w'') := Lib.hid (fun w' hx => check_any _ c.tars w' (ht.ext hx))
  have HE : Hid (caseE c = if checkS c.tars ≠ 0 then checkS c.tars else if 3 < c.flds.length then 3 else if inR c.day 0 120 && (inR c.fee 0 10000 && fieldsB c) then 0 else 1) := rfl
  have HWD := Lib.hid (within_u c.day 0 120)
  have HWF := Lib.hid (within_u c.fee 0 10000)
  clear hv HAL ht hf hcl
  generalize caseE c = r at *
  generalize checkS c.tars = ck at *
  generalize inR c.day 0 120 = b1 at *
  generalize inR c.fee 0 10000 = b2 at *
  generalize fieldsB c = b3 at *
  generalize c.tars.length = n1 at *
  generalize c.flds.length = n2 at *
  generalize c.day = day at *
  generalize c.fee = fee at *
  by_cases h0 : ck = 0
  · subst h0
    have HE' : Hid (r = if 3 < n2 then 3 else if b1 && (b2 && b3) then 0 else 1) := HE.out
    clear HE
    by_cases h3 : 3 < n2
    · obtain rfl : r = 3 := by rw [HE'.out, if_pos h3]
      have hd : decide ((3 : Int) < (n2 : Int)) = true := decide_eq_true (by omega)
      clear HE'
      go_enter Try.func14, Try.ntmps14
      go_wp2_with fail
      (with_reducible refine (HCT.out _ (by (repeat (first | exact Ext.refl _ | (with_reducible assumption) | (with_reducible refine Ext.drew ?_) | (with_reducible refine Ext.alloc ?_ _) | (with_reducible refine Ext.drewN ?_ _) | (with_reducible refine Ext.setCell ?_ (by omega) _) | (with_reducible refine Ext.trans ?_ (by with_reducible assumption)))))).mono ?_)
      rintro e w1 ⟨rfl, hx1⟩
      have X1 : Ext w w1 := by (repeat (first | exact Ext.refl _ | (with_reducible assumption) | (with_reducible refine Ext.drew ?_) | (with_reducible refine Ext.alloc ?_ _) | (with_reducible refine Ext.drewN ?_ _) | (with_reducible refine Ext.setCell ?_ (by omega) _) | (with_reducible refine Ext.trans ?_ (by with_reducible assumption))))
      have c3 := hx1.keep (k := w.heap.size) (o := 0) (v := .slice a1 n1 c1) (by simp [go_sem])
      have c4 := hx1.keep (k := w.heap.size) (o := 1) (v := .int .i64 day) (by simp [go_sem])
      have c5 := hx1.keep (k := w.heap.size) (o := 2) (v := .int .i64 fee) (by simp [go_sem])
      have c6 := hx1.keep (k := w.heap.size) (o := 3) (v := .slice a2 n2 c2) (by simp [go_sem])
      clear hx1
      go_wp2_with fail
      go_ret
      exact ⟨rfl, by (repeat (first | exact Ext.refl _ | (with_reducible assumption) | (with_reducible refine Ext.drew ?_) | (with_reducible refine Ext.alloc ?_ _) | (with_reducible refine Ext.drewN ?_ _) | (with_reducible refine Ext.setCell ?_ (by omega) _) | (with_reducible refine Ext.trans ?_ (by with_reducible assumption))))⟩
    · have HE2 : Hid (r = if b1 && (b2 && b3) then 0 else 1) := Lib.hid (by rw [HE'.out, if_neg h3])
      have hd : decide ((3 : Int) < (n2 : Int)) = false := decide_eq_false (by omega)
      clear HE'
      cases b1 with
      | false =>
        obtain rfl : r = 1 := HE2.out
        clear HE2
        go_enter Try.func14, Try.ntmps14
        go_wp2_with fail
        (with_reducible refine (HCT.out _ (by (repeat (first | exact Ext.refl _ | (with_reducible assumption) | (with_reducible refine Ext.drew ?_) | (with_reducible refine Ext.alloc ?_ _) | (with_reducible refine Ext.drewN ?_ _) | (with_reducible refine Ext.setCell ?_ (by omega) _) | (with_reducible refine Ext.trans ?_ (by with_reducible assumption)))))).mono ?_)
        rintro e w1 ⟨rfl, hx1⟩
        have X1 : Ext w w1 := by (repeat (first | exact Ext.refl _ | (with_reducible assumption) | (with_reducible refine Ext.drew ?_) | (with_reducible refine Ext.alloc ?_ _) | (with_reducible refine Ext.drewN ?_ _) | (with_reducible refine Ext.setCell ?_ (by omega) _) | (with_reducible refine Ext.trans ?_ (by with_reducible assumption))))
        have c3 := hx1.keep (k := w.heap.size) (o := 0) (v := .slice a1 n1 c1) (by simp [go_sem])
        have c4 := hx1.keep (k := w.heap.size) (o := 1) (v := .int .i64 day) (by simp [go_sem])
        have c5 := hx1.keep (k := w.heap.size) (o := 2) (v := .int .i64 fee) (by simp [go_sem])
        have c6 := hx1.keep (k := w.heap.size) (o := 3) (v := .slice a2 n2 c2) (by simp [go_sem])
        clear hx1
        go_wp2_with fail
        (with_reducible refine (HWD.out _).mono ?_)
        rintro e w2 ⟨rfl, hx2⟩
        have c3 := hx2.keep c3
        have c4 := hx2.keep c4
        have c5 := hx2.keep c5
        have c6 := hx2.keep c6
        have X2 := X1.trans hx2
        clear hx2
        go_wp2_with fail
        go_ret
        exact ⟨rfl, by (repeat (first | exact Ext.refl _ | (with_reducible assumption) | (with_reducible refine Ext.drew ?_) | (with_reducible refine Ext.alloc ?_ _) | (with_reducible refine Ext.drewN ?_ _) | (with_reducible refine Ext.setCell ?_ (by omega) _) | (with_reducible refine Ext.trans ?_ (by with_reducible assumption))))⟩
      | true =>
        cases b2 with
        | false =>
          obtain rfl : r = 1 := HE2.out
          clear HE2
          go_enter Try.func14, Try.ntmps14
          go_wp2_with fail
          (with_reducible refine (HCT.out _ (by (repeat (first | exact Ext.refl _ | (with_reducible assumption) | (with_reducible refine Ext.drew ?_) | (with_reducible refine Ext.alloc ?_ _) | (with_reducible refine Ext.drewN ?_ _) | (with_reducible refine Ext.setCell ?_ (by omega) _) | (with_reducible refine Ext.trans ?_ (by with_reducible assumption)))))).mono ?_)
          rintro e w1 ⟨rfl, hx1⟩
          have X1 : Ext w w1 := by (repeat (first | exact Ext.refl _ | (with_reducible assumption) | (with_reducible refine Ext.drew ?_) | (with_reducible refine Ext.alloc ?_ _) | (with_reducible refine Ext.drewN ?_ _) | (with_reducible refine Ext.setCell ?_ (by omega) _) | (with_reducible refine Ext.trans ?_ (by with_reducible assumption))))
          have c3 := hx1.keep (k := w.heap.size) (o := 0) (v := .slice a1 n1 c1) (by simp [go_sem])
          have c4 := hx1.keep (k := w.heap.size) (o := 1) (v := .int .i64 day) (by simp [go_sem])
          have c5 := hx1.keep (k := w.heap.size) (o := 2) (v := .int .i64 fee) (by simp [go_sem])
          have c6 := hx1.keep (k := w.heap.size) (o := 3) (v := .slice a2 n2 c2) (by simp [go_sem])
          clear hx1
          go_wp2_with fail
          (with_reducible refine (HWD.out _).mono ?_)
          rintro e w2 ⟨rfl, hx2⟩
          have c3 := hx2.keep c3
          have c4 := hx2.keep c4
          have c5 := hx2.keep c5
          have c6 := hx2.keep c6
          have X2 := X1.trans hx2
          clear hx2
          go_wp2_with fail
          (with_reducible refine (HWF.out _).mono ?_)
          rintro e w3 ⟨rfl, hx3⟩
          have c3 := hx3.keep c3
          have c4 := hx3.keep c4
          have c5 := hx3.keep c5
          have c6 := hx3.keep c6
          have X3 := X2.trans hx3
          clear hx3
          go_wp2_with fail
          go_ret
          exact ⟨rfl, by (repeat (first | exact Ext.refl _ | (with_reducible assumption) | (with_reducible refine Ext.drew ?_) | (with_reducible refine Ext.alloc ?_ _) | (with_reducible refine Ext.drewN ?_ _) | (with_reducible refine Ext.setCell ?_ (by omega) _) | (with_reducible refine Ext.trans ?_ (by with_reducible assumption))))⟩
        | true =>
          cases b3 with
          | false =>
            obtain rfl : r = 1 := HE2.out
            clear HE2
            go_enter Try.func14, Try.ntmps14
            go_wp2_with fail
            (with_reducible refine (HCT.out _ (by (repeat (first | exact Ext.refl _ | (with_reducible assumption) | (with_reducible refine Ext.drew ?_) | (with_reducible refine Ext.alloc ?_ _) | (with_reducible refine Ext.drewN ?_ _) | (with_reducible refine Ext.setCell ?_ (by omega) _) | (with_reducible refine Ext.trans ?_ (by with_reducible assumption)))))).mono ?_)
            rintro e w1 ⟨rfl, hx1⟩
            have X1 : Ext w w1 := by (repeat (first | exact Ext.refl _ | (with_reducible assumption) | (with_reducible refine Ext.drew ?_) | (with_reducible refine Ext.alloc ?_ _) | (with_reducible refine Ext.drewN ?_ _) | (with_reducible refine Ext.setCell ?_ (by omega) _) | (with_reducible refine Ext.trans ?_ (by with_reducible assumption))))
            have c3 := hx1.keep (k := w.heap.size) (o := 0) (v := .slice a1 n1 c1) (by simp [go_sem])
            have c4 := hx1.keep (k := w.heap.size) (o := 1) (v := .int .i64 day) (by simp [go_sem])
            have c5 := hx1.keep (k := w.heap.size) (o := 2) (v := .int .i64 fee) (by simp [go_sem])
            have c6 := hx1.keep (k := w.heap.size) (o := 3) (v := .slice a2 n2 c2) (by simp [go_sem])
            clear hx1
            go_wp2_with fail
            (with_reducible refine (HWD.out _).mono ?_)
            rintro e w2 ⟨rfl, hx2⟩
            have c3 := hx2.keep c3
            have c4 := hx2.keep c4
            have c5 := hx2.keep c5
            have c6 := hx2.keep c6
            have X2 := X1.trans hx2
            clear hx2
            go_wp2_with fail
            (with_reducible refine (HWF.out _).mono ?_)
            rintro e w3 ⟨rfl, hx3⟩
            have c3 := hx3.keep c3
            have c4 := hx3.keep c4
            have c5 := hx3.keep c5
            have c6 := hx3.keep c6
            have X3 := X2.trans hx3
            clear hx3
            go_wp2_with fail
            (with_reducible refine (HAL'.out _ (by (repeat (first | exact Ext.refl _ | (with_reducible assumption) | (with_reducible refine Ext.drew ?_) | (with_reducible refine Ext.alloc ?_ _) | (with_reducible refine Ext.drewN ?_ _) | (with_reducible refine Ext.setCell ?_ (by omega) _) | (with_reducible refine Ext.trans ?_ (by with_reducible assumption)))))).mono ?_)
            rintro e w4 ⟨rfl, hx4⟩
            have c3 := hx4.keep c3
            have c4 := hx4.keep c4
            have c5 := hx4.keep c5
            have c6 := hx4.keep c6
            have X4 := X3.trans hx4
            clear hx4
            go_wp2_with fail
            go_ret
            exact ⟨rfl, by (repeat (first | exact Ext.refl _ | (with_reducible assumption) | (with_reducible refine Ext.drew ?_) | (with_reducible refine Ext.alloc ?_ _) | (with_reducible refine Ext.drewN ?_ _) | (with_reducible refine Ext.setCell ?_ (by omega) _) | (with_reducible refine Ext.trans ?_ (by with_reducible assumption))))⟩
          | true =>
            obtain rfl : r = 0 := HE2.out
            clear HE2
            go_enter Try.func14, Try.ntmps14
            go_wp2_with fail
            (with_reducible refine (HCT.out _ (by (repeat (first | exact Ext.refl _ | (with_reducible assumption) | (with_reducible refine Ext.drew ?_) | (with_reducible refine Ext.alloc ?_ _) | (with_reducible refine Ext.drewN ?_ _) | (with_reducible refine Ext.setCell ?_ (by omega) _) | (with_reducible refine Ext.trans ?_ (by with_reducible assumption)))))).mono ?_)
            rintro e w1 ⟨rfl, hx1⟩
            have X1 : Ext w w1 := by (repeat (first | exact Ext.refl _ | (with_reducible assumption) | (with_reducible refine Ext.drew ?_) | (with_reducible refine Ext.alloc ?_ _) | (with_reducible refine Ext.drewN ?_ _) | (with_reducible refine Ext.setCell ?_ (by omega) _) | (with_reducible refine Ext.trans ?_ (by with_reducible assumption))))
            have c3 := hx1.keep (k := w.heap.size) (o := 0) (v := .slice a1 n1 c1) (by simp [go_sem])
            have c4 := hx1.keep (k := w.heap.size) (o := 1) (v := .int .i64 day) (by simp [go_sem])
            have c5 := hx1.keep (k := w.heap.size) (o := 2) (v := .int .i64 fee) (by simp [go_sem])
            have c6 := hx1.keep (k := w.heap.size) (o := 3) (v := .slice a2 n2 c2) (by simp [go_sem])
            clear hx1
            go_wp2_with fail
            (with_reducible refine (HWD.out _).mono ?_)
            rintro e w2 ⟨rfl, hx2⟩
            have c3 := hx2.keep c3
            have c4 := hx2.keep c4
            have c5 := hx2.keep c5
            have c6 := hx2.keep c6
            have X2 := X1.trans hx2
            clear hx2
            go_wp2_with fail
            (with_reducible refine (HWF.out _).mono ?_)
            rintro e w3 ⟨rfl, hx3⟩
            have c3 := hx3.keep c3
            have c4 := hx3.keep c4
            have c5 := hx3.keep c5
            have c6 := hx3.keep c6
            have X3 := X2.trans hx3
            clear hx3
            go_wp2_with fail
            (with_reducible refine (HAL'.out _ (by (repeat (first | exact Ext.refl _ | (with_reducible assumption) | (with_reducible refine Ext.drew ?_) | (with_reducible refine Ext.alloc ?_ _) | (with_reducible refine Ext.drewN ?_ _) | (with_reducible refine Ext.setCell ?_ (by omega) _) | (with_reducible refine Ext.trans ?_ (by with_reducible assumption)))))).mono ?_)
            rintro e w4 ⟨rfl, hx4⟩
            have c3 := hx4.keep c3
            have c4 := hx4.keep c4
            have c5 := hx4.keep c5
            have c6 := hx4.keep c6
            have X4 := X3.trans hx4
            clear hx4
            go_wp2_with fail
            go_ret
            exact ⟨rfl, by (repeat (first | exact Ext.refl _ | (with_reducible assumption) | (with_reducible refine Ext.drew ?_) | (with_reducible refine Ext.alloc ?_ _) | (with_reducible refine Ext.drewN ?_ _) | (with_reducible refine Ext.setCell ?_ (by omega) _) | (with_reducible refine Ext.trans ?_ (by with_reducible assumption))))⟩
  · have hd : (ck != 0) = true := by simp [h0]
    obtain rfl : r = ck := by rw [HE.out, if_pos h0]
    clear HE h0
    go_enter Try.func14, Try.ntmps14
    go_wp2_with fail
    (with_reducible refine (HCT.out _ (by (repeat (first | exact Ext.refl _ | (with_reducible assumption) | (with_reducible refine Ext.drew ?_) | (with_reducible refine Ext.alloc ?_ _) | (with_reducible refine Ext.drewN ?_ _) | (with_reducible refine Ext.setCell ?_ (by omega) _) | (with_reducible refine Ext.trans ?_ (by with_reducible assumption)))))).mono ?_)
    rintro e w1 ⟨rfl, hx1⟩
    go_wp2_with fail
    go_ret
    exact ⟨rfl, by (repeat (first | exact Ext.refl _ | (with_reducible assumption) | (with_reducible refine Ext.drew ?_) | (with_reducible refine Ext.alloc ?_ _) | (with_reducible refine Ext.drewN ?_ _) | (with_reducible refine Ext.setCell ?_ (by omega) _) | (with_reducible refine Ext.trans ?_ (by with_reducible assumption))))⟩
end Go.Proofs.Ytedblocbcjoolaa

/- Contracts of layer 7: sums, and what is paid of the fee. -/
namespace Go.Hs
open Go.RowKit
def Sm.v (s : Sm) : Value := .agg #[.int .i64 s.award, .int .i64 s.e0, .int .i64 s.e1, .int .i64 s.e2, .int .i64 s.e3]
def Out.v (o : Out) : Value := .agg #[.int .i64 o.pay, .int .i64 o.loser]
/-- A sum of n fields. -/
structure SmN (n : Nat) (s : Sm) : Prop where
  a : 0 ≤ s.award ∧ s.award ≤ 100000 * n
  e0 : 0 ≤ s.e0 ∧ s.e0 ≤ n
  e1 : 0 ≤ s.e1 ∧ s.e1 ≤ n
  e2 : 0 ≤ s.e2 ∧ s.e2 ≤ n
  e3 : 0 ≤ s.e3 ∧ s.e3 ≤ n
structure OutOK (o : Out) : Prop where
  pay : 0 ≤ o.pay ∧ o.pay ≤ 100000
  loser : o.loser < 4
theorem SmN.zero : SmN 0 Sm.zero := ⟨by simp [Sm.zero], by simp [Sm.zero], by simp [Sm.zero], by simp [Sm.zero], by simp [Sm.zero]⟩
theorem SmN.plus {n : Nat} {s : Sm} {o : Out} (h : SmN n s) (k : OutOK o) : SmN (n + 1) (s.plus o) := by
  obtain ⟨h1, h2, h3, h4, h5⟩ := h
  obtain ⟨k1, k2⟩ := k
  refine ⟨?_, ?_, ?_, ?_, ?_⟩ <;> simp only [Sm.plus]
  · omega
  all_goals split <;> omega
theorem loser_lt (f : Fld) (x : Thr) : loserS f x < 4 := by
  unfold loserS
  repeat' split
  all_goals omega
end Go.Hs
namespace Go.Proofs.Ytedblocbcjoolaa
open Go.RowKit Go.Hs
attribute [local irreducible] World.setCell World.alloc

theorem outS_ok {c : Cas} (hc : CasOK c) (h0 : checkS c.tars = 0) {f : Fld} (hf : FldOK c.tars f) {x : Thr} (hx : ThrOK f x) : OutOK (outS c f x) := by
  refine ⟨?_, loser_lt f x⟩
  have hs := settled_bd (f := f) (x := x) (by have := hx.a; have := hf.a; omega) (by have := hx.b; have := hf.b; omega)
  have hcl : claimB c.tars (claimF c f (settledS f x)) = true := claimF_iff.2 ⟨hf.crop, hf.value, hc.day, hs⟩
  have hp := partS_bd hc.tars hf.crop.1 hf.crop.2 hc.day.1 hs.1 hs.2
  have hv := hf.value
  simp only [outS]
  rw [payC_eq h0 hcl]
  have hw := pay_wrap hv.1 hv.2 hp.1 hp.2
  unfold payI
  omega

set_option maxRecDepth 100000 in
set_option maxHeartbeats 2000000 in
theorem plus_u (n : Nat) (s : Sm) (o : Out) (hs : SmN n s) (ho : OutOK o) (hn : n ≤ 1000) (w : World) :
    Calls Try.prog 19 #[s.v, o.v] w fun e w' => e = .returned (s.plus o).v ∧ Ext w w' := by
  obtain ⟨aw, e0, e1, e2, e3⟩ := s
  obtain ⟨pa, lo⟩ := o
  obtain ⟨h1, h2, h3, h4, h5⟩ := hs
  obtain ⟨k1, k2⟩ := ho
  simp only at h1 h2 h3 h4 h5 k1 k2
  have hlo : lo = 0 ∨ lo = 1 ∨ lo = 2 ∨ lo = 3 := by omega
  have w0 : IntKind.i64.wrap (aw + pa) = aw + pa := IntWalk.i64_in _ (by omega)
  have w1 : IntKind.i64.wrap (e0 + 1) = e0 + 1 := IntWalk.i64_in _ (by omega)
  have w2 : IntKind.i64.wrap (e1 + 1) = e1 + 1 := IntWalk.i64_in _ (by omega)
  have w3 : IntKind.i64.wrap (e2 + 1) = e2 + 1 := IntWalk.i64_in _ (by omega)
  have w4 : IntKind.i64.wrap (e3 + 1) = e3 + 1 := IntWalk.i64_in _ (by omega)
  clear h1 h2 h3 h4 h5 k1 k2
  simp only [Sm.v, Out.v, Sm.plus]
  rcases hlo with rfl | rfl | rfl | rfl
  all_goals
    go_enter Try.func19, Try.ntmps19
    go_wp2_with fail
    first
      | exact bodyPost_ret (v := .agg #[.int .i64 (aw + pa), .int .i64 (e0 + 1), .int .i64 e1, .int .i64 e2, .int .i64 e3]) (by simp [results, Try.results19, go_sem]) rfl ⟨rfl, by (repeat (first | exact Ext.refl _ | (with_reducible assumption) | (with_reducible refine Ext.drew ?_) | (with_reducible refine Ext.alloc ?_ _) | (with_reducible refine Ext.drewN ?_ _) | (with_reducible refine Ext.setCell ?_ (by omega) _) | (with_reducible refine Ext.trans ?_ (by with_reducible assumption))))⟩
      | exact bodyPost_ret (v := .agg #[.int .i64 (aw + pa), .int .i64 e0, .int .i64 (e1 + 1), .int .i64 e2, .int .i64 e3]) (by simp [results, Try.results19, go_sem]) rfl ⟨rfl, by (repeat (first | exact Ext.refl _ | (with_reducible assumption) | (with_reducible refine Ext.drew ?_) | (with_reducible refine Ext.alloc ?_ _) | (with_reducible refine Ext.drewN ?_ _) | (with_reducible refine Ext.setCell ?_ (by omega) _) | (with_reducible refine Ext.trans ?_ (by with_reducible assumption))))⟩
      | exact bodyPost_ret (v := .agg #[.int .i64 (aw + pa), .int .i64 e0, .int .i64 e1, .int .i64 (e2 + 1), .int .i64 e3]) (by simp [results, Try.results19, go_sem]) rfl ⟨rfl, by (repeat (first | exact Ext.refl _ | (with_reducible assumption) | (with_reducible refine Ext.drew ?_) | (with_reducible refine Ext.alloc ?_ _) | (with_reducible refine Ext.drewN ?_ _) | (with_reducible refine Ext.setCell ?_ (by omega) _) | (with_reducible refine Ext.trans ?_ (by with_reducible assumption))))⟩
      | exact bodyPost_ret (v := .agg #[.int .i64 (aw + pa), .int .i64 e0, .int .i64 e1, .int .i64 e2, .int .i64 (e3 + 1)]) (by simp [results, Try.results19, go_sem]) rfl ⟨rfl, by (repeat (first | exact Ext.refl _ | (with_reducible assumption) | (with_reducible refine Ext.drew ?_) | (with_reducible refine Ext.alloc ?_ _) | (with_reducible refine Ext.drewN ?_ _) | (with_reducible refine Ext.setCell ?_ (by omega) _) | (with_reducible refine Ext.trans ?_ (by with_reducible assumption))))⟩

set_option maxRecDepth 100000 in
set_option maxHeartbeats 2000000 in
theorem called_u (n : Nat) (s : Sm) (hs : SmN n s) (hn : n ≤ 1000) (w : World) :
    Calls Try.prog 40 #[s.v] w fun e w' => e = .returned (.bool (calledS s)) ∧ Ext w w' := by
  obtain ⟨aw, e0, e1, e2, e3⟩ := s
  obtain ⟨h1, h2, h3, h4, h5⟩ := hs
  simp only at h1 h2 h3 h4 h5
  have w0 : IntKind.i64.wrap (e1 + e2) = e1 + e2 := IntWalk.i64_in _ (by omega)
  have w1 : IntKind.i64.wrap (e1 + e2 + e3) = e1 + e2 + e3 := IntWalk.i64_in _ (by omega)
  clear h1 h2 h3 h4 h5
  simp only [Sm.v, calledS]
  generalize hb : decide (0 < e1 + e2 + e3) = b
  cases b
  · go_enter Try.func40, Try.ntmps40
    go_wp2_with fail
    go_ret
    exact ⟨rfl, by (repeat (first | exact Ext.refl _ | (with_reducible assumption) | (with_reducible refine Ext.drew ?_) | (with_reducible refine Ext.alloc ?_ _) | (with_reducible refine Ext.drewN ?_ _) | (with_reducible refine Ext.setCell ?_ (by omega) _) | (with_reducible refine Ext.trans ?_ (by with_reducible assumption))))⟩
  · go_enter Try.func40, Try.ntmps40
    go_wp2_with fail
    go_ret
    exact ⟨rfl, by (repeat (first | exact Ext.refl _ | (with_reducible assumption) | (with_reducible refine Ext.drew ?_) | (with_reducible refine Ext.alloc ?_ _) | (with_reducible refine Ext.drewN ?_ _) | (with_reducible refine Ext.setCell ?_ (by omega) _) | (with_reducible refine Ext.trans ?_ (by with_reducible assumption))))⟩

set_option maxRecDepth 100000 in
set_option maxHeartbeats 2000000 in
theorem fees_u (n : Nat) (s : Sm) (hs : SmN n s) (hn : n ≤ 1000) (fee : Int) (hf : 0 ≤ fee ∧ fee ≤ 10000) (w : World) :
    Calls Try.prog 20 #[s.v, .int .i64 fee] w fun e w' => e = .returned (.tuple #[.int .i64 (feeA fee s), .int .i64 (feeB fee s)]) ∧ Ext w w' := by
  have HC := Lib.hid (called_u n s hs hn)
  have HFA : Hid (feeA fee s = if calledS s then (if s.e3 < s.e2 then fee else if s.e2 < s.e3 then 0 else fee - fee / 2) else 0) := rfl
  have HFB : Hid (feeB fee s = if calledS s then (if s.e3 < s.e2 then 0 else if s.e2 < s.e3 then fee else fee / 2) else 0) := rfl
  clear hs
  generalize feeA fee s = fa at *
  generalize feeB fee s = fb at *
  generalize calledS s = cb at *
  obtain ⟨aw, e0, e1, e2, e3⟩ := s
  simp only [Sm.v] at *
  have X : Ext w (w.alloc (.cells #[.int .i64 aw, .int .i64 e0, .int .i64 e1, .int .i64 e2, .int .i64 e3] 58)) := by (repeat (first | exact Ext.refl _ | (with_reducible assumption) | (with_reducible refine Ext.drew ?_) | (with_reducible refine Ext.alloc ?_ _) | (with_reducible refine Ext.drewN ?_ _) | (with_reducible refine Ext.setCell ?_ (by omega) _) | (with_reducible refine Ext.trans ?_ (by with_reducible assumption))))
  have HK : Hid (∀ w', Ext (w.alloc (.cells #[.int .i64 aw, .int .i64 e0, .int .i64 e1, .int .i64 e2, .int .i64 e3] 58)) w' → w'.cell? ⟨w.heap.size, 3, none⟩ = some (.int .i64 e2) ∧ w'.cell? ⟨w.heap.size, 4, none⟩ = some (.int .i64 e3)) :=
    Lib.hid (fun w' hx => ⟨hx.keep (by simp [go_sem]), hx.keep (by simp [go_sem])⟩)
  have w0 : IntKind.i64.wrap (fee.tdiv 2) = fee / 2 := by rw [Int.tdiv_eq_ediv_of_nonneg hf.1]; exact IntWalk.i64_in _ (by omega)
  have w1 : IntKind.i64.wrap (fee - fee / 2) = fee - fee / 2 := IntWalk.i64_in _ (by omega)
  have w2 : fee.tdiv 2 = fee / 2 := Int.tdiv_eq_ediv_of_nonneg hf.1
  have w3 : IntKind.i64.wrap (fee / 2) = fee / 2 := IntWalk.i64_in _ (by omega)
  go_enter Try.func20, Try.ntmps20
  go_wp2_with fail
  (with_reducible refine (HC.out _).mono ?_)
  rintro e w1 ⟨rfl, hx1⟩
  obtain ⟨c3, c4⟩ := HK.out _ hx1
  cases cb with
  | false =>
    obtain rfl : fa = 0 := HFA.out
    obtain rfl : fb = 0 := HFB.out
    go_wp2_with fail
    go_ret2
    exact ⟨rfl, X.trans hx1⟩
  | true =>
    have HFA' : Hid (fa = if e3 < e2 then fee else if e2 < e3 then 0 else fee - fee / 2) := HFA.out
    have HFB' : Hid (fb = if e3 < e2 then 0 else if e2 < e3 then fee else fee / 2) := HFB.out
    clear HFA HFB
    by_cases h1 : e3 < e2
    · have d1 : decide (e3 < e2) = true := decide_eq_true h1
      obtain rfl : fa = fee := by rw [HFA'.out, if_pos h1]
      obtain rfl : fb = 0 := by rw [HFB'.out, if_pos h1]
      go_wp2_with fail
      go_ret2
      exact ⟨rfl, X.trans hx1⟩
    · have d1 : decide (e3 < e2) = false := decide_eq_false h1
      by_cases h2 : e2 < e3
      · have d2 : decide (e2 < e3) = true := decide_eq_true h2
        obtain rfl : fa = 0 := by rw [HFA'.out, if_neg h1, if_pos h2]
        obtain rfl : fb = fee := by rw [HFB'.out, if_neg h1, if_pos h2]
        go_wp2_with fail
        go_ret2
        exact ⟨rfl, X.trans hx1⟩
      · have d2 : decide (e2 < e3) = false := decide_eq_false h2
        have e1' : fa = fee - fee / 2 := by rw [HFA'.out, if_neg h1, if_neg h2]
        have e2' : fb = fee / 2 := by rw [HFB'.out, if_neg h1, if_neg h2]
        have E1 := Lib.hid e1'
        have E2 := Lib.hid e2'
        clear e1' e2'
        go_wp2_with fail
        go_ret2
        refine ⟨?_, X.trans hx1⟩
        rw [E1.out, E2.out]
        rfl
end Go.Proofs.Ytedblocbcjoolaa
