/- Contracts: the reference's orders of lists. -/
import Derived.Test.YtfjecbfcnngacaaCL
namespace Go.Hs
open Go.RowKit
def beforeB : List Nat → List Nat → Bool
  | [], [] => false
  | [], _ :: _ => true
  | _ :: _, [] => false
  | x :: a, y :: b => if x = y then beforeB a b else decide (x < y)
def shorterB (a b : List Nat) : Bool := decide (a.length < b.length) || (a.length == b.length && beforeB a b)
def sameL (a b : List Nat) : Bool := a.length == b.length && (!beforeB a b && !beforeB b a)
theorem before_drop (i : Nat) : ∀ (a b : List Nat), (∀ j, j < i → a.getD j 0 = b.getD j 0) → i ≤ a.length → i ≤ b.length → beforeB a b = beforeB (a.drop i) (b.drop i) := by
  induction i with
  | zero => intro a b _ _ _; rfl
  | succ i ih =>
    intro a b h ha hb
    cases a with
    | nil => simp at ha
    | cons x a =>
      cases b with
      | nil => simp at hb
      | cons y b =>
        have e : x = y := by have := h 0 (by omega); simpa using this
        subst e
        have e2 : beforeB (x :: a) (x :: b) = beforeB a b := by rw [beforeB, if_pos rfl]
        rw [e2]
        exact ih a b (fun j hj => by have := h (j + 1) (by omega); simpa using this) (by simpa using ha) (by simpa using hb)
theorem before_at {a b : List Nat} {i : Nat} (h : ∀ j, j < i → a.getD j 0 = b.getD j 0) (ha : i < a.length) (hb : i < b.length) (hne : a.getD i 0 ≠ b.getD i 0) : beforeB a b = decide (a.getD i 0 < b.getD i 0) := by
  rw [before_drop i a b h (by omega) (by omega), List.drop_eq_getElem_cons ha, List.drop_eq_getElem_cons hb]
  have e1 : a.getD i 0 = a[i] := by simp [ha]
  have e2 : b.getD i 0 = b[i] := by simp [hb]
  rw [e1, e2] at hne ⊢
  rw [beforeB, if_neg hne]
theorem before_end {a b : List Nat} {i : Nat} (h : ∀ j, j < i → a.getD j 0 = b.getD j 0) (ha : i ≤ a.length) (hb : i ≤ b.length) (he : i = a.length ∨ i = b.length) : beforeB a b = decide (a.length < b.length) := by
  rw [before_drop i a b h ha hb]
  rcases he with rfl | rfl
  · rw [List.drop_length]
    by_cases e : a.length = b.length
    · have : b.drop a.length = [] := by rw [e]; exact List.drop_length
      rw [this, e]; simp [beforeB]
    · have hl : a.length < b.length := by omega
      rw [List.drop_eq_getElem_cons hl]
      simp [beforeB, hl]
  · rw [List.drop_length]
    by_cases e : a.length = b.length
    · have : a.drop b.length = [] := by rw [← e]; exact List.drop_length
      rw [this, e]; simp [beforeB]
    · have hl : b.length < a.length := by omega
      rw [List.drop_eq_getElem_cons hl]
      simp [beforeB]; omega
theorem ints_len (a : List Nat) : (ints a).length = a.length := by simp [ints]
theorem IntsV.natcells {w : World} {v : Value} {a : List Nat} (h : IntsV w v (ints a)) : ∃ p c, v = .slice p a.length c ∧ a.length ≤ c ∧ ∀ i, i < a.length → ∃ b off, p = some ⟨b, off, none⟩ ∧ w.cell? ⟨b, off + i, none⟩ = some (.int .i64 (a.getD i 0 : Nat)) := by
  obtain ⟨p, c, rfl, h1, -, hr⟩ := h
  rw [ints_len] at h1 ⊢
  refine ⟨p, c, rfl, h1, fun i hi => ?_⟩
  obtain ⟨b, off, e, hc⟩ := hr i (by rw [ints_len]; exact hi)
  refine ⟨b, off, e, ?_⟩
  have := hc.1
  have e2 : (ints a)[i]'(by rw [ints_len]; exact hi) = ((a.getD i 0 : Nat) : Int) := by simp [ints, hi]
  rw [e2, Nat.mul_one] at this
  exact this
end Go.Hs
namespace Go.Proofs.Ytfjecbfcnngacaa
open Go.RowKit Go.Hs
attribute [local irreducible] World.setCell World.alloc

set_option maxRecDepth 100000 in
set_option maxHeartbeats 2000000 in
theorem Before_any (v u : Value) (a b : List Nat) (w : World) (hv : IntsV w v (ints a)) (hu : IntsV w u (ints b)) (ha : a.length ≤ 1000) (_ : b.length ≤ 1000) :
    Calls Try.prog 80 #[v, u] w fun e w' => e = .returned (.bool (beforeB a b)) ∧ Ext w w' := by
  obtain ⟨p, c, rfl, h1, hr⟩ := hv.natcells
  obtain ⟨q, d, rfl, h2, hs⟩ := hu.natcells
  have HR := Lib.hid hr
  have HS := Lib.hid hs
  have HAT : Hid (∀ i, (∀ j, j < i → a.getD j 0 = b.getD j 0) → i < a.length → i < b.length → a.getD i 0 ≠ b.getD i 0 → beforeB a b = decide (a.getD i 0 < b.getD i 0)) := Lib.hid (fun i h1 h2 h3 h4 => before_at h1 h2 h3 h4)
  have HEN : Hid (∀ i, (∀ j, j < i → a.getD j 0 = b.getD j 0) → i ≤ a.length → i ≤ b.length → (i = a.length ∨ i = b.length) → beforeB a b = decide (a.length < b.length)) := Lib.hid (fun i h1 h2 h3 h4 => before_end h1 h2 h3 h4)
  clear hv hu hr hs
  generalize hres : beforeB a b = res at *
  clear hres
  go_enter Try.func80, Try.ntmps80
  go_wp2_with fail
  go_loopw [5] (fun s5 wr => ∃ i : Nat, i ≤ a.length ∧ i ≤ b.length ∧ s5 = .int .i64 i ∧ Hid (∀ j, j < i → a.getD j 0 = b.getD j 0) ∧ Ext w wr) (fun s _ => a.length - (intOf s).toNat)
  case atStart => exact ⟨0, Nat.zero_le _, Nat.zero_le _, rfl, Lib.hid (fun j hj => absurd hj (Nat.not_lt_zero _)), Ext.refl _⟩
  case round =>
    obtain ⟨i, hia, hib, rfl, HI, hx⟩ := hrel
    obtain ⟨wo, rfl⟩ : ∃ x, x = wr := ⟨_, rfl⟩
    by_cases hla : i < a.length
    · by_cases hlb : i < b.length
      · obtain ⟨b1, o1, rfl, q1⟩ := HR.out i hla
        obtain ⟨b2, o2, rfl, q2⟩ := HS.out i hlb
        replace q1 := hx.keep q1
        replace q2 := hx.keep q2
        have HNE : Hid (a.getD i 0 ≠ b.getD i 0 → res = decide (a.getD i 0 < b.getD i 0)) := Lib.hid (fun h => HAT.out i HI.out hla hlb h)
        have HEQ : Hid (a.getD i 0 = b.getD i 0 → ∀ j, j < i + 1 → a.getD j 0 = b.getD j 0) := Lib.hid (fun h j hj => by
          rcases Nat.lt_succ_iff_lt_or_eq.1 hj with g | rfl
          · exact HI.out j g
          · exact h)
        have hi0 : (0 : Int) ≤ (i : Int) := by omega
        have hi1 : (i : Int) < (a.length : Int) := by omega
        have hi2 : (i : Int) < (b.length : Int) := by omega
        have G1 : ∀ w', Ext wo w' → w'.cell? ⟨b1, o1 + i, none⟩ = some (.int .i64 (a.getD i 0 : Nat)) := fun w' h => h.keep q1
        have G2 : ∀ w', Ext wo w' → w'.cell? ⟨b2, o2 + i, none⟩ = some (.int .i64 (b.getD i 0 : Nat)) := fun w' h => h.keep q2
        clear HI HAT HEN
        generalize a.getD i 0 = x at *
        generalize b.getD i 0 = y at *
        by_cases hxy : x = y
        · have HE := Lib.hid (HEQ.out hxy)
          subst hxy
          go_wp2_with fail
          go_quiet (fail)
          go_wp2_with fail
          go_roundw
          case rel => exact ⟨i + 1, by omega, by omega, by go_num, HE, by (repeat (first | exact Ext.refl _ | (with_reducible assumption) | (with_reducible refine Ext.drew ?_) | (with_reducible refine Ext.alloc ?_ _) | (with_reducible refine Ext.drewN ?_ _) | (with_reducible refine Ext.setCell ?_ (by omega) _) | (with_reducible refine Ext.trans ?_ (by with_reducible assumption))))⟩
          case measure => simp [intOf]; omega
        · have he := HNE.out hxy
          have hn : ((x : Int) != (y : Int)) = true := by rw [bne_iff_ne]; omega
          have hn2 : ¬ ((x : Int) = (y : Int)) := by omega
          have hdd : decide (x < y) = decide ((x : Int) < (y : Int)) := by simp
          rw [hdd] at he
          have HEE := Lib.hid he
          clear HNE HEQ he hdd
          go_wp2_with fail
          go_quiet (fail)
          go_wp2_with fail
          have r1 := G1 _ (show Ext wo _ by (repeat (first | exact Ext.refl _ | (with_reducible assumption) | (with_reducible refine Ext.drew ?_) | (with_reducible refine Ext.alloc ?_ _) | (with_reducible refine Ext.drewN ?_ _) | (with_reducible refine Ext.setCell ?_ (by omega) _) | (with_reducible refine Ext.trans ?_ (by with_reducible assumption)))))
          go_quiet (fail)
          go_wp2_with fail
          go_ret
          exact ⟨by rw [HEE.out]; simp, by (repeat (first | exact Ext.refl _ | (with_reducible assumption) | (with_reducible refine Ext.drew ?_) | (with_reducible refine Ext.alloc ?_ _) | (with_reducible refine Ext.drewN ?_ _) | (with_reducible refine Ext.setCell ?_ (by omega) _) | (with_reducible refine Ext.trans ?_ (by with_reducible assumption))))⟩
      · have e : i = b.length := by omega
        have he := HEN.out i HI.out hia hib (.inr e)
        have hdd : decide (a.length < b.length) = decide ((a.length : Int) < (b.length : Int)) := by simp
        rw [hdd] at he
        have HEE := Lib.hid he
        clear HI HAT HEN he hdd
        go_wp2_with fail
        go_ret
        exact ⟨by rw [HEE.out]; simp, hx⟩
    · have e : i = a.length := by omega
      have he := HEN.out i HI.out hia hib (.inl e)
      have hdd : decide (a.length < b.length) = decide ((a.length : Int) < (b.length : Int)) := by simp
      rw [hdd] at he
      have HEE := Lib.hid he
      clear HI HAT HEN he hdd
      go_wp2_with fail
      go_ret
      exact ⟨by rw [HEE.out]; simp, hx⟩
end Go.Proofs.Ytfjecbfcnngacaa
