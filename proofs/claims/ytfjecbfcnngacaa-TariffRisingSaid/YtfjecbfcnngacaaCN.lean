/- Contracts: the reference's Shorter and Same; whether rates rise without some. -/
import Derived.Test.YtfjecbfcnngacaaCM
namespace Go.Hs
open Go.RowKit
def pairTo (P : Nat → Nat → Prop) (n i k : Nat) : Prop := ∀ a b, a < b → b < n → (a < i ∨ a = i ∧ b < k) → P a b
section
variable {P : Nat → Nat → Prop} {n i k : Nat}
theorem pairTo.next (h : pairTo P n i k) (hk : P i k) : pairTo P n i (k + 1) := fun a b hab hb hc => by
  rcases hc with g | ⟨rfl, g⟩
  · exact h a b hab hb (.inl g)
  · by_cases e : b = k
    · subst e; exact hk
    · exact h a b hab hb (.inr ⟨rfl, by omega⟩)
theorem pairTo.turn (h : pairTo P n i n) : pairTo P n (i + 1) (i + 1 + 1) := fun a b hab hb hc => by
  rcases hc with g | ⟨rfl, g⟩
  · by_cases e : a = i
    · subst e; exact h a b hab hb (.inr ⟨rfl, hb⟩)
    · exact h a b hab hb (.inl (by omega))
  · omega
theorem pairTo.start : pairTo P n 0 (0 + 1) := fun a b hab hb hc => by omega
theorem pairTo.all (h : pairTo P n i (i + 1)) (hi : n ≤ i) : ∀ a b, a < b → b < n → P a b := fun a b hab hb => h a b hab hb (.inl (by omega))
end
def okP (r : List Int) (f : Nat → Bool) (a b : Nat) : Prop := f a = false → f b = false → r.getD a 0 ≤ r.getD b 0
def riseS (r : List Int) (f : Nat → Bool) : Bool := allB r.length (fun b => allB b (fun a => f a || f b || decide (r.getD a 0 ≤ r.getD b 0)))
theorem riseS_iff {r : List Int} {f : Nat → Bool} : riseS r f = true ↔ ∀ a b, a < b → b < r.length → okP r f a b := by
  unfold riseS okP
  simp only [allB_iff, Bool.or_eq_true, decide_eq_true_eq]
  constructor
  · intro h a b hab hb h1 h2
    rcases h b hb a hab with (g | g) | g
    · rw [h1] at g; cases g
    · rw [h2] at g; cases g
    · exact g
  · intro h b hb a hab
    have := h a b hab hb
    cases h1 : f a with
    | true => exact .inl (.inl rfl)
    | false =>
      cases h2 : f b with
      | true => exact .inl (.inr rfl)
      | false => exact .inr (this h1 h2)
end Go.Hs
namespace Go.Proofs.Ytfjecbfcnngacaa
open Go.RowKit Go.Hs
attribute [local irreducible] World.setCell World.alloc

set_option maxRecDepth 100000 in
theorem Shorter_any (v u : Value) (a b : List Nat) (w : World) (hv : IntsV w v (ints a)) (hu : IntsV w u (ints b)) (ha : a.length ≤ 1000) (hb : b.length ≤ 1000) :
    Calls Try.prog 54 #[v, u] w fun e w' => e = .returned (.bool (shorterB a b)) ∧ Ext w w' := by
  have HB := Lib.hid (Before_any v u a b w hv hu ha hb)
  obtain ⟨p, c, rfl, h1, -⟩ := hv.natcells
  obtain ⟨q, d, rfl, h2, -⟩ := hu.natcells
  have HE : Hid (shorterB a b = (decide (a.length < b.length) || (a.length == b.length && beforeB a b))) := rfl
  generalize hr : shorterB a b = res at *
  generalize beforeB a b = bf at *
  clear hv hu hr
  generalize a.length = n at *
  generalize b.length = m at *
  by_cases h : n < m
  · have hd : decide ((n : Int) < (m : Int)) = true := decide_eq_true (by omega)
    have he : res = true := by rw [HE.out, decide_eq_true h]; rfl
    subst he
    go_enter Try.func54, Try.ntmps54
    go_wp2_with fail
    go_ret
    exact ⟨rfl, Ext.refl _⟩
  · have hd : decide ((n : Int) < (m : Int)) = false := decide_eq_false (by omega)
    by_cases e : n = m
    · subst e
      have he : res = bf := by rw [HE.out, decide_eq_false h]; simp
      subst he
      go_enter Try.func54, Try.ntmps54
      go_wp2_with fail
      (refine HB.out.mono ?_)
      rintro e w1 ⟨rfl, hx⟩
      go_wp2_with fail
      go_ret
      exact ⟨rfl, hx⟩
    · have hq : ((n : Int) == (m : Int)) = false := by rw [beq_eq_false_iff_ne]; omega
      have he : res = false := by rw [HE.out, decide_eq_false h]; simp [e]
      subst he
      go_enter Try.func54, Try.ntmps54
      go_wp2_with fail
      go_ret
      exact ⟨rfl, Ext.refl _⟩

set_option maxRecDepth 100000 in
theorem Same_any (v u : Value) (a b : List Nat) (w : World) (hv : IntsV w v (ints a)) (hu : IntsV w u (ints b)) (ha : a.length ≤ 1000) (hb : b.length ≤ 1000) :
    Calls Try.prog 52 #[v, u] w fun e w' => e = .returned (.bool (sameL a b)) ∧ Ext w w' := by
  have HB := Lib.hid (Before_any v u a b w hv hu ha hb)
  have HC : Hid (∀ w', Ext w w' → Calls Try.prog 80 #[u, v] w' fun e w'' => e = .returned (.bool (beforeB b a)) ∧ Ext w' w'') := fun w' hx => Before_any u v b a w' (hu.ext hx) (hv.ext hx) hb ha
  obtain ⟨p, c, rfl, h1, -⟩ := hv.natcells
  obtain ⟨q, d, rfl, h2, -⟩ := hu.natcells
  have HE : Hid (sameL a b = (a.length == b.length && (!beforeB a b && !beforeB b a))) := rfl
  generalize hr : sameL a b = res at *
  generalize beforeB a b = bf at *
  generalize beforeB b a = bg at *
  clear hv hu hr
  generalize a.length = n at *
  generalize b.length = m at *
  by_cases e : n = m
  · subst e
    cases bf with
    | true =>
      have he : res = false := by rw [HE.out]; simp
      subst he
      go_enter Try.func52, Try.ntmps52
      go_wp2_with fail
      (refine HB.out.mono ?_)
      rintro e w1 ⟨rfl, hx⟩
      go_wp2_with fail
      go_ret
      exact ⟨rfl, hx⟩
    | false =>
      have he : res = !bg := by rw [HE.out]; simp
      subst he
      go_enter Try.func52, Try.ntmps52
      go_wp2_with fail
      (refine HB.out.mono ?_)
      rintro e w1 ⟨rfl, hx⟩
      go_wp2_with fail
      (refine (HC.out _ hx).mono ?_)
      rintro e w2 ⟨rfl, hx2⟩
      go_wp2_with fail
      go_ret
      exact ⟨rfl, hx.trans hx2⟩
  · have hq : ((n : Int) == (m : Int)) = false := by rw [beq_eq_false_iff_ne]; omega
    have he : res = false := by rw [HE.out]; simp [e]
    subst he
    go_enter Try.func52, Try.ntmps52
    go_wp2_with fail
    go_ret
    exact ⟨rfl, Ext.refl _⟩

set_option maxRecDepth 100000 in
set_option maxHeartbeats 2000000 in
theorem RiseM_any (v : Value) (r : List Int) (m : Nat) (w : World) (hv : IntsV w v r) (hl : r.length ≤ 5) (_ : m < 32) :
    Calls Try.prog 38 #[v, .int .i64 (m : Int)] w fun e w' => e = .returned (.bool (riseS r (tb m))) ∧ Ext w w' := by
  obtain ⟨a, c, rfl, h1, h2, hr⟩ := hv
  have HC : Hid (∀ i, i < r.length → ∃ b off, a = some ⟨b, off, none⟩ ∧ w.cell? ⟨b, off + i, none⟩ = some (.int .i64 (r.getD i 0))) := by
    refine Lib.hid ?_
    intro i hi
    obtain ⟨b, off, he, hc⟩ := hr i hi
    exact ⟨b, off, he, by have := hc.1; simpa [hi] using this⟩
  have HYES : Hid ((∀ a b, a < b → b < r.length → okP r (tb m) a b) → riseS r (tb m) = true) := Lib.hid riseS_iff.2
  have HNO : Hid (∀ a b, a < b → b < r.length → ¬ okP r (tb m) a b → riseS r (tb m) = false) := Lib.hid (fun a b hab hb hn => by
    cases h : riseS r (tb m) with
    | false => rfl
    | true => exact absurd (riseS_iff.1 h a b hab hb) hn)
  have HSH : Hid (∀ p : Nat, ∃ s d : Nat, (m : Int) / 2 ^ p = (s : Int) ∧ (s : Int) % 2 = (d : Int) ∧ (s : Int).tmod 2 = (d : Int) ∧ (d = 0 ∧ tb m p = false ∨ d = 1 ∧ tb m p = true)) := Lib.hid (fun p => by
    refine ⟨m / 2 ^ p, m / 2 ^ p % 2, by simp, by simp, ?_, ?_⟩
    · generalize m / 2 ^ p = s
      rw [Int.tmod_eq_emod_of_nonneg (by omega)]; simp
    · unfold tb
      generalize m / 2 ^ p = s
      rcases Nat.mod_two_eq_zero_or_one s with h | h
      · exact .inl ⟨h, by rw [h]; rfl⟩
      · exact .inr ⟨h, by rw [h]; rfl⟩)
  clear hr
  generalize hres : riseS r (tb m) = res at *
  clear hres
  go_enter Try.func38, Try.ntmps38
  go_wp2_with fail
  go_loopw [5, 6] (fun s5 _ wr => ∃ i : Nat, i ≤ r.length ∧ s5 = .int .i64 i ∧ Hid (pairTo (okP r (tb m)) r.length i (i + 1)) ∧ Ext w wr) (fun s _ _ => r.length - (intOf s).toNat)
  case atStart => exact ⟨0, Nat.zero_le _, rfl, pairTo.start, Ext.refl _⟩
  case round =>
    obtain ⟨i, hi, rfl, HI, hx⟩ := hrel
    obtain ⟨wo, rfl⟩ : ∃ x, x = wr := ⟨_, rfl⟩
    by_cases hlt : i < r.length
    · have hw0 : IntKind.i64.wrap ((i : Int) + 1) = (i : Int) + 1 := IntWalk.i64_in _ (by omega)
      go_wp2_with fail
      clear hw0
      go_loopw [6] (fun s6 wr => ∃ k : Nat, i < k ∧ k ≤ r.length ∧ s6 = .int .i64 k ∧ Hid (pairTo (okP r (tb m)) r.length i k) ∧ Ext w wr) (fun s _ => r.length - (intOf s).toNat)
      case atStart => exact ⟨i + 1, by omega, by omega, by go_num, HI.out, hx⟩
      case round =>
        obtain ⟨k, hik, hk, rfl, HK, hxz⟩ := hrel
        obtain ⟨wz, rfl⟩ : ∃ x, x = wr := ⟨_, rfl⟩
        by_cases hkt : k < r.length
        · obtain ⟨b, off, rfl, q1⟩ := HC.out i hlt
          obtain ⟨_, _, e1, q2⟩ := HC.out k hkt
          cases e1
          replace q1 := hxz.keep q1
          replace q2 := hxz.keep q2
          have HN : Hid (okP r (tb m) i k → pairTo (okP r (tb m)) r.length i (k + 1)) := fun h => HK.out.next h
          have HF : Hid (¬ okP r (tb m) i k → res = false) := fun h => HNO.out i k hik hkt h
          obtain ⟨s1, d1, t1, t2, t3, t4⟩ := HSH.out i
          obtain ⟨s2, d2, y1, y2, y3, y4⟩ := HSH.out k
          have hi0 : (0 : Int) ≤ (i : Int) := by omega
          have hi6 : (i : Int) ≤ 64 := by omega
          have hk0 : (0 : Int) ≤ (k : Int) := by omega
          have hk6 : (k : Int) ≤ 64 := by omega
          have hdw1 : IntKind.i64.wrap (d1 : Int) = (d1 : Int) := IntWalk.i64_in _ (by omega)
          have hdw2 : IntKind.i64.wrap (d2 : Int) = (d2 : Int) := IntWalk.i64_in _ (by omega)
          have HOK : Hid (okP r (tb m) i k ↔ (tb m i = false → tb m k = false → r.getD i 0 ≤ r.getD k 0)) := Lib.hid Iff.rfl
          generalize r.getD i 0 = x at *
          generalize r.getD k 0 = y at *
          rcases t4 with ⟨rfl, t4⟩ | ⟨rfl, t4⟩
          · rcases y4 with ⟨rfl, y4⟩ | ⟨rfl, y4⟩
            · by_cases hyx : y < x
              · have hres := HF.out (fun h => by have := HOK.out.1 h t4 y4; omega)
                have hd : decide (y < x) = true := decide_eq_true hyx
                clear HF HN HOK HNO HYES
                subst hres
                go_wp2_with fail
                go_quiet (fail)
                go_wp2_with fail
                go_ret
                exact ⟨rfl, by (repeat (first | exact Ext.refl _ | (with_reducible assumption) | (with_reducible refine Ext.drew ?_) | (with_reducible refine Ext.alloc ?_ _) | (with_reducible refine Ext.drewN ?_ _) | (with_reducible refine Ext.setCell ?_ (by omega) _) | (with_reducible refine Ext.trans ?_ (by with_reducible assumption))))⟩
              · have HN' := Lib.hid (HN.out (HOK.out.2 (fun _ _ => by omega)))
                have hd : decide (y < x) = false := decide_eq_false hyx
                clear HF HN HOK
                go_wp2_with fail
                go_quiet (fail)
                go_wp2_with fail
                go_roundw
                case rel => exact ⟨k + 1, by omega, by omega, by go_num, HN', by (repeat (first | exact Ext.refl _ | (with_reducible assumption) | (with_reducible refine Ext.drew ?_) | (with_reducible refine Ext.alloc ?_ _) | (with_reducible refine Ext.drewN ?_ _) | (with_reducible refine Ext.setCell ?_ (by omega) _) | (with_reducible refine Ext.trans ?_ (by with_reducible assumption))))⟩
                case measure => simp [intOf]; omega
            · have HN' := Lib.hid (HN.out (HOK.out.2 (fun _ h => by rw [y4] at h; cases h)))
              clear HF HN HOK
              go_wp2_with fail
              go_quiet (fail)
              go_wp2_with fail
              go_roundw
              case rel => exact ⟨k + 1, by omega, by omega, by go_num, HN', by (repeat (first | exact Ext.refl _ | (with_reducible assumption) | (with_reducible refine Ext.drew ?_) | (with_reducible refine Ext.alloc ?_ _) | (with_reducible refine Ext.drewN ?_ _) | (with_reducible refine Ext.setCell ?_ (by omega) _) | (with_reducible refine Ext.trans ?_ (by with_reducible assumption))))⟩
              case measure => simp [intOf]; omega
          · have HN' := Lib.hid (HN.out (HOK.out.2 (fun h _ => by rw [t4] at h; cases h)))
            clear HF HN HOK
            go_wp2_with fail
            go_quiet (fail)
            go_wp2_with fail
            go_roundw
            case rel => exact ⟨k + 1, by omega, by omega, by go_num, HN', by (repeat (first | exact Ext.refl _ | (with_reducible assumption) | (with_reducible refine Ext.drew ?_) | (with_reducible refine Ext.alloc ?_ _) | (with_reducible refine Ext.drewN ?_ _) | (with_reducible refine Ext.setCell ?_ (by omega) _) | (with_reducible refine Ext.trans ?_ (by with_reducible assumption))))⟩
            case measure => simp [intOf]; omega
        · have ek : k = r.length := by omega
          subst ek
          go_wp2_with fail
          go_roundw
          case rel => exact ⟨i + 1, by omega, by go_num, HK.out.turn, hxz⟩
          case measure => simp [intOf]; omega
    · have HA := HYES.out (HI.out.all (by omega))
      clear HYES HNO HI
      subst HA
      go_wp2_with fail
      go_ret
      exact ⟨rfl, hx⟩
end Go.Proofs.Ytfjecbfcnngacaa
