/- The reference: whether rates rise. -/
import Derived.Test.YtfjecbfcnngacaaBP
import Derived.Test.YtfjecbfcnngacaaAI
namespace Go.Hs
open Go.RowKit
/-- The rates up to one rise, and this one is at most those up to another one. -/
def riseTo (r : List Int) (i k : Nat) : Prop := ∀ a b, a < b → b < r.length → (a < i ∨ a = i ∧ b < k) → r.getD a 0 ≤ r.getD b 0
theorem riseTo.next {r : List Int} {i k : Nat} (h : riseTo r i k) (hk : r.getD i 0 ≤ r.getD k 0) : riseTo r i (k + 1) := fun a b hab hb hc => by
  rcases hc with g | ⟨rfl, g⟩
  · exact h a b hab hb (.inl g)
  · by_cases e : b = k
    · subst e; exact hk
    · exact h a b hab hb (.inr ⟨rfl, by omega⟩)
theorem riseTo.turn {r : List Int} {i : Nat} (h : riseTo r i r.length) : riseTo r (i + 1) (i + 1 + 1) := fun a b hab hb hc => by
  rcases hc with g | ⟨rfl, g⟩
  · by_cases e : a = i
    · subst e; exact h a b hab hb (.inr ⟨rfl, hb⟩)
    · exact h a b hab hb (.inl (by omega))
  · omega
theorem riseTo.start (r : List Int) : riseTo r 0 (0 + 1) := fun a b hab hb hc => by omega
theorem riseTo.all {r : List Int} {i : Nat} (h : riseTo r i (i + 1)) (hi : r.length ≤ i) : riseP r := fun a b hab hb => h a b hab hb (.inl (by omega))
/-- What 'Rise' answers. -/
def RiseB (r : List Int) (b : Bool) : Prop := b = true ↔ riseP r
end Go.Hs
namespace Go.Proofs.Ytfjecbfcnngacaa
open Go.RowKit Go.Hs
attribute [local irreducible] World.setCell World.alloc

set_option maxRecDepth 100000 in
set_option maxHeartbeats 2000000 in
theorem Rise_any (v : Value) (r : List Int) (w : World) (hv : IntsV w v r) (hl : r.length ≤ 1000) :
    Calls Try.prog 38 #[v, .int .i64 0] w fun e w' => (∃ b, e = .returned (.bool b) ∧ RiseB r b) ∧ Ext w w' := by
  obtain ⟨a, c, rfl, h1, h2, hr⟩ := hv
  have HC : Hid (∀ i, i < r.length → ∃ b off, a = some ⟨b, off, none⟩ ∧ w.cell? ⟨b, off + i, none⟩ = some (.int .i64 (r.getD i 0))) := by
    refine Lib.hid ?_
    intro i hi
    obtain ⟨b, off, he, hc⟩ := hr i hi
    exact ⟨b, off, he, by have := hc.1; simpa [hi] using this⟩
  clear hr
  go_enter Try.func38, Try.ntmps38
  go_wp2_with fail
  go_loopw [5, 6] (fun s5 _ wr => ∃ i : Nat, i ≤ r.length ∧ s5 = .int .i64 i ∧ Hid (riseTo r i (i + 1)) ∧ Ext w wr) (fun s _ _ => r.length - (intOf s).toNat)
  case atStart => exact ⟨0, Nat.zero_le _, rfl, riseTo.start r, Ext.refl _⟩
  case round =>
    obtain ⟨i, hi, rfl, HI, hx⟩ := hrel
    obtain ⟨wo, rfl⟩ : ∃ x, x = wr := ⟨_, rfl⟩
    by_cases hlt : i < r.length
    · have hw0 : IntKind.i64.wrap ((i : Int) + 1) = (i : Int) + 1 := IntWalk.i64_in _ (by omega)
      go_wp2_with fail
      clear hw0
      go_loopw [6] (fun s6 wr => ∃ k : Nat, i < k ∧ k ≤ r.length ∧ s6 = .int .i64 k ∧ Hid (riseTo r i k) ∧ Ext w wr) (fun s _ => r.length - (intOf s).toNat)
      case atStart => exact ⟨i + 1, by omega, by omega, by go_num, HI.out, hx⟩
      case round =>
        obtain ⟨k, hik, hk, rfl, HK, hxz⟩ := hrel
        obtain ⟨wz, rfl⟩ : ∃ x, x = wr := ⟨_, rfl⟩
        by_cases hkt : k < r.length
        · obtain ⟨b, off, rfl, q1⟩ := HC.out i hlt
          obtain ⟨_, _, e1, q2⟩ := HC.out k hkt
          cases e1
          replace q1 := hxz.keep q1
          replace q2 := hxz.keep q2
          have HN : Hid (r.getD i 0 ≤ r.getD k 0 → riseTo r i (k + 1)) := fun h => HK.out.next h
          have HF : Hid (r.getD k 0 < r.getD i 0 → RiseB r false) := fun h => ⟨fun e => (by cases e), fun g => (by have := g i k hik hkt; omega)⟩
          generalize r.getD i 0 = x at *
          generalize r.getD k 0 = y at *
          by_cases hyx : y < x
          · have HF' := Lib.hid (HF.out hyx)
            go_wp2_with fail
            go_quiet (fail)
            go_wp2_with fail
            go_ret
            exact ⟨⟨_, rfl, HF'.out⟩, by (repeat (first | exact Ext.refl _ | (with_reducible assumption) | (with_reducible refine Ext.drew ?_) | (with_reducible refine Ext.alloc ?_ _) | (with_reducible refine Ext.drewN ?_ _) | (with_reducible refine Ext.setCell ?_ (by omega) _) | (with_reducible refine Ext.trans ?_ (by with_reducible assumption))))⟩
          · have HN' := Lib.hid (HN.out (by omega))
            have hd : decide (y < x) = false := decide_eq_false hyx
            go_wp2_with fail
            go_quiet (fail)
            go_wp2_with fail
            go_roundw
            case rel => exact ⟨k + 1, by omega, by omega, by go_num, HN'.out, by (repeat (first | exact Ext.refl _ | (with_reducible assumption) | (with_reducible refine Ext.drew ?_) | (with_reducible refine Ext.alloc ?_ _) | (with_reducible refine Ext.drewN ?_ _) | (with_reducible refine Ext.setCell ?_ (by omega) _) | (with_reducible refine Ext.trans ?_ (by with_reducible assumption))))⟩
            case measure => simp [intOf]; omega
        · have ek : k = r.length := by omega
          subst ek
          go_wp2_with fail
          go_roundw
          case rel => exact ⟨i + 1, by omega, by go_num, HK.out.turn, hxz⟩
          case measure => simp [intOf]; omega
    · have HA : Hid (RiseB r true) := ⟨fun _ => HI.out.all (by omega), fun _ => rfl⟩
      go_wp2_with fail
      go_ret
      exact ⟨⟨_, rfl, HA.out⟩, hx⟩
end Go.Proofs.Ytfjecbfcnngacaa
