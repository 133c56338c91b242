/- The reference: the least count. -/
import Derived.Test.YtfjecbfcnngacaaAO
import Derived.Test.YtfjecbfcnngacaaAC
namespace Go.Proofs.Ytfjecbfcnngacaa
open Go.RowKit Go.Hs
attribute [local irreducible] World.setCell World.alloc

/-- The least count, or -1. -/
def leastI (o : Option Nat) : Int := match o with
  | some n => n
  | none => -1

set_option maxRecDepth 100000 in
set_option maxHeartbeats 2000000 in
theorem RefLeast_any (v : Value) (l : List Tar) (cr d : Int) (w : World) (hv : TarsV w v l) (hl : ValidL l) (h0 : 0 ≤ cr) (h1 : cr < cropsN l) (hd : 0 ≤ d) :
    Calls Try.prog 50 #[v, .int .i64 cr, .int .i64 d] w fun e w' => e = .returned (.int .i64 (leastI (leastS l cr d))) ∧ Ext w w' := by
  have HPA : Hid (∀ n W, Ext w W → 0 ≤ n → n ≤ 100 → Calls Try.prog 26 #[v, .int .i64 cr, .int .i64 d, .int .i64 n] W fun e w' => e = .returned (.int .i64 (partS l cr d n)) ∧ Ext W w') := fun n W hx g0 g1 => RefPart_any v l cr d n W (hv.ext hx) hl h0 h1 hd g0 g1
  have HYES : Hid (∀ n : Nat, n < 101 → 0 < partS l cr d n → (∀ m : Nat, m < n → partS l cr d m ≤ 0) → leastI (leastS l cr d) = n) := fun n hn h g => by rw [leastS_some hn h g]; rfl
  have HNO : Hid ((∀ m : Nat, m < 101 → partS l cr d m ≤ 0) → leastI (leastS l cr d) = -1) := fun g => by rw [leastS_none g]; rfl
  obtain ⟨a, c, rfl, -⟩ := hv
  generalize leastI (leastS l cr d) = res at *
  generalize partS l cr d = P at *
  go_enter Try.func50, Try.ntmps50
  go_wp2_with fail
  go_loopw [7] (fun s wr => ∃ n : Nat, n ≤ 101 ∧ s = .int .i64 n ∧ Hid (∀ m : Nat, m < n → P m ≤ 0) ∧ Ext w wr) (fun s _ => 101 - (intOf s).toNat)
  case atStart => exact ⟨0, by omega, rfl, fun m h => absurd h (Nat.not_lt_zero _), Ext.refl _⟩
  case round =>
    obtain ⟨n, hn, rfl, HI, hx⟩ := hrel
    obtain ⟨wo, rfl⟩ : ∃ x, x = wr := ⟨_, rfl⟩
    by_cases hlt : n < 101
    · have hpa := HPA.out n wo hx (by omega) (by omega)
      have HN : Hid (P n ≤ 0 → ∀ m : Nat, m < n + 1 → P m ≤ 0) := fun h => upTo_next HI.out h
      have HY : Hid (0 < P n → res = n) := fun h => HYES.out n hlt h HI.out
      generalize P (n : Int) = p at *
      by_cases hp : 0 < p
      · have HY' := Lib.hid (HY.out hp)
        go_wp2_with fail
        (with_reducible refine hpa.mono ?_)
        rintro e w1 ⟨rfl, hx1⟩
        go_wp2_with fail
        go_ret
        exact ⟨ret_int HY'.out.symm, hx.trans hx1⟩
      · have HN' := Lib.hid (HN.out (by omega))
        go_wp2_with fail
        (with_reducible refine hpa.mono ?_)
        rintro e w1 ⟨rfl, hx1⟩
        go_wp2_with fail
        go_roundw
        case rel => exact ⟨n + 1, by omega, by go_num, HN'.out, hx.trans hx1⟩
        case measure => simp [intOf]; omega
    · have en : n = 101 := by omega
      subst en
      have HE := Lib.hid (HNO.out HI.out)
      go_wp2_with fail
      go_ret
      exact ⟨ret_int HE.out.symm, hx⟩
end Go.Proofs.Ytfjecbfcnngacaa
