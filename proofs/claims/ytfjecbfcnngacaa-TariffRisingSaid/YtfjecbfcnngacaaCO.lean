/- Contracts: the reference's misprints. -/
import Derived.Test.YtfjecbfcnngacaaCN
namespace Go.Hs
open Go.RowKit
def bestTo (r : List Int) : Nat → List Nat
  | 0 => bitsL (2 ^ r.length - 1)
  | k + 1 => if (shorterB (bitsL k) (bestTo r k) && riseS r (tb k)) = true then bitsL k else bestTo r k
def refMis (r : List Int) : List Nat := bestTo r (2 ^ r.length)
theorem bitsL_len (m : Nat) : (bitsL m).length ≤ 5 := bitsTo_len m 5
theorem bestTo_len (r : List Int) (k : Nat) : (bestTo r k).length ≤ 5 := by
  induction k with
  | zero => exact bitsL_len _
  | succ k ih =>
    unfold bestTo
    split
    · exact bitsL_len _
    · exact ih
theorem pow_bd {n : Nat} (h : n ≤ 5) : 1 ≤ 2 ^ n ∧ 2 ^ n ≤ 32 := by
  have : ∀ n, n < 6 → 1 ≤ 2 ^ n ∧ 2 ^ n ≤ 32 := by decide
  exact this n (by omega)
end Go.Hs
namespace Go.Proofs.Ytfjecbfcnngacaa
open Go.RowKit Go.Hs
attribute [local irreducible] World.setCell World.alloc

set_option maxRecDepth 100000 in
set_option maxHeartbeats 2000000 in
theorem RefMis_any (v : Value) (r : List Int) (w : World) (hv : IntsV w v r) (hl : r.length ≤ 5) :
    Calls Try.prog 53 #[v] w fun e w' => ∃ v', e = .returned v' ∧ IntsV w' v' (ints (refMis r)) ∧ Ext w w' := by
  obtain ⟨N, hN⟩ : ∃ N, N = 2 ^ r.length := ⟨_, rfl⟩
  have hpb := pow_bd hl
  rw [← hN] at hpb
  have hp : (2 : Int) ^ r.length = (N : Int) := by rw [hN]; simp
  have hw0 : IntKind.i64.wrap (N : Int) = (N : Int) := IntWalk.i64_in _ (by omega)
  have hw1 : IntKind.i64.wrap ((N : Int) - 1) = (N : Int) - 1 := IntWalk.i64_in _ (by omega)
  have hw2 : IntKind.i64.wrap (2 ^ r.length) = (N : Int) := by rw [hp]; exact hw0
  have HB0 : Hid (∀ W, Calls Try.prog 55 #[.int .i64 ((N : Int) - 1)] W fun e w' => ∃ v, e = .returned v ∧ IntsV w' v (ints (bestTo r 0)) ∧ Ext W w') := Lib.hid (fun W => by
    have := Bits_any (N - 1) (by omega) W
    have e : ((N - 1 : Nat) : Int) = (N : Int) - 1 := by omega
    rw [e] at this
    have e2 : bestTo r 0 = bitsL (N - 1) := by rw [hN]; rfl
    rw [e2]; exact this)
  have HB : Hid (∀ (k : Nat) W, k < N → Calls Try.prog 55 #[.int .i64 (k : Int)] W fun e w' => ∃ v, e = .returned v ∧ IntsV w' v (ints (bitsL k)) ∧ Ext W w') := Lib.hid (fun k W h => Bits_any k (by omega) W)
  have HR : Hid (∀ (k : Nat) W, k < N → Ext w W → Calls Try.prog 38 #[v, .int .i64 (k : Int)] W fun e w' => e = .returned (.bool (riseS r (tb k))) ∧ Ext W w') := Lib.hid (fun k W h hx => RiseM_any v r k W (hv.ext hx) hl (by omega))
  have HSH : Hid (∀ (a b : List Nat) (x y : Value) W, a.length ≤ 5 → b.length ≤ 5 → IntsV W x (ints a) → IntsV W y (ints b) → Calls Try.prog 54 #[x, y] W fun e w' => e = .returned (.bool (shorterB a b)) ∧ Ext W w') := Lib.hid (fun a b x y W h1 h2 h3 h4 => Shorter_any x y a b W h3 h4 (by omega) (by omega))
  have HNX : Hid (∀ k, bestTo r (k + 1) = if (shorterB (bitsL k) (bestTo r k) && riseS r (tb k)) = true then bitsL k else bestTo r k) := Lib.hid (fun k => rfl)
  have HFI : Hid (refMis r = bestTo r N) := Lib.hid (by rw [hN]; rfl)
  have hlen0 : (0 : Int) ≤ (r.length : Int) := by omega
  have hlen6 : (r.length : Int) ≤ 64 := by omega
  obtain ⟨a, c, rfl, h1, h2, -⟩ := hv
  clear hN
  go_enter Try.func53, Try.ntmps53
  go_wp2_with fail
  (refine (HB0.out _).mono ?_)
  rintro e w1 ⟨v1, rfl, hv1, hx1⟩
  have HV1 := Lib.hid hv1
  clear hv1 HB0
  go_wp2_with fail
  go_loopw [3, 4, 5] (fun s3 s4 _ wr => ∃ k : Nat, k ≤ N ∧ s4 = .int .i64 k ∧ Hid (IntsV wr s3 (ints (bestTo r k))) ∧ Ext w wr) (fun _ s _ _ => N - (intOf s).toNat)
  case atStart => exact ⟨0, Nat.zero_le _, rfl, HV1, hx1⟩
  case round =>
    obtain ⟨k, hk, rfl, HV, hx⟩ := hrel
    obtain ⟨wo, rfl⟩ : ∃ x, x = wr := ⟨_, rfl⟩
    by_cases hlt : k < N
    · have hlt' : (k : Int) < (N : Int) := by omega
      have hd : decide ((k : Int) < (N : Int)) = true := decide_eq_true hlt'
      have hbits := HB.out k wo hlt
      have HX := Lib.hid (HNX.out k)
      go_wp2_with fail
      (refine hbits.mono ?_)
      rintro e w2 ⟨v2, rfl, hv2, hx2⟩
      have hsh := HSH.out (bitsL k) (bestTo r k) _ _ w2 (bitsL_len _) (bestTo_len _ _) hv2 (HV.out.ext hx2)
      have HV2 := Lib.hid hv2
      have HVB := Lib.hid (HV.out.ext hx2)
      have X2 := hx.trans hx2
      clear hv2 hbits hx2
      go_wp2_with fail
      (refine hsh.mono ?_)
      rintro e w3 ⟨rfl, hx3⟩
      have X3 := X2.trans hx3
      have HV3 := Lib.hid (HV2.out.ext hx3)
      have HVC := Lib.hid (HVB.out.ext hx3)
      clear hsh hx3 X2 HV2 HVB HV
      cases hs : shorterB (bitsL k) (bestTo r k) with
      | true =>
        have hri := HR.out k w3 hlt X3
        rw [hs, Bool.true_and] at HX
        clear hs
        generalize riseS r (tb k) = ri at *
        go_wp2_with fail
        (refine hri.mono ?_)
        rintro e w4 ⟨rfl, hx4⟩
        clear hri
        cases ri with
        | true =>
          have HV4 : Hid (IntsV w4 v2 (ints (bestTo r (k + 1)))) := Lib.hid (by rw [HX.out, if_pos rfl]; exact HV3.out.ext hx4)
          have X4 := X3.trans hx4
          clear HX HVC HV3 hx4 X3
          go_wp2_with fail
          go_roundw
          case rel => exact ⟨k + 1, by omega, by go_num, HV4, X4⟩
          case measure => simp [intOf]; omega
        | false =>
          have HV4 := HVC.out.ext hx4
          have HV5 : Hid (IntsV w4 _ (ints (bestTo r (k + 1)))) := Lib.hid (by rw [HX.out, if_neg (by decide)]; exact HV4)
          have X4 := X3.trans hx4
          clear HX HVC HV3 hx4 X3 HV4
          go_wp2_with fail
          go_roundw
          case rel => exact ⟨k + 1, by omega, by go_num, HV5, X4⟩
          case measure => simp [intOf]; omega
      | false =>
        rw [hs, Bool.false_and] at HX
        have HV5 : Hid (IntsV w3 _ (ints (bestTo r (k + 1)))) := Lib.hid (by rw [HX.out, if_neg (by decide)]; exact HVC.out)
        clear hs HX HVC HV3
        go_wp2_with fail
        go_roundw
        case rel => exact ⟨k + 1, by omega, by go_num, HV5, X3⟩
        case measure => simp [intOf]; omega
    · have ek : k = N := by omega
      subst ek
      have HVF := HV.out
      rw [← HFI.out] at HVF
      have HVG := Lib.hid HVF
      clear HVF HV
      have hd : decide ((k : Int) < (k : Int)) = false := decide_eq_false (by omega)
      go_wp2_with fail
      go_ret
      exact ⟨_, rfl, HVG.out, hx⟩
end Go.Proofs.Ytfjecbfcnngacaa
