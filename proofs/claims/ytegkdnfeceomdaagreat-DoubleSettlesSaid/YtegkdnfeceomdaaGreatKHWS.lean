/- The walk of DoubleSettles. -/
import Derived.Test.YtegkdnfeceomdaaGreatKC12
import Derived.Test.YtegkdnfeceomdaaGreatKHC0
import Derived.Test.YtegkdnfeceomdaaGreatKC11
set_option linter.unusedSimpArgs false
set_option linter.unusedVariables false
namespace Go.Hs
open Go.RowKit
theorem settleE_cases (amount : Int) (sums : List Int) (h : settleE amount sums ≠ 0) :
    (3 < sums.length ∧ settleE amount sums = 3) ∨ (sums.length ≤ 3 ∧ settleE amount sums = 1 ∧ (inR amount 0 1000 = false ∨ (inR amount 0 1000 = true ∧ sums.length = 0) ∨ (inR amount 0 1000 = true ∧ sums.length ≠ 0 ∧ ¬ ∀ x ∈ sums, inR x 0 5000 = true))) := by
  unfold settleE at *; by_cases h3 : 3 < sums.length
  · exact .inl ⟨h3, by rw [if_pos h3]⟩
  · rw [if_neg h3] at h ⊢; refine .inr ⟨by omega, ?_⟩
    by_cases hc : (inR amount 0 1000 && (!decide (sums.length = 0) && sums.all sumOK)) = true
    · rw [if_pos hc] at h; exact absurd rfl h
    · rw [if_neg hc]; refine ⟨rfl, ?_⟩
      cases hi : inR amount 0 1000 with
      | false => exact .inl rfl
      | true =>
        refine .inr ?_
        by_cases h0 : sums.length = 0
        · exact .inl ⟨rfl, h0⟩
        · refine .inr ⟨rfl, h0, fun hall => hc ?_⟩
          simp only [hi, Bool.true_and, Bool.and_eq_true, Bool.not_eq_true', decide_eq_false_iff_not, List.all_eq_true]; exact ⟨h0, fun x hx => hall x hx⟩
theorem all_take {p : Int → Bool} {l : List Int} {i : Nat} (hi : i < l.length) (h : ∀ x ∈ l.take i, p x = true) (hx : p (l.getD i 0) = true) : ∀ x ∈ l.take (i + 1), p x = true := by
  intro x hm
  rw [List.take_succ_eq_append_getElem hi, List.mem_append] at hm; rcases hm with hm | hm
  · exact h x hm
  · simp only [List.mem_cons, List.not_mem_nil, or_false] at hm; subst hm; simpa [hi] using hx
theorem settle_at {amount : Int} {sums : List Int} (ha : 0 ≤ amount) (h : ∀ x ∈ sums, 0 ≤ x) {i : Nat} (hi : i < sums.length) :
    0 ≤ (settleL amount sums).getD i 0 ∧ (settleL amount sums).getD i 0 ≤ sums.getD i 0 ∧ (amount < sumI sums → (settleL amount sums).getD i 0 * sumI sums < amount * sums.getD i 0 + sumI sums ∧ amount * sums.getD i 0 - sumI sums < (settleL amount sums).getD i 0 * sumI sums) := by
  have hl : i < (settleL amount sums).length := by rw [settleL_len]; exact hi
  have := (settleL_ok ha h).1 i (sums[i]) ((settleL amount sums)[i]) (by simp [hi]) (by simp [hl]); have e1 : sums.getD i 0 = sums[i] := by simp [hi]
  have e2 : (settleL amount sums).getD i 0 = (settleL amount sums)[i] := by simp [hl]
  rw [e1, e2]; exact this
end Go.Hs
namespace Go.Proofs.YtegkdnfeceomdaaGreat
open Go.RowKit Go.Hs
attribute [local irreducible] World.setCell World.alloc
set_option maxRecDepth 100000 in
set_option maxHeartbeats 8000000 in
theorem settles_ext (amount : Int) (v : Value) (sums : List Int) (w : World) (hv : IntsW w v sums) :
    Calls Tryz.prog 3 #[.int .i64 amount, v] w fun e w' => e = .returned (.bool true) ∧ Ext w w' := by
  have HAW := Lib.hid awake8; obtain ⟨a, c, rfl, h1, h2, hr⟩ := id hv; by_cases h6 : sums.length ≤ 6
  · have hV := hv.toV (by omega)
    have HLI : Hid (∀ W, Ext w W → Calls Tryz.prog 20 #[.slice a sums.length c] W fun e w' => ∃ v', e = .returned v' ∧ IntsV w' v' sums ∧ Ext W w') := Lib.hid (fun W hx => (list8 _ sums W (hV.ext hx) (by omega)).mono (fun e w' h => by
      obtain ⟨v', rfl, ho, hx'⟩ := h
      exact ⟨v', rfl, own_intsV ho rfl rfl (fun x hx => by
        obtain ⟨i, hi, rfl⟩ := List.getElem_of_mem hx; obtain ⟨b, o, -, hc⟩ := hr i hi; exact hc.2) (by omega), hx'⟩))
    have hR : ∀ W, Ext w W → ∀ i, i < sums.length → ∃ b off, a = some ⟨b, off, none⟩ ∧ W.cell? ⟨b, off + i, none⟩ = some (.int .i64 (sums.getD i 0)) := fun W hx i hi => by
      obtain ⟨p, c', e, -, hs⟩ := hV.cellsI; cases e
      obtain ⟨b, o, e, k⟩ := hs i hi; exact ⟨b, o, e, hx.keep k⟩
    have HR := Lib.hid hR; have HIN := Lib.hid In_h0; by_cases hE : settleE amount sums = 0
    · obtain ⟨h3, hne, hm, hs⟩ := settleE_zero hE
      have HSG : Hid (∀ v' W, IntsV W v' sums → Calls Tryz.prog 19 #[.int .i64 amount, v'] W fun e w' => ∃ p q, e = .returned (.tuple #[.slice p sums.length q, .int .i64 0]) ∧ IntsV w' (.slice p sums.length q) (settleL amount sums) ∧ Ext W w') := Lib.hid (fun v' W hv' => (Settle_good amount v' sums W hv' hE).mono (fun e w' h => by
        obtain ⟨u, rfl, ho, hx'⟩ := h
        have hi2 : IntsV w' u (settleL amount sums) := own_intsV ho rfl (by rw [settleL_len]) (fun x hx => by
          obtain ⟨i, hi, rfl⟩ := List.getElem_of_mem hx; rw [settleL_len] at hi; have := settle_at hm.1 (fun x hx => (hs x hx).1) hi; have e2 : (settleL amount sums).getD i 0 = (settleL amount sums)[i]'(by rw [settleL_len]; exact hi) := by simp [settleL_len, hi]
          have e3 := hs (sums[i]) (List.getElem_mem hi); have e1 : sums.getD i 0 = sums[i] := by simp [hi]
          rw [e1, e2] at this; unfold i64ok; omega) (by rw [settleL_len]; omega)
        obtain ⟨p, q, rfl, -⟩ := id hi2; rw [settleL_len] at hi2 ⊢; exact ⟨p, q, rfl, hi2, hx'⟩))
      have HRS : Hid (∀ W, Ext w W → Calls Tryz.prog 23 #[.int .i64 amount, .slice a sums.length c] W fun e w' => ∃ u, e = .returned u ∧ IntsV w' u (settleL amount sums) ∧ Ext W w') := Lib.hid (fun W hx => (Settle_h amount _ sums W (hV.ext hx) hm h3 hs).mono (fun e w' h => by
        obtain ⟨u, rfl, ho, hx'⟩ := h
        exact ⟨u, rfl, own_intsV ho rfl (by rw [settleL_len]) (fun x hx => by
          obtain ⟨i, hi, rfl⟩ := List.getElem_of_mem hx; rw [settleL_len] at hi; have := settle_at hm.1 (fun x hx => (hs x hx).1) hi; have e2 : (settleL amount sums).getD i 0 = (settleL amount sums)[i]'(by rw [settleL_len]; exact hi) := by simp [settleL_len, hi]
          have e3 := hs (sums[i]) (List.getElem_mem hi); have e1 : sums.getD i 0 = sums[i] := by simp [hi]
          rw [e1, e2] at this; unfold i64ok; omega) (by rw [settleL_len]; omega), hx'⟩))
      have HIT : Hid (∀ va vb W, IntsV W va (settleL amount sums) → IntsV W vb (settleL amount sums) → Calls Tryz.prog 22 #[va, vb] W fun e w' => e = .returned (.bool true) ∧ Ext W w') := Lib.hid (fun va vb W k1 k2 => by
        have := ints8 va vb _ _ W k1 k2 (by rw [settleL_len]; omega) (by rw [settleL_len]; omega); rw [decide_eq_true rfl] at this; exact this)
      have HSA := Lib.hid (fun i hi => settle_at hm.1 (fun x hx => (hs x hx).1) (i := i) hi); have HSM := Lib.hid (settleL_ok hm.1 (fun x hx => (hs x hx).1)).2; have HST : Hid (∀ i, i < sums.length → sumI (sums.take (i + 1)) = sumI (sums.take i) + sums.getD i 0) := Lib.hid (fun i hi => sumI_take hi); have HSL : Hid (∀ i, i < sums.length → sumI ((settleL amount sums).take (i + 1)) = sumI ((settleL amount sums).take i) + (settleL amount sums).getD i 0) := Lib.hid (fun i hi => sumI_take (by rw [settleL_len]; exact hi))
      have HBD : Hid (∀ i, 0 ≤ sumI (sums.take i) ∧ sumI (sums.take i) ≤ 15000) := Lib.hid (fun i => by
        have := sumI_bd (l := sums.take i) (fun x hx => hs x (List.mem_of_mem_take hx)); have k2 := List.length_take_le i sums; have k3 := List.length_take_le' i sums; omega)
      have HBL : Hid (∀ i, 0 ≤ sumI ((settleL amount sums).take i) ∧ sumI ((settleL amount sums).take i) ≤ 15000) := Lib.hid (fun i => by
        have := sumI_bd (l := (settleL amount sums).take i) (fun x hx => by
          obtain ⟨j, hj, rfl⟩ := List.getElem_of_mem (List.mem_of_mem_take hx); rw [settleL_len] at hj; have := settle_at hm.1 (fun x hx => (hs x hx).1) hj; have e2 : (settleL amount sums).getD j 0 = (settleL amount sums)[j]'(by rw [settleL_len]; exact hj) := by simp [settleL_len, hj]
          have e3 := hs (sums[j]) (List.getElem_mem hj); have e1 : sums.getD j 0 = sums[j] := by simp [hj]
          rw [e1, e2] at this; omega)
        have k2 := List.length_take_le i (settleL amount sums); have k3 := List.length_take_le' i (settleL amount sums); rw [settleL_len] at k3; omega)
      have HZ : Hid (sumI (sums.take 0) = 0 ∧ sumI ((settleL amount sums).take 0) = 0) := Lib.hid ⟨by simp [sumI], by simp [sumI]⟩; have HAL : Hid (sums.take sums.length = sums) := Lib.hid List.take_length; have HAS : Hid ((settleL amount sums).take sums.length = settleL amount sums) := Lib.hid (by rw [List.take_of_length_le (by rw [settleL_len]; exact Nat.le_refl _)])
      have HXI : Hid (∀ i, i < sums.length → (0 ≤ sums.getD i 0 ∧ sums.getD i 0 ≤ 5000) ∧ inR (sums.getD i 0) 0 5000 = true) := Lib.hid (fun i hi => by
        have e1 : sums.getD i 0 = sums[i] := by simp [hi]
        have := hs (sums[i]) (List.getElem_mem hi); rw [e1, inR_iff]; exact ⟨this, this⟩)
      have hin : inR amount 0 1000 = true := by rw [inR_iff]; exact hm
      have hn0 : ¬ sums.length = 0 := by intro h; exact hne (List.eq_nil_of_length_eq_zero h)
      have hd0 : ((sums.length : Int) == 0) = false := by rw [beq_eq_false_iff_ne]; omega
      have HN0 := Lib.hid hn0; clear hn0; have hd6 : decide ((6 : Int) < (sums.length : Int)) = false := decide_eq_false (by omega); have hd3 : decide ((3 : Int) < (sums.length : Int)) = false := decide_eq_false (by omega); have XX : Ext w w := Ext.refl w; have HM := Lib.hid hm; clear hV hR hv hr hE hs hne hm; generalize settleL amount sums = sl at *; go_enter Tryz.func3, Tryz.ntmps3
      (go_wp2_with fail); (with_reducible refine (HLI.out _ XX).mono ?_); rintro e w1 ⟨v1, rfl, hv1, hx⟩; have hy : Ext w w1 := by (repeat (first | exact Ext.refl _ | with_reducible (first | assumption | refine Ext.drew ?_ | refine Ext.alloc ?_ _ | refine Ext.drewN ?_ _ | refine Ext.setCell ?_ (by omega) _ | refine Ext.trans ?_ (by assumption))))
      replace XX := XX.trans hy; clear hx hy; (go_wp2_with fail); (with_reducible refine (HSG.out _ _ hv1).mono ?_); rintro e w2 ⟨p, q, rfl, hv2, hx⟩; have hy : Ext w1 w2 := by (repeat (first | exact Ext.refl _ | with_reducible (first | assumption | refine Ext.drew ?_ | refine Ext.alloc ?_ _ | refine Ext.drewN ?_ _ | refine Ext.setCell ?_ (by omega) _ | refine Ext.trans ?_ (by assumption))))
      replace XX := XX.trans hy; clear hx hy; (go_wp2_with fail); (with_reducible refine (HIN.out _ _ _ _).mono ?_); rintro e w3 ⟨hre, hx⟩; have hy : Ext w2 w3 := by (repeat (first | exact Ext.refl _ | with_reducible (first | assumption | refine Ext.drew ?_ | refine Ext.alloc ?_ _ | refine Ext.drewN ?_ _ | refine Ext.setCell ?_ (by omega) _ | refine Ext.trans ?_ (by assumption))))
      replace XX := XX.trans hy; replace hv2 := hv2.ext hy; clear hx hy; rw [hin] at hre; subst hre; clear hv1; have HV3 := Lib.hid hv2; clear hv2; (go_wp2_with fail); go_loopw [7, 8, 9] (fun s7 s8 s9 wr => ∃ i : Nat, i ≤ sums.length ∧ s7 = .int .i64 0 ∧ s9 = .int .i64 i ∧ s8 = .int .i64 (sumI (sums.take i)) ∧ Ext w3 wr) (fun _ _ s _ => sums.length - (intOf s).toNat)
      case atStart => exact ⟨0, Nat.zero_le _, rfl, rfl, by rw [HZ.out.1], Ext.refl _⟩
      case round =>
        obtain ⟨i, hia, rfl, rfl, rfl, hx⟩ := hrel; obtain ⟨wo, rfl⟩ : ∃ x, x = wr := ⟨_, rfl⟩; by_cases hla : i < sums.length
        · obtain ⟨b1, o1, rfl, q1⟩ := HR.out wo (XX.trans hx) i hla; have g0 : (0 : Int) ≤ (i : Int) := by omega
          have g1 : (i : Int) < (sums.length : Int) := by omega
          have HN := Lib.hid (HST.out i hla); have hb1 := HBD.out i; have hb2 := HBD.out (i + 1); rw [HN.out] at hb2; have hxi := (HXI.out i hla).2; generalize sums.getD i 0 = x at *; generalize sumI (sums.take i) = sb at *; have hw : IntKind.i64.wrap (sb + x) = sb + x := IntWalk.i64_in _ (by omega); (go_wp2_with fail); (with_reducible refine (HIN.out _ _ _ _).mono ?_); rintro e w4 ⟨hre, hx4⟩; rw [hxi] at hre; subst hre; replace q1 := hx4.keep q1; (go_wp2_with fail); go_roundw
          case rel => exact ⟨i + 1, by omega, rfl, by go_num, by rw [HN.out], hx.trans hx4⟩
          case measure => simp [intOf]; omega
        · obtain rfl : i = sums.length := by omega
          have hb1 := HBD.out sums.length; rw [HAL.out] at hb1 ⊢; have hx3 := XX.trans hx; have HV4 := Lib.hid (HV3.out.ext hx); clear hla; (go_wp2_with fail); (with_reducible refine (HRS.out _ hx3).mono ?_); rintro e w5 ⟨u5, rfl, hu5, hx5⟩; (go_wp2_with fail); (with_reducible refine (HIT.out _ _ _ (HV4.out.ext hx5) hu5).mono ?_); rintro e w6 ⟨rfl, hx6⟩
          have HR6 : Hid (∀ W, Ext w6 W → ∀ i, i < sums.length → ∃ b off, p = some ⟨b, off, none⟩ ∧ W.cell? ⟨b, off + i, none⟩ = some (.int .i64 (sl.getD i 0))) := Lib.hid (fun W hx i hi => by
            obtain ⟨p', c', e, -, hs⟩ := ((HV4.out.ext hx5).ext hx6).cellsI; simp only [Value.slice.injEq] at e; obtain ⟨rfl, hl, rfl⟩ := e; obtain ⟨b, o, e, k⟩ := hs i (by omega); exact ⟨b, o, e, hx.keep k⟩)
          have X6 : Ext w w6 := (hx3.trans hx5).trans hx6; clear HV4 hu5 hx5 hx6 HV3; by_cases hal : sumI sums ≤ amount
          · skip
            have hdl : decide (amount < sumI sums) = false := decide_eq_false (by omega)
            have hmin : ∀ w, (Builtin.min_ #[3, 3] 3 #[.int .i64 amount, .int .i64 (sumI sums)]).run Tryz.prog w = .ok (.int .i64 (sumI sums)) w := fun w => by
              have e : (if sumI sums < amount then sumI sums else amount) = sumI sums := by split <;> omega
              conv => rhs; rw [← e]
              simp [go_sem]
            have HFN : Hid (sumI sl = sumI sums) := Lib.hid (by rw [HSM.out]; omega); have HLT : Hid (∀ i, i < sums.length → 0 ≤ sl.getD i 0 ∧ sl.getD i 0 ≤ sums.getD i 0) := Lib.hid (fun i hi => ⟨(HSA.out i hi).1, (HSA.out i hi).2.1⟩); clear HSA HSM hal; generalize sumI sums = al at *; (go_wp2_with fail); go_loopw [10, 11] (fun s10 s11 wr => ∃ i : Nat, i ≤ sums.length ∧ s11 = .int .i64 i ∧ s10 = .int .i64 (sumI (sl.take i)) ∧ Ext w6 wr) (fun _ s _ => sums.length - (intOf s).toNat)
            case atStart => exact ⟨0, Nat.zero_le _, rfl, by rw [HZ.out.2], Ext.refl _⟩
            case round =>
              obtain ⟨i, hia, rfl, rfl, hx⟩ := hrel; obtain ⟨wo, rfl⟩ : ∃ x, x = wr := ⟨_, rfl⟩; by_cases hla : i < sums.length
              · obtain ⟨b1, o1, rfl, q1⟩ := HR.out wo (X6.trans hx) i hla; obtain ⟨b2, o2, rfl, q2⟩ := HR6.out wo hx i hla; have g0 : (0 : Int) ≤ (i : Int) := by omega
                have g1 : (i : Int) < (sums.length : Int) := by omega
                have HN := Lib.hid (HSL.out i hla); have hb1 := HBL.out i; have hb2 := HBL.out (i + 1); rw [HN.out] at hb2; have hlt := HLT.out i hla; generalize sums.getD i 0 = x at *; generalize sl.getD i 0 = y at *; generalize sumI (sl.take i) = sb at *; have hw : IntKind.i64.wrap (sb + y) = sb + y := IntWalk.i64_in _ (by omega); have d1 : decide (y < 0) = false := decide_eq_false (by omega); have d2 : decide (x < y) = false := decide_eq_false (by omega); clear hlt hb1 hb2; (go_wp2_with fail); go_region; (go_wp2_with fail); go_roundw
                case rel => exact ⟨i + 1, by omega, by go_num, by rw [HN.out], hx.drew⟩
                case measure => simp [intOf]; omega
              · obtain rfl : i = sums.length := by omega
                have HFX := Lib.hid (HFN.out); rw [HAS.out, HFN.out]; have X7 := X6.trans hx; clear hla; (go_wp2_with fail); (with_reducible refine (HAW.out _).mono ?_); rintro e w8 ⟨rfl, hx8⟩; (go_wp2_with fail); go_ret; exact ⟨rfl, X7.trans hx8⟩
          · skip
            have hdl : decide (amount < sumI sums) = true := decide_eq_true (by omega)
            have hmin : ∀ w, (Builtin.min_ #[3, 3] 3 #[.int .i64 amount, .int .i64 (sumI sums)]).run Tryz.prog w = .ok (.int .i64 amount) w := fun w => by
              have e : (if sumI sums < amount then sumI sums else amount) = amount := by split <;> omega
              conv => rhs; rw [← e]
              simp [go_sem]
            have HFN : Hid (sumI sl = amount) := Lib.hid (by rw [HSM.out]; omega); have hm1 := HM.out
            have HLT : Hid (∀ i, i < sums.length → (0 ≤ sl.getD i 0 ∧ sl.getD i 0 ≤ sums.getD i 0) ∧ (0 ≤ sl.getD i 0 * sumI sums ∧ sl.getD i 0 * sumI sums ≤ 75000000) ∧ (0 ≤ amount * sums.getD i 0 ∧ amount * sums.getD i 0 ≤ 5000000) ∧ sl.getD i 0 * sumI sums < amount * sums.getD i 0 + sumI sums ∧ amount * sums.getD i 0 - sumI sums < sl.getD i 0 * sumI sums) := Lib.hid (fun i hi => by
              have k1 := HSA.out i hi; have k2 := k1.2.2 (by omega); have k3 := (HXI.out i hi).1; have k4 : 0 ≤ sl.getD i 0 * sumI sums := Int.mul_nonneg k1.1 (by omega); have k5 : sl.getD i 0 * sumI sums ≤ 5000 * 15000 := Int.mul_le_mul (by omega) (by omega) (by omega) (by omega); have k6 : 0 ≤ amount * sums.getD i 0 := Int.mul_nonneg hm1.1 k3.1; have k7 : amount * sums.getD i 0 ≤ 1000 * 5000 := Int.mul_le_mul hm1.2 k3.2 k3.1 (by omega); exact ⟨⟨k1.1, k1.2.1⟩, ⟨k4, by omega⟩, ⟨k6, by omega⟩, k2.1, k2.2⟩)
            clear hm1; clear HSA HSM hal; generalize sumI sums = al at *; (go_wp2_with fail); go_loopw [10, 11] (fun s10 s11 wr => ∃ i : Nat, i ≤ sums.length ∧ s11 = .int .i64 i ∧ s10 = .int .i64 (sumI (sl.take i)) ∧ Ext w6 wr) (fun _ s _ => sums.length - (intOf s).toNat)
            case atStart => exact ⟨0, Nat.zero_le _, rfl, by rw [HZ.out.2], Ext.refl _⟩
            case round =>
              obtain ⟨i, hia, rfl, rfl, hx⟩ := hrel; obtain ⟨wo, rfl⟩ : ∃ x, x = wr := ⟨_, rfl⟩; by_cases hla : i < sums.length
              · obtain ⟨b1, o1, rfl, q1⟩ := HR.out wo (X6.trans hx) i hla; obtain ⟨b2, o2, rfl, q2⟩ := HR6.out wo hx i hla; have g0 : (0 : Int) ≤ (i : Int) := by omega
                have g1 : (i : Int) < (sums.length : Int) := by omega
                have HN := Lib.hid (HSL.out i hla); have hb1 := HBL.out i; have hb2 := HBL.out (i + 1); rw [HN.out] at hb2; have hlt := HLT.out i hla; generalize sums.getD i 0 = x at *; generalize sl.getD i 0 = y at *; generalize sumI (sl.take i) = sb at *; have hw : IntKind.i64.wrap (sb + y) = sb + y := IntWalk.i64_in _ (by omega); have d1 : decide (y < 0) = false := decide_eq_false (by omega); have d2 : decide (x < y) = false := decide_eq_false (by omega); obtain ⟨m1, hm1⟩ : ∃ z, z = y * al := ⟨_, rfl⟩; obtain ⟨m2, hm2⟩ : ∃ z, z = amount * x := ⟨_, rfl⟩; rw [← hm1, ← hm2] at hlt; have w1 : IntKind.i64.wrap (y * al) = m1 := by rw [← hm1]; exact IntWalk.i64_in _ (by omega)
                have w2 : IntKind.i64.wrap (amount * x) = m2 := by rw [← hm2]; exact IntWalk.i64_in _ (by omega)
                have w3 : IntKind.i64.wrap (m2 + al) = m2 + al := IntWalk.i64_in _ (by omega); have w4 : IntKind.i64.wrap (m2 - al) = m2 - al := IntWalk.i64_in _ (by omega); have d3 : decide (m2 + al ≤ m1) = false := decide_eq_false (by omega); have d4 : decide (m1 ≤ m2 - al) = false := decide_eq_false (by omega); clear hm1 hm2; clear hlt hb1 hb2; (go_wp2_with fail); go_region; (go_wp2_with fail); go_roundw
                case rel => exact ⟨i + 1, by omega, by go_num, by rw [HN.out], hx.drew⟩
                case measure => simp [intOf]; omega
              · obtain rfl : i = sums.length := by omega
                have HFX := Lib.hid (HFN.out); rw [HAS.out, HFN.out]; have X7 := X6.trans hx; clear hla; (go_wp2_with fail); (with_reducible refine (HAW.out _).mono ?_); rintro e w8 ⟨rfl, hx8⟩; (go_wp2_with fail); go_ret; exact ⟨rfl, X7.trans hx8⟩
    · skip
      have HSB : Hid (∀ v' W, IntsV W v' sums → Calls Tryz.prog 19 #[.int .i64 amount, v'] W fun e w' => e = .returned (.tuple #[.slice none 0 0, .int .i64 (settleE amount sums)]) ∧ Ext W w') := Lib.hid (fun v' W hv' => Settle_bad amount v' sums W hv' (by omega) hE); have hcs := settleE_cases amount sums hE; generalize settleE amount sums = E at *; have XX : Ext w w := Ext.refl w; have hd6 : decide ((6 : Int) < (sums.length : Int)) = false := decide_eq_false (by omega); clear hV hR hv hr hE; rcases hcs with ⟨h3, rfl⟩ | ⟨h3, rfl, hcs⟩
      · have hd3 : decide ((3 : Int) < (sums.length : Int)) = true := decide_eq_true (by omega); have hlt : decide ((0 : Int) < (sums.length : Int)) = true := decide_eq_true (by omega); have hlt2 : decide (0 < sums.length) = true := decide_eq_true (by omega); go_enter Tryz.func3, Tryz.ntmps3
        (go_wp2_with fail); (with_reducible refine (HLI.out _ XX).mono ?_); rintro e w1 ⟨v1, rfl, hv1, hx⟩; have hy : Ext w w1 := by (repeat (first | exact Ext.refl _ | with_reducible (first | assumption | refine Ext.drew ?_ | refine Ext.alloc ?_ _ | refine Ext.drewN ?_ _ | refine Ext.setCell ?_ (by omega) _ | refine Ext.trans ?_ (by assumption))))
        replace XX := XX.trans hy; clear hx hy; (go_wp2_with fail); (with_reducible refine (HSB.out _ _ hv1).mono ?_); rintro e w2 ⟨rfl, hx⟩; have hy : Ext w1 w2 := by (repeat (first | exact Ext.refl _ | with_reducible (first | assumption | refine Ext.drew ?_ | refine Ext.alloc ?_ _ | refine Ext.drewN ?_ _ | refine Ext.setCell ?_ (by omega) _ | refine Ext.trans ?_ (by assumption))))
        replace XX := XX.trans hy; clear hx hy; clear hv1; (go_wp2_with fail); go_loopw [7, 8, 9] (fun s7 s8 s9 wr => s7 = .int .i64 3 ∧ s8 = .int .i64 0 ∧ s9 = .int .i64 0 ∧ Ext w2 wr) (fun _ _ _ _ => 0)
        case atStart => exact ⟨rfl, rfl, rfl, Ext.refl _⟩
        case round =>
          obtain ⟨rfl, rfl, rfl, hx⟩ := hrel; obtain ⟨wo, rfl⟩ : ∃ x, x = wr := ⟨_, rfl⟩; have X3 := XX.trans hx; (go_wp2_with fail); (with_reducible refine (HAW.out _).mono ?_); rintro e w8 ⟨rfl, hx8⟩; (go_wp2_with fail); go_ret; exact ⟨rfl, by (repeat (first | exact Ext.refl _ | with_reducible (first | assumption | refine Ext.drew ?_ | refine Ext.alloc ?_ _ | refine Ext.drewN ?_ _ | refine Ext.setCell ?_ (by omega) _ | refine Ext.trans ?_ (by assumption))))⟩
      · have hd3 : decide ((3 : Int) < (sums.length : Int)) = false := decide_eq_false (by omega); rcases hcs with hin | ⟨hin, hl0⟩ | ⟨hin, hl0, hnot⟩
        · skip
          by_cases hl0 : sums.length = 0
          · have hlt : decide ((0 : Int) < (sums.length : Int)) = false := decide_eq_false (by omega); have hlt2 : decide (0 < sums.length) = false := decide_eq_false (by omega); have HL0 := Lib.hid hl0; clear hl0; go_enter Tryz.func3, Tryz.ntmps3
            (go_wp2_with fail); (with_reducible refine (HLI.out _ XX).mono ?_); rintro e w1 ⟨v1, rfl, hv1, hx⟩; have hy : Ext w w1 := by (repeat (first | exact Ext.refl _ | with_reducible (first | assumption | refine Ext.drew ?_ | refine Ext.alloc ?_ _ | refine Ext.drewN ?_ _ | refine Ext.setCell ?_ (by omega) _ | refine Ext.trans ?_ (by assumption))))
            replace XX := XX.trans hy; clear hx hy; (go_wp2_with fail); (with_reducible refine (HSB.out _ _ hv1).mono ?_); rintro e w2 ⟨rfl, hx⟩; have hy : Ext w1 w2 := by (repeat (first | exact Ext.refl _ | with_reducible (first | assumption | refine Ext.drew ?_ | refine Ext.alloc ?_ _ | refine Ext.drewN ?_ _ | refine Ext.setCell ?_ (by omega) _ | refine Ext.trans ?_ (by assumption))))
            replace XX := XX.trans hy; clear hx hy; clear hv1; (go_wp2_with fail); (with_reducible refine (HIN.out _ _ _ _).mono ?_); rintro e w3 ⟨hre, hx⟩; have hy : Ext w2 w3 := by (repeat (first | exact Ext.refl _ | with_reducible (first | assumption | refine Ext.drew ?_ | refine Ext.alloc ?_ _ | refine Ext.drewN ?_ _ | refine Ext.setCell ?_ (by omega) _ | refine Ext.trans ?_ (by assumption))))
            replace XX := XX.trans hy; clear hx hy; rw [hin] at hre; subst hre; (go_wp2_with fail); go_loopw [7, 8, 9] (fun s7 s8 s9 wr => s7 = .int .i64 1 ∧ s8 = .int .i64 0 ∧ s9 = .int .i64 0 ∧ Ext w3 wr) (fun _ _ _ _ => 0)
            case atStart => exact ⟨rfl, rfl, rfl, Ext.refl _⟩
            case round =>
              obtain ⟨rfl, rfl, rfl, hx⟩ := hrel; obtain ⟨wo, rfl⟩ : ∃ x, x = wr := ⟨_, rfl⟩; have X3 := XX.trans hx; (go_wp2_with fail); (with_reducible refine (HAW.out _).mono ?_); rintro e w8 ⟨rfl, hx8⟩; (go_wp2_with fail); go_ret; exact ⟨rfl, by (repeat (first | exact Ext.refl _ | with_reducible (first | assumption | refine Ext.drew ?_ | refine Ext.alloc ?_ _ | refine Ext.drewN ?_ _ | refine Ext.setCell ?_ (by omega) _ | refine Ext.trans ?_ (by assumption))))⟩
          · have hlt : decide ((0 : Int) < (sums.length : Int)) = true := decide_eq_true (by omega); have hlt2 : decide (0 < sums.length) = true := decide_eq_true (by omega); clear hl0; go_enter Tryz.func3, Tryz.ntmps3
            (go_wp2_with fail); (with_reducible refine (HLI.out _ XX).mono ?_); rintro e w1 ⟨v1, rfl, hv1, hx⟩; have hy : Ext w w1 := by (repeat (first | exact Ext.refl _ | with_reducible (first | assumption | refine Ext.drew ?_ | refine Ext.alloc ?_ _ | refine Ext.drewN ?_ _ | refine Ext.setCell ?_ (by omega) _ | refine Ext.trans ?_ (by assumption))))
            replace XX := XX.trans hy; clear hx hy; (go_wp2_with fail); (with_reducible refine (HSB.out _ _ hv1).mono ?_); rintro e w2 ⟨rfl, hx⟩; have hy : Ext w1 w2 := by (repeat (first | exact Ext.refl _ | with_reducible (first | assumption | refine Ext.drew ?_ | refine Ext.alloc ?_ _ | refine Ext.drewN ?_ _ | refine Ext.setCell ?_ (by omega) _ | refine Ext.trans ?_ (by assumption))))
            replace XX := XX.trans hy; clear hx hy; clear hv1; (go_wp2_with fail); (with_reducible refine (HIN.out _ _ _ _).mono ?_); rintro e w3 ⟨hre, hx⟩; have hy : Ext w2 w3 := by (repeat (first | exact Ext.refl _ | with_reducible (first | assumption | refine Ext.drew ?_ | refine Ext.alloc ?_ _ | refine Ext.drewN ?_ _ | refine Ext.setCell ?_ (by omega) _ | refine Ext.trans ?_ (by assumption))))
            replace XX := XX.trans hy; clear hx hy; rw [hin] at hre; subst hre; (go_wp2_with fail); go_loopw [7, 8, 9] (fun s7 s8 s9 wr => s7 = .int .i64 1 ∧ s8 = .int .i64 0 ∧ s9 = .int .i64 0 ∧ Ext w3 wr) (fun _ _ _ _ => 0)
            case atStart => exact ⟨rfl, rfl, rfl, Ext.refl _⟩
            case round =>
              obtain ⟨rfl, rfl, rfl, hx⟩ := hrel; obtain ⟨wo, rfl⟩ : ∃ x, x = wr := ⟨_, rfl⟩; have X3 := XX.trans hx; (go_wp2_with fail); (with_reducible refine (HAW.out _).mono ?_); rintro e w8 ⟨rfl, hx8⟩; (go_wp2_with fail); go_ret; exact ⟨rfl, by (repeat (first | exact Ext.refl _ | with_reducible (first | assumption | refine Ext.drew ?_ | refine Ext.alloc ?_ _ | refine Ext.drewN ?_ _ | refine Ext.setCell ?_ (by omega) _ | refine Ext.trans ?_ (by assumption))))⟩
        · have hlt : decide ((0 : Int) < (sums.length : Int)) = false := decide_eq_false (by omega); have hlt2 : decide (0 < sums.length) = false := decide_eq_false (by omega); have HL0 := Lib.hid hl0; have hd0 : ((sums.length : Int) == 0) = true := by rw [beq_iff_eq]; omega
          clear hl0; go_enter Tryz.func3, Tryz.ntmps3
          (go_wp2_with fail); (with_reducible refine (HLI.out _ XX).mono ?_); rintro e w1 ⟨v1, rfl, hv1, hx⟩; have hy : Ext w w1 := by (repeat (first | exact Ext.refl _ | with_reducible (first | assumption | refine Ext.drew ?_ | refine Ext.alloc ?_ _ | refine Ext.drewN ?_ _ | refine Ext.setCell ?_ (by omega) _ | refine Ext.trans ?_ (by assumption))))
          replace XX := XX.trans hy; clear hx hy; (go_wp2_with fail); (with_reducible refine (HSB.out _ _ hv1).mono ?_); rintro e w2 ⟨rfl, hx⟩; have hy : Ext w1 w2 := by (repeat (first | exact Ext.refl _ | with_reducible (first | assumption | refine Ext.drew ?_ | refine Ext.alloc ?_ _ | refine Ext.drewN ?_ _ | refine Ext.setCell ?_ (by omega) _ | refine Ext.trans ?_ (by assumption))))
          replace XX := XX.trans hy; clear hx hy; clear hv1; (go_wp2_with fail); (with_reducible refine (HIN.out _ _ _ _).mono ?_); rintro e w3 ⟨hre, hx⟩; have hy : Ext w2 w3 := by (repeat (first | exact Ext.refl _ | with_reducible (first | assumption | refine Ext.drew ?_ | refine Ext.alloc ?_ _ | refine Ext.drewN ?_ _ | refine Ext.setCell ?_ (by omega) _ | refine Ext.trans ?_ (by assumption))))
          replace XX := XX.trans hy; clear hx hy; rw [hin] at hre; subst hre; (go_wp2_with fail); go_loopw [7, 8, 9] (fun s7 s8 s9 wr => s7 = .int .i64 1 ∧ s8 = .int .i64 0 ∧ s9 = .int .i64 0 ∧ Ext w3 wr) (fun _ _ _ _ => 0)
          case atStart => exact ⟨rfl, rfl, rfl, Ext.refl _⟩
          case round =>
            obtain ⟨rfl, rfl, rfl, hx⟩ := hrel; obtain ⟨wo, rfl⟩ : ∃ x, x = wr := ⟨_, rfl⟩; have X3 := XX.trans hx; (go_wp2_with fail); (with_reducible refine (HAW.out _).mono ?_); rintro e w8 ⟨rfl, hx8⟩; (go_wp2_with fail); go_ret; exact ⟨rfl, by (repeat (first | exact Ext.refl _ | with_reducible (first | assumption | refine Ext.drew ?_ | refine Ext.alloc ?_ _ | refine Ext.drewN ?_ _ | refine Ext.setCell ?_ (by omega) _ | refine Ext.trans ?_ (by assumption))))⟩
        · have hd0 : ((sums.length : Int) == 0) = false := by rw [beq_eq_false_iff_ne]; omega
          have HNOT : Hid (¬ ∀ x ∈ sums.take sums.length, inR x 0 5000 = true) := Lib.hid (by rw [List.take_length]; exact hnot); clear hl0 hnot; go_enter Tryz.func3, Tryz.ntmps3
          (go_wp2_with fail); (with_reducible refine (HLI.out _ XX).mono ?_); rintro e w1 ⟨v1, rfl, hv1, hx⟩; have hy : Ext w w1 := by (repeat (first | exact Ext.refl _ | with_reducible (first | assumption | refine Ext.drew ?_ | refine Ext.alloc ?_ _ | refine Ext.drewN ?_ _ | refine Ext.setCell ?_ (by omega) _ | refine Ext.trans ?_ (by assumption))))
          replace XX := XX.trans hy; clear hx hy; (go_wp2_with fail); (with_reducible refine (HSB.out _ _ hv1).mono ?_); rintro e w2 ⟨rfl, hx⟩; have hy : Ext w1 w2 := by (repeat (first | exact Ext.refl _ | with_reducible (first | assumption | refine Ext.drew ?_ | refine Ext.alloc ?_ _ | refine Ext.drewN ?_ _ | refine Ext.setCell ?_ (by omega) _ | refine Ext.trans ?_ (by assumption))))
          replace XX := XX.trans hy; clear hx hy; clear hv1; (go_wp2_with fail); (with_reducible refine (HIN.out _ _ _ _).mono ?_); rintro e w3 ⟨hre, hx⟩; have hy : Ext w2 w3 := by (repeat (first | exact Ext.refl _ | with_reducible (first | assumption | refine Ext.drew ?_ | refine Ext.alloc ?_ _ | refine Ext.drewN ?_ _ | refine Ext.setCell ?_ (by omega) _ | refine Ext.trans ?_ (by assumption))))
          replace XX := XX.trans hy; clear hx hy; rw [hin] at hre; subst hre; (go_wp2_with fail); go_loopw [7, 8, 9] (fun s7 s8 s9 wr => ∃ i : Nat, i ≤ sums.length ∧ s9 = .int .i64 i ∧ ((s7 = .int .i64 0 ∧ Hid (∀ x ∈ sums.take i, inR x 0 5000 = true) ∧ s8 = .int .i64 (sumI (sums.take i)) ∧ Hid (0 ≤ sumI (sums.take i) ∧ sumI (sums.take i) ≤ 5000 * i)) ∨ (s7 = .int .i64 1 ∧ ∃ z, s8 = .int .i64 z)) ∧ Ext w3 wr) (fun _ _ s _ => sums.length - (intOf s).toNat)
          case atStart => exact ⟨0, Nat.zero_le _, rfl, .inl ⟨rfl, Lib.hid (by simp), by simp [sumI], Lib.hid (by simp [sumI])⟩, Ext.refl _⟩
          case round =>
            obtain ⟨i, hia, rfl, hc, hx⟩ := hrel; obtain ⟨wo, rfl⟩ : ∃ x, x = wr := ⟨_, rfl⟩; have X3 := XX.trans hx; rcases hc with ⟨rfl, HA, rfl, HB⟩ | ⟨rfl, z, rfl⟩
            · by_cases hla : i < sums.length
              · obtain ⟨b1, o1, rfl, q1⟩ := HR.out wo X3 i hla; have g0 : (0 : Int) ≤ (i : Int) := by omega
                have g1 : (i : Int) < (sums.length : Int) := by omega
                have HN : Hid (sumI (sums.take (i + 1)) = sumI (sums.take i) + sums.getD i 0) := Lib.hid (sumI_take hla); have hb := HB.out; cases hxi : inR (sums.getD i 0) 0 5000 with
                | true =>
                  have HA2 := Lib.hid (all_take hla HA.out hxi); have hxb := inR_iff.1 hxi; have HB2 : Hid (0 ≤ sumI (sums.take (i + 1)) ∧ sumI (sums.take (i + 1)) ≤ 5000 * ((i + 1 : Nat) : Int)) := Lib.hid (by rw [HN.out]; omega); generalize sums.getD i 0 = x at *; generalize sumI (sums.take i) = sb at *; have hw : IntKind.i64.wrap (sb + x) = sb + x := IntWalk.i64_in _ (by omega); (go_wp2_with fail); (with_reducible refine (HIN.out _ _ _ _).mono ?_); rintro e w4 ⟨hre, hx4⟩; rw [hxi] at hre; subst hre; replace q1 := hx4.keep q1; (go_wp2_with fail); go_roundw
                  case rel => exact ⟨i + 1, by omega, by go_num, .inl ⟨rfl, HA2, by rw [HN.out], HB2⟩, hx.trans hx4⟩
                  case measure => simp [intOf]; omega
                | false =>
                  obtain ⟨z, hz⟩ : ∃ z, IntKind.i64.wrap (sumI (sums.take i) + sums.getD i 0) = z := ⟨_, rfl⟩; generalize sums.getD i 0 = x at *; generalize sumI (sums.take i) = sb at *; (go_wp2_with fail); (with_reducible refine (HIN.out _ _ _ _).mono ?_); rintro e w4 ⟨hre, hx4⟩; rw [hxi] at hre; subst hre; replace q1 := hx4.keep q1; (go_wp2_with fail); go_roundw
                  case rel => exact ⟨i + 1, by omega, by go_num, .inr ⟨rfl, _, rfl⟩, hx.trans hx4⟩
                  case measure => simp [intOf]; omega
              · exfalso
                have e : i = sums.length := by omega
                rw [e] at HA; exact HNOT.out HA.out
            · by_cases hla : i < sums.length
              · have g1 : (i : Int) < (sums.length : Int) := by omega
                (go_wp2_with fail); (with_reducible refine (HAW.out _).mono ?_); rintro e w8 ⟨rfl, hx8⟩; (go_wp2_with fail); go_ret; exact ⟨rfl, by (repeat (first | exact Ext.refl _ | with_reducible (first | assumption | refine Ext.drew ?_ | refine Ext.alloc ?_ _ | refine Ext.drewN ?_ _ | refine Ext.setCell ?_ (by omega) _ | refine Ext.trans ?_ (by assumption))))⟩
              · have g1 : ¬ ((i : Int) < (sums.length : Int)) := by omega
                (go_wp2_with fail); (with_reducible refine (HAW.out _).mono ?_); rintro e w8 ⟨rfl, hx8⟩; (go_wp2_with fail); go_ret; exact ⟨rfl, by (repeat (first | exact Ext.refl _ | with_reducible (first | assumption | refine Ext.drew ?_ | refine Ext.alloc ?_ _ | refine Ext.drewN ?_ _ | refine Ext.setCell ?_ (by omega) _ | refine Ext.trans ?_ (by assumption))))⟩
  · have hd : ((sums.length : Int) > 6) := by omega
    go_enter Tryz.func3, Tryz.ntmps3
    (go_wp2_with fail); (with_reducible refine (HAW.out _).mono ?_); rintro e w1 ⟨rfl, hx1⟩; (go_wp2_with fail); go_ret; exact ⟨rfl, by (repeat (first | exact Ext.refl _ | with_reducible (first | assumption | refine Ext.drew ?_ | refine Ext.alloc ?_ _ | refine Ext.drewN ?_ _ | refine Ext.setCell ?_ (by omega) _ | refine Ext.trans ?_ (by assumption))))⟩
theorem walk_DoubleSettles (amount : Int) (v : Value) (sums : List Int) (w : World) (_ : (Lit.int .i64 amount).wf = true) (hv : IntsW w v sums) :
    Calls Tryz.prog 3 #[.int .i64 amount, v] w fun e w' => e = .returned (.bool true) ∧ Below w.heap.size w w' :=
  (settles_ext amount v sums w hv).mono (fun e w' h => ⟨h.1, h.2⟩)
end Go.Proofs.YtegkdnfeceomdaaGreat
