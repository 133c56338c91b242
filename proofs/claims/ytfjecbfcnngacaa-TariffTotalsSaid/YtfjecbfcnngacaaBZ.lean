/- The walk of TariffTotals. -/
import Derived.Test.YtfjecbfcnngacaaBY
import Derived.Test.YtfjecbfcnngacaaBK
import Derived.RegionTactic
import Derived.BigRegion
import Derived.Deep.CutRange
import Derived.Deep.DeepCutAuto
namespace Go.Proofs.Ytfjecbfcnngacaa
open Go.RowKit Go.Hs
attribute [local irreducible] World.setCell World.alloc

theorem run_max_i64' {x y z : Int} (h : z = if x < y then y else x) (ats : Array TypeId) (ty : TypeId) (w : World) : (Builtin.max_ ats ty #[.int .i64 x, .int .i64 y]).run Try.prog w = .ok (.int .i64 z) w := by
  rw [h]; rfl
/-- What holds between two rounds of the reference's sum. -/
structure SumI (l : List Tar) (cs : List Cla) (w : World) (B S k : Nat) (W : World) : Prop where
  ext : Ext w W
  big : B ≤ S
  cells : ∃ x y, W.cell? ⟨S, 0, none⟩ = some (.int .i64 x) ∧ W.cell? ⟨S, 1, none⟩ = some (.int .i64 y) ∧ (dueK l cs k = 0 → x = sumLo l (cs.take k) ∧ y = sumHi l (cs.take k))
  free : ∀ o, W.frozen? ⟨S, o, none⟩ = false

set_option maxRecDepth 100000 in
set_option maxHeartbeats 8000000 in
theorem walk_TariffTotals (v : Value) (l : List Tar) (vc : Value) (cs : List Cla) (crop day : Int) (w : World) (hv : TarsW w v l) (hc : ClasW w vc cs) (_ : (Lit.int .i64 crop).wf = true) (_ : (Lit.int .i64 day).wf = true) :
    Calls Try.prog 13 #[v, vc, .int .i64 crop, .int .i64 day] w fun e w' => e = .returned (.bool true) ∧ Ext w w' := by
  have HAW : Hid (∀ W, Calls Try.prog 19 #[] W fun e w' => e = .returned (.bool true) ∧ Ext W w') := awake_any
  have hth := Thin_any v l w hv
  have hcw := hc
  obtain ⟨ac, kc, rfl, hc1, hc2, -⟩ := hc
  cases ht : thinB l with
  | false =>
    rw [ht] at hth
    obtain ⟨a, k, rfl, -⟩ := hv
    clear ht hcw
    generalize cs.length = n at *
    go_enter Try.func13, Try.ntmps13
    go_wp2_with fail
    (with_reducible refine hth.mono ?_)
    rintro e w1 ⟨rfl, hw1⟩
    subst hw1
    go_wp2_with fail
    (with_reducible refine (HAW.out _).mono ?_)
    rintro e w2 ⟨rfl, hx2⟩
    go_wp2_with fail
    go_ret
    exact ⟨rfl, hx2⟩
  | true =>
    rw [ht] at hth
    have hvv := hv.toV ht
    by_cases h7 : 7 < cs.length
    · obtain ⟨a, k, rfl, -⟩ := hv
      clear ht hcw hvv
      generalize cs.length = n at *
      go_enter Try.func13, Try.ntmps13
      go_wp2_with fail
      (with_reducible refine hth.mono ?_)
      rintro e w1 ⟨rfl, hw1⟩
      subst hw1
      go_wp2_with fail
      (with_reducible refine (HAW.out _).mono ?_)
      rintro e w2 ⟨rfl, hx2⟩
      go_wp2_with fail
      go_ret
      exact ⟨rfl, hx2⟩
    · have hcv := hcw.toV (by omega)
      have hn7 : cs.length ≤ 7 := by omega
      have HTA : Hid (∀ W, Ext w W → Calls Try.prog 21 #[v] W fun e w' => ∃ v', e = .returned v' ∧ TarsV w' v' l ∧ Ext W w') := fun W hx => Tariffs_any v l W (hvv.ext hx) ht
      have HLE : Hid (∀ v' W, TarsV W v' l → Calls Try.prog 40 #[v', .int .i64 crop, .int .i64 day] W fun e w' => e = .returned (.tuple #[.int .i64 (maxS (firstS l crop day)), .int .i64 (wantS l crop day)]) ∧ Ext W w') := fun v' W h => leastR_eq l crop day ▸ Least_any v' l crop day W h
      have HCS : Hid (∀ W, Ext w W → Calls Try.prog 49 #[.slice ac cs.length kc] W fun e w' => ∃ v', e = .returned v' ∧ ClasV Cla.u w' v' cs ∧ Ext W w') := fun W hx => Claims_any _ cs W (hcv.ext hx) hn7
      have HTO : Hid (∀ v' vc' W, TarsV W v' l → ClasV Cla.u W vc' cs → Calls Try.prog 48 #[v', vc'] W fun e w' => e = .returned (.tuple #[.agg #[.int .i64 (totLo l cs), .int .i64 (totHi l cs)], .int .i64 (totE l cs)]) ∧ Ext W w') := fun v' vc' W h h' => Total_any v' vc' l cs W h h'
      have HFA : Hid (∀ W, Ext w W → Calls Try.prog 22 #[v] W fun e w' => e = .returned (.int .i64 (checkS l)) ∧ Ext W w') := fun W hx => fault_any v l W (hvv.ext hx)
      have HCR : Hid (checkS l = 0 → ∀ W, Ext w W → Calls Try.prog 25 #[v] W fun e w' => e = .returned (.int .i64 (cropsN l)) ∧ Ext W w') := fun h W hx => (Crops_any v l W (hvv.ext hx) (validL_of h).pos).mono fun e w' h => ⟨h.1, h.2 ▸ Ext.refl _⟩
      have HI1 : Hid (∀ W, Calls Try.prog 24 #[.int .i64 crop, .int .i64 0, .int .i64 ((cropsN l : Int) - 1)] W fun e w' => e = .returned (.bool (inR crop 0 ((cropsN l : Int) - 1))) ∧ Ext W w') := fun W => (In_any _ _ _ W).mono fun e w' h => ⟨h.1, h.2 ▸ Ext.refl _⟩
      have HI2 : Hid (∀ W, Calls Try.prog 24 #[.int .i64 day, .int .i64 0, .int .i64 120] W fun e w' => e = .returned (.bool (inR day 0 120)) ∧ Ext W w') := fun W => (In_any _ _ _ W).mono fun e w' h => ⟨h.1, h.2 ▸ Ext.refl _⟩
      have HRL : Hid (checkS l = 0 → (inR crop 0 ((cropsN l : Int) - 1) && inR day 0 120) = true → ∀ W, Ext w W → Calls Try.prog 50 #[v, .int .i64 crop, .int .i64 day] W fun e w' => e = .returned (.int .i64 (leastI (leastS l crop day))) ∧ Ext W w') := fun h h' W hx => by
        simp only [Bool.and_eq_true, inR_iff] at h'
        exact RefLeast_any v l crop day W (hvv.ext hx) (validL_of h) h'.1.1 (by omega) h'.2.1
      have HCL : Hid (∀ c W, Ext w W → Calls Try.prog 31 #[v, c.u.val] W fun e w' => e = .returned (.int .i64 (askS1 l c)) ∧ Ext W w') := fun c W hx => claimed_any v l c W (hvv.ext hx)
      have HRB : Hid (∀ c W, Ext w W → ValidL l → ClaimOK l c → Calls Try.prog 32 #[v, c.u.val] W fun e w' =>
      e = .returned (.tuple #[.agg #[.int .i64 (endsS l c).lo, .int .i64 (endsS l c).hi], .agg #[.int .i64 (endsS l c).ld, .int .i64 (endsS l c).ln], .agg #[.int .i64 (endsS l c).hd, .int .i64 (endsS l c).hn]]) ∧ Ext W w') := fun c W hx h1 h2 => RefBounds_any v l c W (hvv.ext hx) h1 h2
      have HT2 : Hid (∀ a b W, Calls Try.prog 33 #[.agg #[.int .i64 a, .int .i64 b]] W fun e w' => e = .returned (.agg #[.int .i64 a, .int .i64 b]) ∧ Ext W w') := fun a b W => to_any a b W
      have hmax : ∀ w, (Builtin.max_ #[3, 3] 3 #[.int .i64 (firstS l crop day), .int .i64 0]).run Try.prog w = .ok (.int .i64 (maxS (firstS l crop day))) w := fun w => run_max_i64' rfl _ _ w
      have HCV := Lib.hid hcv
      have hcn : ∀ h : checkS l = 0, (1 : Int) ≤ cropsN l ∧ (cropsN l : Int) ≤ 3 := fun h => by
        have hl := validL_of h
        have h1 : 0 < cropsN l := (validB_iff.1 (hl.valid 0 hl.pos)).crops
        have h2 := hl.few 0 hl.pos
        simp only [fewB, Bool.and_eq_true, decide_eq_true_eq] at h2
        have h3 : cropsN l ≤ 3 := h2.2
        omega
      have HCN := Lib.hid hcn
      have HVC := Lib.hid (validL_of (l := l))
      obtain ⟨a, k, rfl, -⟩ := hvv
      clear hv ht hcv hcw hcn
      have hc3 : Cells6 w ac (cs.map Cla.u) := by
        obtain ⟨a', c', he, -, -, h3⟩ := HCV.out
        cases he
        exact h3
      have HC3 := Lib.hid hc3
      clear hc3 HCV
      have HTE : Hid ((totE l cs ≠ 0 → totLo l cs = 0 ∧ totHi l cs = 0) ∧ (totE l cs = 0 → totLo l cs = sumLo l cs ∧ totHi l cs = sumHi l cs) ∧ (∀ k, k ≤ cs.length → dueK l cs k ≠ 0 → totE l cs = dueK l cs k) ∧ dueK l cs cs.length = totE l cs) := Lib.hid ⟨fun h => ⟨if_neg h, if_neg h⟩, fun h => ⟨if_pos h, if_pos h⟩, fun k h1 h2 => due_stop h2 h1, due_end l cs⟩
      generalize totE l cs = tE at *
      generalize totLo l cs = tL at *
      generalize totHi l cs = tH at *
      generalize hr : checkS l = r at *
      have HR0 := Lib.hid hr
      clear hr
      go_enter Try.func13, Try.ntmps13
      go_wp2_with fail
      (with_reducible refine hth.mono ?_)
      rintro e w1 ⟨rfl, hw1⟩
      subst hw1
      clear hth
      go_wp2_with fail
      (with_reducible refine (HTA.out _ (Ext.refl _)).mono ?_)
      rintro e w2 ⟨v2, rfl, hv2, hx2⟩
      go_wp2_with fail
      (with_reducible refine (HLE.out _ _ hv2).mono ?_)
      rintro e w3 ⟨rfl, hx3⟩
      have X3 := hx2.trans hx3
      clear hv2
      go_wp2_with fail
      (with_reducible refine (HTA.out _ X3).mono ?_)
      rintro e w4 ⟨v4, rfl, hv4, hx4⟩
      have X4 := X3.trans hx4
      go_wp2_with fail
      (with_reducible refine (HCS.out _ X4).mono ?_)
      rintro e w5 ⟨v5, rfl, hv5, hx5⟩
      go_wp2_with fail
      (with_reducible refine (HTO.out _ _ _ (hv4.ext hx5) hv5).mono ?_)
      rintro e w6 ⟨rfl, hx6⟩
      have X6 : Ext w w6 := X4.trans (hx5.trans hx6)
      clear hv4 hv5 hx2 hx3 hx4 hx5 hx6 X3 X4 HLE HCS HTO HTA
      go_wp2_with fail
      have X6' : Ext w (w6.alloc (.cells #[.int .i64 (tL), .int .i64 (tH)] 40)) := by (repeat (first | exact Ext.refl _ | (with_reducible assumption) | (with_reducible refine Ext.drew ?_) | (with_reducible refine Ext.alloc ?_ _) | (with_reducible refine Ext.drewN ?_ _) | (with_reducible refine Ext.setCell ?_ (by omega) _) | (with_reducible refine Ext.trans ?_ (by with_reducible assumption))))
      (with_reducible refine (HFA.out _ X6').mono ?_)
      rintro e w7 ⟨rfl, hx7⟩
      go_wp2_with fail
      (with_reducible refine (HFA.out _ (X6'.trans hx7)).mono ?_)
      rintro e w8 ⟨rfl, hx8⟩
      have hx9 := hx7.trans hx8
      have q0 := hx9.keep (k := w6.heap.size) (o := 0) (v := .int .i64 (tL)) (by simp)
      have q1 := hx9.keep (k := w6.heap.size) (o := 1) (v := .int .i64 (tH)) (by simp)
      have X8 : Ext w w8 := X6'.trans hx9
      clear hx7 hx8 hx9 X6' HFA
      generalize hR : w6.heap.size = R at *
      clear hR
      obtain ⟨B1, hB1⟩ : ∃ b, b = (decide (r = 0) && !(inR crop 0 ((cropsN l : Int) - 1) && inR day 0 120)) := ⟨_, rfl⟩
      have HB1 := Lib.hid hB1
      clear hB1
      go_upto_region 6 with fail
      go_cut [64] from 50 to 64 (fun s64 wx => s64 = .bool B1 ∧ Ext w8 wx)
      case first =>
        by_cases h0 : r = 0
        · have hcr := HCR.out h0
          obtain ⟨hcn1, hcn2⟩ := HCN.out h0
          have e1 : B1 = !(inR crop 0 ((cropsN l : Int) - 1) && inR day 0 120) := by rw [HB1.out, decide_eq_true h0, Bool.true_and]
          have HE1 := Lib.hid e1
          have hw : IntKind.i64.wrap ((cropsN l : Int) - 1) = (cropsN l : Int) - 1 := IntWalk.i64_in _ (by omega)
          clear e1
          subst h0
          cases hi : inR crop 0 ((cropsN l : Int) - 1) with
          | false =>
            have HI := Lib.hid hi
            have hi1 := HI1.out
            rw [hi] at hi1
            clear hi
            go_wp2_with fail
            (with_reducible refine (hcr _ X8).mono ?_)
            rintro e w9 ⟨rfl, hx9⟩
            go_wp2_with fail
            (with_reducible refine (hi1 _).mono ?_)
            rintro e w10 ⟨rfl, hx10⟩
            go_wp2_with fail
            go_meet
            exact ⟨by rw [HE1.out, HI.out]; rfl, hx9.trans hx10⟩
          | true =>
            have HI := Lib.hid hi
            have hi1 := HI1.out
            rw [hi] at hi1
            clear hi
            have hi2 := HI2.out
            generalize hj : inR day 0 120 = j at *
            have HJ := Lib.hid hj
            clear hj
            go_wp2_with fail
            (with_reducible refine (hcr _ X8).mono ?_)
            rintro e w9 ⟨rfl, hx9⟩
            go_wp2_with fail
            (with_reducible refine (hi1 _).mono ?_)
            rintro e w10 ⟨rfl, hx10⟩
            go_wp2_with fail
            (with_reducible refine (hi2 _).mono ?_)
            rintro e w11 ⟨rfl, hx11⟩
            go_wp2_with fail
            go_meet
            exact ⟨by rw [HE1.out, HI.out]; cases j <;> rfl, hx9.trans (hx10.trans hx11)⟩
        · have hd : (r == 0) = false := by rw [beq_eq_false_iff_ne]; exact h0
          have e1 : B1 = false := by rw [HB1.out, decide_eq_false h0]; rfl
          have HE1 := Lib.hid e1
          clear h0 e1
          go_wp2_with fail
          go_meet
          exact ⟨by rw [HE1.out], Ext.refl _⟩
      case rest =>
        obtain ⟨rfl, hxc⟩ := hcut
        obtain ⟨w9, rfl⟩ : ∃ x, x = wc := ⟨_, rfl⟩
        have X9 := X8.trans hxc
        replace q0 := hxc.keep q0
        replace q1 := hxc.keep q1
        clear hxc X8 HI1 HI2 HCR HCN
        obtain ⟨W1, hW1⟩ : ∃ x, x = (if B1 then (2 : Int) else r) := ⟨_, rfl⟩
        have HW1 := Lib.hid hW1
        clear hW1
        go_upto_if 64 with fail
        go_cut [13] (fun s13 wx => s13 = .int .i64 W1 ∧ w9 = wx)
        case first =>
          cases B1
          · go_wp2_with fail
            go_meet
            exact ⟨by rw [HW1.out]; rfl, rfl⟩
          · go_wp2_with fail
            go_meet
            exact ⟨by rw [HW1.out]; rfl, rfl⟩
        case rest =>
          obtain ⟨rfl, rfl⟩ := hcut
          go_upto_if 66 with fail
          go_cut [13, 15] (fun s13 s15 wx => s13 = .int .i64 (wantS l crop day) ∧ s15 = .int .i64 (firstS l crop day) ∧ Ext w9 wx)
          case first =>
            have HWS : Hid (wantS l crop day = if r = 0 then (if inR crop 0 ((cropsN l : Int) - 1) && inR day 0 120 then (if leastI (leastS l crop day) < 0 then 7 else 0) else 2) else r) := Lib.hid (by unfold wantS; rw [HR0.out])
            have HFS : Hid (firstS l crop day = if r = 0 then (if inR crop 0 ((cropsN l : Int) - 1) && inR day 0 120 then leastI (leastS l crop day) else -1) else -1) := Lib.hid (by unfold firstS; rw [HR0.out])
            by_cases hz : W1 = 0
            · have hB : B1 = false := by
                cases hb : B1 with
                | false => rfl
                | true => exfalso; have := HW1.out; rw [hb, hz, if_pos rfl] at this; exact absurd this (by decide)
              have hr0 : r = 0 := by have := HW1.out; rw [hB, hz] at this; exact this.symm
              have hin : (inR crop 0 ((cropsN l : Int) - 1) && inR day 0 120) = true := by
                have := HB1.out
                rw [hB, decide_eq_true hr0, Bool.true_and] at this
                simpa using this
              have hrl := HRL.out hr0 hin
              have HW2 : Hid (wantS l crop day = if leastI (leastS l crop day) < 0 then 7 else 0) := Lib.hid (by rw [HWS.out, if_pos hr0, if_pos hin])
              have HF2 : Hid (firstS l crop day = leastI (leastS l crop day)) := Lib.hid (by rw [HFS.out, if_pos hr0, if_pos hin])
              clear hB hr0 hin HWS HFS HRL HW1 HB1 hmax
              generalize leastI (leastS l crop day) = le at *
              subst hz
              by_cases hle : le < 0
              · go_wp2_with fail
                (with_reducible refine (hrl _ X9).mono ?_)
                rintro e w10 ⟨rfl, hx10⟩
                go_wp2_with fail
                go_meet
                exact ⟨by rw [HW2.out, if_pos hle], by rw [HF2.out], hx10⟩
              · go_wp2_with fail
                (with_reducible refine (hrl _ X9).mono ?_)
                rintro e w10 ⟨rfl, hx10⟩
                go_wp2_with fail
                go_meet
                exact ⟨by rw [HW2.out, if_neg (by omega)], by rw [HF2.out], hx10⟩
            · have hd : (W1 == 0) = false := by rw [beq_eq_false_iff_ne]; exact hz
              have e1 : wantS l crop day = W1 ∧ firstS l crop day = -1 := by
                rw [HWS.out, HFS.out, HW1.out]
                by_cases hr0 : r = 0
                · have hB : B1 = true := by
                    cases hb : B1 with
                    | true => rfl
                    | false => exfalso; have := HW1.out; rw [hb] at this; exact hz (this.trans hr0)
                  have hin : (inR crop 0 ((cropsN l : Int) - 1) && inR day 0 120) = false := by
                    have := HB1.out
                    rw [hB, decide_eq_true hr0, Bool.true_and] at this
                    rw [Bool.eq_false_iff]
                    intro hx
                    rw [hx] at this
                    exact absurd this (by decide)
                  rw [if_pos hr0, if_pos hr0, hin, hB]
                  exact ⟨rfl, rfl⟩
                · have hB : B1 = false := by rw [HB1.out, decide_eq_false hr0]; rfl
                  rw [if_neg hr0, if_neg hr0, hB]
                  exact ⟨rfl, rfl⟩
              have HE1 := Lib.hid e1
              clear e1 hz HWS HFS HRL HW1 HB1 hmax
              go_wp2_with fail
              go_meet
              exact ⟨by rw [HE1.out.1], by rw [HE1.out.2], Ext.refl _⟩
          case rest =>
            obtain ⟨rfl, rfl, hxc⟩ := hcut
            obtain ⟨w10, rfl⟩ : ∃ x, x = wc := ⟨_, rfl⟩
            have X10 := X9.trans hxc
            replace q0 := hxc.keep q0
            replace q1 := hxc.keep q1
            clear hxc X9 HRL HW1 HB1
            generalize wantS l crop day = wa at *
            generalize firstS l crop day = fi at *
            generalize maxS fi = mx at *
            go_upto_region 15 with fail
            obtain ⟨B2, hB2⟩ : ∃ b, b = (decide (r = 0) && decide (5 < cs.length)) := ⟨_, rfl⟩
            have HB2 := Lib.hid hB2
            clear hB2
            go_cut [88] from 82 to 88 (fun s88 wx => s88 = .bool B2 ∧ w10 = wx)
            case first =>
              by_cases h0 : r = 0
              · subst h0
                have e1 : B2 = decide ((5 : Int) < cs.length) := by
                  rw [HB2.out, decide_eq_true rfl, Bool.true_and]
                  congr 1
                  exact propext (by omega)
                have HE1 := Lib.hid e1
                clear e1
                go_wp2_with fail
                go_meet
                exact ⟨by rw [HE1.out], rfl⟩
              · have hd : (r == 0) = false := by rw [beq_eq_false_iff_ne]; exact h0
                have e1 : B2 = false := by rw [HB2.out, decide_eq_false h0]; rfl
                have HE1 := Lib.hid e1
                clear h0 e1
                go_wp2_with fail
                go_meet
                exact ⟨by rw [HE1.out], rfl⟩
            case rest =>
              obtain ⟨rfl, rfl⟩ := hcut
              go_upto_if 88 with fail
              go_cut [14] (fun s14 wx => s14 = .int .i64 (dueK l cs 0) ∧ w10 = wx)
              case first =>
                have e1 : dueK l cs 0 = if B2 then 3 else r := by
                  rw [due_zero, HR0.out, HB2.out]
                  by_cases h0 : r = 0
                  · rw [if_neg (by omega), decide_eq_true h0, Bool.true_and]
                    by_cases h5 : 5 < cs.length
                    · rw [if_pos h5, decide_eq_true h5]; rfl
                    · rw [if_neg h5, decide_eq_false h5]; exact h0.symm
                  · rw [if_pos h0, decide_eq_false h0]; rfl
                have HE1 := Lib.hid e1
                clear e1
                cases B2
                · go_wp2_with fail
                  go_meet
                  exact ⟨by rw [HE1.out]; rfl, rfl⟩
                · go_wp2_with fail
                  go_meet
                  exact ⟨by rw [HE1.out]; rfl, rfl⟩
              case rest =>
                obtain ⟨rfl, rfl⟩ := hcut
                go_wp2_with fail
                go_loopw [14, 17, 18, 19, 20] (fun s14 s17 _ _ _ wr => ∃ k : Nat, k ≤ cs.length ∧ s14 = .int .i64 (dueK l cs k) ∧ s17 = .int .i64 k ∧ Hid (SumI l cs w10 w10.heap.size w10.heap.size k wr)) (fun _ s _ _ _ _ => cs.length - (intOf s).toNat)
                case atStart =>
                  exact ⟨0, Nat.zero_le _, rfl, rfl, Lib.hid ⟨(Ext.refl _).alloc _, Nat.le_refl _, ⟨0, 0, by simp, by simp, fun _ => by simp [sumLo, sumHi]⟩, fun o => by simp⟩⟩
                case round =>
                  obtain ⟨k, hk, rfl, rfl, HT⟩ := hrel
                  obtain ⟨wo, rfl⟩ : ∃ x, x = wr := ⟨_, rfl⟩
                  have XT := HT.out.ext
                  have XO : Ext w wo := X10.trans XT
                  replace q0 := XT.keep q0
                  replace q1 := XT.keep q1
                  obtain ⟨sx, sy, u0, u1, hxy⟩ := HT.out.cells
                  have uf := HT.out.free
                  have hSl : w10.heap.size < wo.heap.size := lt_of_cell u0
                  generalize hS : w10.heap.size = S at *
                  clear HT
                  by_cases hkt : k < cs.length
                  · by_cases hd : dueK l cs k = 0
                    · have hdn : dueK l cs (k + 1) = askS1 l cs[k] := due_next hd hkt
                      have hcl := fun h => due_claim hd hkt h
                      have hbd := due_bound hd hk
                      have hcall := HCL.out cs[k]
                      have hrb := HRB.out cs[k]
                      obtain ⟨hsx, hsy⟩ := hxy hd
                      obtain ⟨b, off, rfl, hce⟩ := HC3.out k (by simpa using hkt)
                      have hce := hce.ext XO
                      have e1 : (cs.map Cla.u)[k]'(by simpa using hkt) = (cs[k]).u := by simp
                      rw [e1] at hce
                      clear e1 hxy
                      by_cases ha : askS1 l cs[k] = 0
                      · obtain ⟨hvl, hco, hs1, hs2⟩ := hcl ha
                        have heb := ends_bd hvl hco
                        have HVL := Lib.hid (And.intro hvl hco)
                        rw [ha] at hdn hcall
                        rw [← hsx] at hs1 hbd
                        rw [← hsy] at hs2 hbd
                        have HDN := Lib.hid hdn
                        have HS1 := Lib.hid hs1
                        have HS2 := Lib.hid hs2
                        clear hdn hs1 hs2 hcl hvl hco ha hsx hsy
                        generalize dueK l cs k = dk at *
                        subst hd
                        generalize endsS l cs[k] = es at *
                        generalize cs[k] = x at *
                        obtain ⟨cr, va, dl, dh, cl, ch⟩ := x
                        obtain ⟨m0, m1, m2, m3, m4, m5⟩ := hce
                        simp only at m0 m1 m2 m3 m4 m5
                        go_wp2_with fail
                        (refine (hcall _ XO).mono ?_)
                        rintro e w11 ⟨rfl, hx11⟩
                        replace m0 := hx11.keep m0
                        replace m1 := hx11.keep m1
                        replace m2 := hx11.keep m2
                        replace m3 := hx11.keep m3
                        replace m4 := hx11.keep m4
                        replace m5 := hx11.keep m5
                        go_wp2_with fail
                        (refine (hrb _ (XO.trans hx11) HVL.out.1 HVL.out.2).mono ?_)
                        rintro e w12 ⟨rfl, hx12⟩
                        have XX := hx11.trans hx12
                        clear hcall hrb hx11 hx12 m0 m1 m2 m3 m4 m5
                        have hs12 := XX.size
                        have hSl2 : S < w12.heap.size := by omega
                        replace u0 := XX.keep u0
                        replace u1 := XX.keep u1
                        have uf2 : ∀ o, w12.frozen? ⟨S, o, none⟩ = false := fun o => (XX.frozen hSl).trans (uf o)
                        have hw1 : IntKind.i64.wrap (sx + es.lo) = sx + es.lo := IntWalk.i64_in _ (by omega)
                        have hw2' : IntKind.i64.wrap (sy + es.hi) = sy + es.hi := IntWalk.i64_in _ (by omega)
                        have U : Hid (∀ A B C, ((((w12.alloc A).alloc B).alloc C).cell? ⟨S, 0, none⟩ = some (.int .i64 sx) ∧ (((w12.alloc A).alloc B).alloc C).cell? ⟨S, 1, none⟩ = some (.int .i64 sy)) ∧ ∀ o, (((w12.alloc A).alloc B).alloc C).frozen? ⟨S, o, none⟩ = false) := fun A B C =>
                          have x : Ext w12 (((w12.alloc A).alloc B).alloc C) := (((Ext.refl w12).alloc A).alloc B).alloc C
                          ⟨⟨x.keep u0, x.keep u1⟩, fun o => (x.frozen hSl2).trans (uf2 o)⟩
                        have v0 := fun A B C => (U.out A B C).1.1
                        have v1 := fun A B C => (U.out A B C).1.2
                        have vf0 := fun A B C => (U.out A B C).2 0
                        have vf1 := fun A B C => (U.out A B C).2 1
                        clear u0 u1 uf uf2
                        go_wp2_with fail
                        go_roundw
                        case rel =>
                          have XA : ∀ A B C i j x y, Ext w10 (((((w12.alloc A).alloc B).alloc C).setCell ⟨S, i, none⟩ x).setCell ⟨S, j, none⟩ y) := fun A B C i j x y =>
                            ((((((XT.trans XX).alloc A).alloc B).alloc C).setCell (by omega) _).setCell (by omega) _)
                          refine ⟨k + 1, by omega, by rw [HDN.out], by go_num, Lib.hid ⟨XA _ _ _ _ _ _ _, Nat.le_refl _, ⟨_, _, ?_, ?_, fun _ => ⟨HS1.out.symm, HS2.out.symm⟩⟩, fun o => ?_⟩⟩
                          · exact set_off (by omega) (set_same (v0 _ _ _))
                          · exact set_same (set_off (by omega) (v1 _ _ _))
                          · rw [World.frozen?_setCell, World.frozen?_setCell]; exact (U.out _ _ _).2 o
                        case measure => simp [intOf]; omega
                      · have hz : (askS1 l cs[k] == 0) = false := by rw [beq_eq_false_iff_ne]; exact ha
                        have HDN := Lib.hid (And.intro hdn ha)
                        clear hdn hcl hsx hsy hrb ha
                        generalize dueK l cs k = dk at *
                        subst hd
                        generalize askS1 l cs[k] = ak at *
                        generalize cs[k] = x at *
                        obtain ⟨cr, va, dl, dh, cl, ch⟩ := x
                        obtain ⟨m0, m1, m2, m3, m4, m5⟩ := hce
                        simp only at m0 m1 m2 m3 m4 m5
                        go_wp2_with fail
                        (refine (hcall _ XO).mono ?_)
                        rintro e w11 ⟨rfl, hx11⟩
                        go_wp2_with fail
                        go_roundw
                        case rel => exact ⟨k + 1, by omega, by rw [HDN.out.1], by go_num, Lib.hid ⟨XT.trans hx11, Nat.le_refl _, ⟨_, _, hx11.keep u0, hx11.keep u1, fun h => absurd (HDN.out.1.symm.trans h) HDN.out.2⟩, fun o => (hx11.frozen hSl).trans (uf o)⟩⟩
                        case measure => simp [intOf]; omega
                    · have he := HTE.out.2.2.1 k hk hd
                      generalize dueK l cs k = dk at *
                      subst he
                      obtain ⟨rfl, rfl⟩ := HTE.out.1 hd
                      have hn1 : (tE != 0) = true := by rw [bne_iff_ne]; exact hd
                      have hn2 : (tE == 0) = false := by rw [beq_eq_false_iff_ne]; exact hd
                      clear hd hxy u0 u1 uf HTE
                      go_wp2_with fail
                      (with_reducible refine (HAW.out _).mono ?_)
                      rintro e w11 ⟨rfl, hx11⟩
                      go_wp2_with fail
                      go_ret
                      exact ⟨rfl, XO.trans hx11⟩
                  · have ek : k = cs.length := by omega
                    have he : dueK l cs k = tE := by rw [ek]; exact HTE.out.2.2.2
                    by_cases hd : dueK l cs k = 0
                    · obtain ⟨h1, h2⟩ := hxy hd
                      rw [ek, List.take_length] at h1 h2
                      rw [hd] at he
                      obtain ⟨h3, h4⟩ := HTE.out.2.1 he.symm
                      rw [← h3] at h1
                      rw [← h4] at h2
                      subst h1
                      subst h2
                      generalize dueK l cs k = dk at *
                      subst hd
                      subst he
                      clear h3 h4 hxy HTE HC3 HRB HCL hmax
                      have HS : Hid (∀ w', Ext wo w' → (w'.cell? ⟨R, 0, none⟩ = some (.int .i64 sx) ∧ w'.cell? ⟨R, 1, none⟩ = some (.int .i64 sy) ∧ w'.cell? ⟨S, 0, none⟩ = some (.int .i64 sx) ∧ w'.cell? ⟨S, 1, none⟩ = some (.int .i64 sy)) ∧ Ext wo w') := fun w' hx => ⟨⟨hx.keep q0, hx.keep q1, hx.keep u0, hx.keep u1⟩, hx⟩
                      go_upto_region 27 with fail
                      go_region_held3 (fun w' => (w'.cell? ⟨R, 0, none⟩ = some (.int .i64 sx) ∧ w'.cell? ⟨R, 1, none⟩ = some (.int .i64 sy) ∧ w'.cell? ⟨S, 0, none⟩ = some (.int .i64 sx) ∧ w'.cell? ⟨S, 1, none⟩ = some (.int .i64 sy)) ∧ Ext wo w')
                        ((refine HS.out _ ?_; (repeat (first | exact Ext.refl _ | (with_reducible assumption) | (with_reducible refine Ext.drew ?_) | (with_reducible refine Ext.alloc ?_ _) | (with_reducible refine Ext.drewN ?_ _) | (with_reducible refine Ext.setCell ?_ (by omega) _) | (with_reducible refine Ext.trans ?_ (by with_reducible assumption))))))
                        (first
                          | (go_at_call 33; (refine (HT2.out _ _ _).mono ?_); rintro e w11 ⟨rfl, hx11⟩)
                          | (go_at_call 19; (refine (HAW.out _).mono ?_); rintro e w12 ⟨rfl, hx12⟩))
                      all_goals
                        go_wp2_with fail
                        go_ret
                        exact ⟨rfl, XO.trans (by (repeat (first | exact Ext.refl _ | (with_reducible assumption) | (with_reducible refine Ext.drew ?_) | (with_reducible refine Ext.alloc ?_ _) | (with_reducible refine Ext.drewN ?_ _) | (with_reducible refine Ext.setCell ?_ (by omega) _) | (with_reducible refine Ext.trans ?_ (by with_reducible assumption)))))⟩
                    · generalize dueK l cs k = dk at *
                      subst he
                      obtain ⟨rfl, rfl⟩ := HTE.out.1 hd
                      have hn1 : (dk != 0) = true := by rw [bne_iff_ne]; exact hd
                      have hn2 : (dk == 0) = false := by rw [beq_eq_false_iff_ne]; exact hd
                      clear hd hxy u0 u1 uf HTE
                      go_wp2_with fail
                      (with_reducible refine (HAW.out _).mono ?_)
                      rintro e w11 ⟨rfl, hx11⟩
                      go_wp2_with fail
                      go_ret
                      exact ⟨rfl, XO.trans hx11⟩
end Go.Proofs.Ytfjecbfcnngacaa
