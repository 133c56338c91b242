/- The walk of UmpireOffers. -/
import Derived.Test.YtbmjnilcinfdiaaGreatKVT
namespace Go.Proofs.YtbmjnilcinfdiaaGreat
open Go.RowKit Go.Hs
attribute [local irreducible] World.setCell World.alloc

set_option maxRecDepth 100000 in
set_option maxHeartbeats 4000000 in
theorem walk_UmpireOffers (v : Value) (c : Cas) (more : Int) (w : World) (hv : CasW w v c) (hm : (Lit.int .u16 more).wf = true) :
    Calls Tryz.prog 12 #[v, .int .u16 more] w fun e w' => e = .returned (.bool true) ∧ Ext w w' := by
  have HAW := Lib.hid awakeU_any
  have HRD : Hid (∀ W, Ext w W → Calls Tryz.prog 32 #[v] W fun e w' => e = .returned (.bool (readyB c)) ∧ Ext W w') := Lib.hid (fun W hx => readyU_any c v W (hv.ext hx))
  have HV := Lib.hid hv
  have hm2 := u16_in hm
  clear hm
  obtain ⟨vt, vf, rfl, ht, hf, -, -⟩ := hv
  obtain ⟨a1, c1, rfl, -⟩ := id ht
  obtain ⟨a2, c2, rfl, -⟩ := id hf
  clear ht hf
  cases hr : readyB c with
  | false =>
    rw [hr] at HRD
    clear HV hr
    generalize c.tars.length = n1 at *
    generalize c.flds.length = n2 at *
    generalize c.day = day at *
    generalize c.fee = fee at *
    go_enter Tryz.func12, Tryz.ntmps12
    go_wp2_with fail
    (with_reducible refine (HRD.out _ (by (repeat (first | exact Ext.refl _ | (with_reducible assumption) | (with_reducible refine Ext.drew ?_) | (with_reducible refine Ext.alloc ?_ _) | (with_reducible refine Ext.drewN ?_ _) | (with_reducible refine Ext.setCell ?_ (by omega) _) | (with_reducible refine Ext.trans ?_ (by with_reducible assumption)))))).mono ?_)
    rintro e w1 ⟨rfl, hx1⟩
    go_wp2_with fail
    (with_reducible refine (HAW.out _).mono ?_)
    rintro e w2 ⟨rfl, hx2⟩
    go_wp2_with fail
    go_ret
    exact ⟨rfl, by (repeat (first | exact Ext.refl _ | (with_reducible assumption) | (with_reducible refine Ext.drew ?_) | (with_reducible refine Ext.alloc ?_ _) | (with_reducible refine Ext.drewN ?_ _) | (with_reducible refine Ext.setCell ?_ (by omega) _) | (with_reducible refine Ext.trans ?_ (by with_reducible assumption))))⟩
  | true =>
    rw [hr] at HRD
    obtain ⟨htc, hce⟩ := ready_true hr
    have htt := thinCas_tars htc
    have hcv := HV.out.toV htc
    have hok := caseE_zero hce
    have hfee := hok.fee
    have hx0 : 0 ≤ min 10000 (c.fee + more) ∧ min 10000 (c.fee + more) ≤ 10000 := by omega
    have hcx := withFee_E hce hx0
    have hcy := withFee_E hce (x := 0) (by omega)
    have HCA : Hid (∀ W, Ext w W → Calls Tryz.prog 18 #[.agg #[.slice a1 c.tars.length c1, .int .i64 c.day, .int .i64 c.fee, .slice a2 c.flds.length c2]] W fun e w' => ∃ v', e = .returned v' ∧ CasV w' v' c ∧ Ext W w') := Lib.hid (fun W hx => Case_any c _ W (hcv.ext hx) htt)
    have HCX : Hid (∀ W, Ext w W → Calls Tryz.prog 18 #[.agg #[.slice a1 c.tars.length c1, .int .i64 c.day, .int .i64 (min 10000 (c.fee + more)), .slice a2 c.flds.length c2]] W fun e w' => ∃ v', e = .returned v' ∧ CasV w' v' (c.withFee (min 10000 (c.fee + more))) ∧ Ext W w') := Lib.hid (fun W hx => Case_any (c.withFee (min 10000 (c.fee + more))) _ W ((hcv.ext hx).fee _) htt)
    have HCY : Hid (∀ W, Ext w W → Calls Tryz.prog 18 #[.agg #[.slice a1 c.tars.length c1, .int .i64 c.day, .int .i64 0, .slice a2 c.flds.length c2]] W fun e w' => ∃ v', e = .returned v' ∧ CasV w' v' (c.withFee 0) ∧ Ext W w') := Lib.hid (fun W hx => Case_any (c.withFee 0) _ W ((hcv.ext hx).fee _) htt)
    have HA := Lib.hid (fun v W (h : CasV W v c) => Award_good c v W h hce)
    have HO := Lib.hid (fun v W (h : CasV W v c) => Offers_good c v W h hce)
    have HOX := Lib.hid (fun v W (h : CasV W v (c.withFee (min 10000 (c.fee + more)))) => Offers_good _ v W h hcx)
    have HOY := Lib.hid (fun v W (h : CasV W v (c.withFee 0)) => Offers_good _ v W h hcy)
    rw [(offers_free hok).1, (offers_free hok).2] at HOY
    obtain ⟨p1, p2⟩ := award_in_offers hok
    obtain ⟨p3, p4⟩ := offers_mono hok (x := min 10000 (c.fee + more)) (by omega) (by omega)
    have D1 : decide (bLo c 3 ≤ bLo c 0) = true := decide_eq_true p1
    have D2 : decide (bHi c 0 ≤ bHi c 4) = true := decide_eq_true p2
    have D3 : decide (bLo (c.withFee (min 10000 (c.fee + more))) 3 ≤ bLo c 3) = true := decide_eq_true p3
    have D4 : decide (bHi c 4 ≤ bHi (c.withFee (min 10000 (c.fee + more))) 4) = true := decide_eq_true p4
    have hw1 : IntKind.i64.wrap more = more := IntWalk.i64_in _ (by omega)
    have hw2 : IntKind.i64.wrap (c.fee + more) = c.fee + more := IntWalk.i64_in _ (by omega)
    have hmin : ∀ w, (Builtin.min_ #[3, 3] 3 #[.int .i64 10000, .int .i64 (c.fee + more)]).run Tryz.prog w = .ok (.int .i64 (min 10000 (c.fee + more))) w := fun w => run_min_i64 (by omega) _ _ w
    clear p1 p2 p3 p4 hcx hcy hx0 hok hcv htt htc hce hr HV
    generalize bLo (c.withFee (min 10000 (c.fee + more))) 3 = plo at *
    generalize bHi (c.withFee (min 10000 (c.fee + more))) 4 = phi at *
    generalize bLo c 3 = olo at *
    generalize bHi c 4 = ohi at *
    generalize bLo c 0 = alo at *
    generalize bHi c 0 = ahi at *
    generalize c.withFee (min 10000 (c.fee + more)) = cx at *
    generalize c.withFee 0 = cy at *
    generalize c.tars.length = n1 at *
    generalize c.flds.length = n2 at *
    generalize c.day = day at *
    generalize c.fee = fee at *
    generalize min 10000 (fee + more) = fx at *
    go_enter Tryz.func12, Tryz.ntmps12
    go_wp2_with fail
    have X : Ext w (w.alloc (.cells #[.slice a1 n1 c1, .int .i64 day, .int .i64 fee, .slice a2 n2 c2] 25)) := by (repeat (first | exact Ext.refl _ | (with_reducible assumption) | (with_reducible refine Ext.drew ?_) | (with_reducible refine Ext.alloc ?_ _) | (with_reducible refine Ext.drewN ?_ _) | (with_reducible refine Ext.setCell ?_ (by omega) _) | (with_reducible refine Ext.trans ?_ (by with_reducible assumption))))
    have HS : Hid (∀ w', Ext (w.alloc (.cells #[.slice a1 n1 c1, .int .i64 day, .int .i64 fee, .slice a2 n2 c2] 25)) w' → (w'.cell? ⟨w.heap.size, 0, none⟩ = some (.slice a1 n1 c1) ∧ w'.cell? ⟨w.heap.size, 1, none⟩ = some (.int .i64 day) ∧ w'.cell? ⟨w.heap.size, 2, none⟩ = some (.int .i64 fee) ∧ w'.cell? ⟨w.heap.size, 3, none⟩ = some (.slice a2 n2 c2)) ∧ Ext (w.alloc (.cells #[.slice a1 n1 c1, .int .i64 day, .int .i64 fee, .slice a2 n2 c2] 25)) w') := Lib.hid (fun w' hx => ⟨⟨hx.keep (by simp [go_sem]), hx.keep (by simp [go_sem]), hx.keep (by simp [go_sem]), hx.keep (by simp [go_sem])⟩, hx⟩)
    have HSf : Hid (∀ w', Ext (w.alloc (.cells #[.slice a1 n1 c1, .int .i64 day, .int .i64 fee, .slice a2 n2 c2] 25)) w' → ∀ o, w'.frozen? ⟨w.heap.size, o, none⟩ = false) := Lib.hid (fun w' hx o => (hx.frozen (by simp)).trans (by simp [go_sem]))
    have HSz : w.heap.size + 1 ≤ (w.alloc (.cells #[.slice a1 n1 c1, .int .i64 day, .int .i64 fee, .slice a2 n2 c2] 25)).heap.size := by simp
    generalize (w.alloc (.cells #[.slice a1 n1 c1, .int .i64 day, .int .i64 fee, .slice a2 n2 c2] 25)) = W at *
    (with_reducible refine (HRD.out _ X).mono ?_)
    rintro e w1 ⟨rfl, hx1⟩
    obtain ⟨⟨q0, q1, q2, q3⟩, -⟩ := HS.out w1 hx1
    have X1 : Ext w w1 := by (repeat (first | exact Ext.refl _ | (with_reducible assumption) | (with_reducible refine Ext.drew ?_) | (with_reducible refine Ext.alloc ?_ _) | (with_reducible refine Ext.drewN ?_ _) | (with_reducible refine Ext.setCell ?_ (by omega) _) | (with_reducible refine Ext.trans ?_ (by with_reducible assumption))))
    have HC1 : Hid (∀ w', Ext w1 w' → (w'.cell? ⟨w.heap.size, 0, none⟩ = some (.slice a1 n1 c1) ∧ w'.cell? ⟨w.heap.size, 1, none⟩ = some (.int .i64 day) ∧ w'.cell? ⟨w.heap.size, 2, none⟩ = some (.int .i64 fee) ∧ w'.cell? ⟨w.heap.size, 3, none⟩ = some (.slice a2 n2 c2)) ∧ Ext w1 w') := Lib.hid (fun w' hx => ⟨⟨hx.keep q0, hx.keep q1, hx.keep q2, hx.keep q3⟩, hx⟩)
    clear HS HSf HSz hx1 X HRD
    go_upto_region 3 with fail
    go_cut [5, 6] from 19 to 20 (fun sA sB wx => ∃ A B, sA = .pointer (some ⟨A, 0, none⟩) ∧ sB = .pointer (some ⟨B, 0, none⟩) ∧ Two4 w1 (.slice a1 n1 c1) (.int .i64 day) (.int .i64 fee) (.slice a2 n2 c2) (.slice a1 n1 c1) (.int .i64 day) (.int .i64 fee) (.slice a2 n2 c2) A B wx)
    case first =>
      clear HAW HCA HCX HCY HA HO HOX HOY D1 D2 D3 D4 hw1 hw2 hmin q0 q1 q2 q3 X1
      go_region_held3 (fun w' => (w'.cell? ⟨w.heap.size, 0, none⟩ = some (.slice a1 n1 c1) ∧ w'.cell? ⟨w.heap.size, 1, none⟩ = some (.int .i64 day) ∧ w'.cell? ⟨w.heap.size, 2, none⟩ = some (.int .i64 fee) ∧ w'.cell? ⟨w.heap.size, 3, none⟩ = some (.slice a2 n2 c2)) ∧ Ext w1 w')
        ((refine HC1.out _ ?_; (repeat (first | exact Ext.refl _ | (with_reducible assumption) | (with_reducible refine Ext.drew ?_) | (with_reducible refine Ext.alloc ?_ _) | (with_reducible refine Ext.drewN ?_ _) | (with_reducible refine Ext.setCell ?_ (by omega) _) | (with_reducible refine Ext.trans ?_ (by with_reducible assumption))))))
        (fail)
      all_goals
        go_wp2_with fail
        go_meet
        exact ⟨_, _, rfl, rfl, ⟨by simp [go_sem], by simp [go_sem], by simp [go_sem], by simp [go_sem], by simp [go_sem], by simp [go_sem], by simp [go_sem], by simp [go_sem], fun o => by simp [go_sem], fun o => by simp [go_sem], by omega, by omega, by omega, by (repeat (first | exact Ext.refl _ | (with_reducible assumption) | (with_reducible refine Ext.drew ?_) | (with_reducible refine Ext.alloc ?_ _) | (with_reducible refine Ext.drewN ?_ _) | (with_reducible refine Ext.setCell ?_ (by omega) _) | (with_reducible refine Ext.trans ?_ (by with_reducible assumption))))⟩⟩
    case rest =>
      obtain ⟨A, B, rfl, rfl, h2⟩ := hcut
      obtain ⟨w2, rfl⟩ : ∃ x, x = wc := ⟨_, rfl⟩
      have X2 : Ext w w2 := X1.trans h2.ext
      obtain ⟨⟨q0', q1', q2', q3'⟩, -⟩ := HC1.out w2 h2.ext
      have h3 := h2.fees (.int .i64 fx) (.int .i64 0)
      have XE : Ext w1 ((w2.setCell ⟨A, 2, none⟩ (.int .i64 fx)).setCell ⟨B, 2, none⟩ (.int .i64 0)) := h3.ext
      have r2 := h2.a2
      have r6 : (w2.setCell ⟨A, 2, none⟩ (.int .i64 fx)).cell? ⟨B, 2, none⟩ = some (.int .i64 fee) := sc_ne' (.inl (Ne.symm h2.ne)) h2.b2
      have fa := h2.fa
      have fb : ∀ o, (w2.setCell ⟨A, 2, none⟩ (.int .i64 fx)).frozen? ⟨B, o, none⟩ = false := fun o => by rw [World.frozen?_setCell]; exact h2.fb o
      clear q0 q1 q2 q3 h2
      go_upto_region 5 with fail
      generalize (w2.setCell ⟨A, 2, none⟩ (.int .i64 fx)).setCell ⟨B, 2, none⟩ (.int .i64 0) = w3 at *
      have X3 : Ext w w3 := X1.trans XE
      obtain ⟨⟨q0, q1, q2, q3⟩, -⟩ := HC1.out w3 XE
      obtain ⟨s0, s1, s2, s3, t0, t1, t2, t3, -, -, -, -, -, -⟩ := h3
      clear q0' q1' q2' q3' r2 r6 fa fb X2 HC1 XE X1
      go_wp2_with fail
      (with_reducible refine (HCA.out _ X3).mono ?_)
      rintro e w4 ⟨v4, rfl, hv, hx⟩
      have hy : Ext w3 w4 := by (repeat (first | exact Ext.refl _ | (with_reducible assumption) | (with_reducible refine Ext.drew ?_) | (with_reducible refine Ext.alloc ?_ _) | (with_reducible refine Ext.drewN ?_ _) | (with_reducible refine Ext.setCell ?_ (by omega) _) | (with_reducible refine Ext.trans ?_ (by with_reducible assumption))))
      replace X3 := X3.trans hy
      replace q0 := hy.keep q0
      replace q1 := hy.keep q1
      replace q2 := hy.keep q2
      replace q3 := hy.keep q3
      replace s0 := hy.keep s0
      replace s1 := hy.keep s1
      replace s2 := hy.keep s2
      replace s3 := hy.keep s3
      replace t0 := hy.keep t0
      replace t1 := hy.keep t1
      replace t2 := hy.keep t2
      replace t3 := hy.keep t3
      clear hx hy
      go_wp2_with fail
      (with_reducible refine (HA.out _ _ hv).mono ?_)
      rintro e w5 ⟨rfl, hx⟩
      have hy : Ext w4 w5 := by (repeat (first | exact Ext.refl _ | (with_reducible assumption) | (with_reducible refine Ext.drew ?_) | (with_reducible refine Ext.alloc ?_ _) | (with_reducible refine Ext.drewN ?_ _) | (with_reducible refine Ext.setCell ?_ (by omega) _) | (with_reducible refine Ext.trans ?_ (by with_reducible assumption))))
      replace X3 := X3.trans hy
      replace q0 := hy.keep q0
      try clear q0_a
      have q0_a := fun o => ((Ext.refl w5).alloc o).keep q0
      replace q1 := hy.keep q1
      try clear q1_a
      have q1_a := fun o => ((Ext.refl w5).alloc o).keep q1
      replace q2 := hy.keep q2
      try clear q2_a
      have q2_a := fun o => ((Ext.refl w5).alloc o).keep q2
      replace q3 := hy.keep q3
      try clear q3_a
      have q3_a := fun o => ((Ext.refl w5).alloc o).keep q3
      replace s0 := hy.keep s0
      replace s1 := hy.keep s1
      replace s2 := hy.keep s2
      replace s3 := hy.keep s3
      replace t0 := hy.keep t0
      replace t1 := hy.keep t1
      replace t2 := hy.keep t2
      replace t3 := hy.keep t3
      clear hx hy
      clear hv
      go_wp2_with fail
      (with_reducible refine (HCA.out _ (X3.trans (by (repeat (first | exact Ext.refl _ | (with_reducible assumption) | (with_reducible refine Ext.drew ?_) | (with_reducible refine Ext.alloc ?_ _) | (with_reducible refine Ext.drewN ?_ _) | (with_reducible refine Ext.setCell ?_ (by omega) _) | (with_reducible refine Ext.trans ?_ (by with_reducible assumption))))))).mono ?_)
      rintro e w6 ⟨v6, rfl, hv, hx⟩
      have hy : Ext w5 w6 := by (repeat (first | exact Ext.refl _ | (with_reducible assumption) | (with_reducible refine Ext.drew ?_) | (with_reducible refine Ext.alloc ?_ _) | (with_reducible refine Ext.drewN ?_ _) | (with_reducible refine Ext.setCell ?_ (by omega) _) | (with_reducible refine Ext.trans ?_ (by with_reducible assumption))))
      have d0 := hx.keep (k := w5.heap.size) (o := 0) (v := .int .i64 alo) (by simp [go_sem])
      have d1 := hx.keep (k := w5.heap.size) (o := 1) (v := .int .i64 ahi) (by simp [go_sem])
      replace X3 := X3.trans hy
      replace q0 := hy.keep q0
      replace q1 := hy.keep q1
      replace q2 := hy.keep q2
      replace q3 := hy.keep q3
      replace s0 := hy.keep s0
      replace s1 := hy.keep s1
      replace s2 := hy.keep s2
      replace s3 := hy.keep s3
      replace t0 := hy.keep t0
      replace t1 := hy.keep t1
      replace t2 := hy.keep t2
      replace t3 := hy.keep t3
      clear hx hy
      go_wp2_with fail
      (with_reducible refine (HO.out _ _ hv).mono ?_)
      rintro e w7 ⟨rfl, hx⟩
      have hy : Ext w6 w7 := by (repeat (first | exact Ext.refl _ | (with_reducible assumption) | (with_reducible refine Ext.drew ?_) | (with_reducible refine Ext.alloc ?_ _) | (with_reducible refine Ext.drewN ?_ _) | (with_reducible refine Ext.setCell ?_ (by omega) _) | (with_reducible refine Ext.trans ?_ (by with_reducible assumption))))
      replace X3 := X3.trans hy
      replace q0 := hy.keep q0
      replace q1 := hy.keep q1
      replace q2 := hy.keep q2
      replace q3 := hy.keep q3
      replace s0 := hy.keep s0
      try clear s0_a
      have s0_a := fun o => ((Ext.refl w7).alloc o).keep s0
      replace s1 := hy.keep s1
      try clear s1_a
      have s1_a := fun o => ((Ext.refl w7).alloc o).keep s1
      replace s2 := hy.keep s2
      try clear s2_a
      have s2_a := fun o => ((Ext.refl w7).alloc o).keep s2
      replace s3 := hy.keep s3
      try clear s3_a
      have s3_a := fun o => ((Ext.refl w7).alloc o).keep s3
      replace t0 := hy.keep t0
      replace t1 := hy.keep t1
      replace t2 := hy.keep t2
      replace t3 := hy.keep t3
      replace d0 := hy.keep d0
      replace d1 := hy.keep d1
      clear hx hy
      clear hv q0 q1 q2 q3 q0_a q1_a q2_a q3_a HCA HA HO
      go_wp2_with fail
      (with_reducible refine (HCX.out _ (X3.trans (by (repeat (first | exact Ext.refl _ | (with_reducible assumption) | (with_reducible refine Ext.drew ?_) | (with_reducible refine Ext.alloc ?_ _) | (with_reducible refine Ext.drewN ?_ _) | (with_reducible refine Ext.setCell ?_ (by omega) _) | (with_reducible refine Ext.trans ?_ (by with_reducible assumption))))))).mono ?_)
      rintro e w8 ⟨v8, rfl, hv, hx⟩
      have hy : Ext w7 w8 := by (repeat (first | exact Ext.refl _ | (with_reducible assumption) | (with_reducible refine Ext.drew ?_) | (with_reducible refine Ext.alloc ?_ _) | (with_reducible refine Ext.drewN ?_ _) | (with_reducible refine Ext.setCell ?_ (by omega) _) | (with_reducible refine Ext.trans ?_ (by with_reducible assumption))))
      have f0 := hx.keep (k := w7.heap.size) (o := 0) (v := .int .i64 olo) (by simp [go_sem])
      have f1 := hx.keep (k := w7.heap.size) (o := 1) (v := .int .i64 ohi) (by simp [go_sem])
      replace X3 := X3.trans hy
      replace s0 := hy.keep s0
      replace s1 := hy.keep s1
      replace s2 := hy.keep s2
      replace s3 := hy.keep s3
      replace t0 := hy.keep t0
      replace t1 := hy.keep t1
      replace t2 := hy.keep t2
      replace t3 := hy.keep t3
      replace d0 := hy.keep d0
      replace d1 := hy.keep d1
      clear hx hy
      go_wp2_with fail
      (with_reducible refine (HOX.out _ _ hv).mono ?_)
      rintro e w9 ⟨rfl, hx⟩
      have hy : Ext w8 w9 := by (repeat (first | exact Ext.refl _ | (with_reducible assumption) | (with_reducible refine Ext.drew ?_) | (with_reducible refine Ext.alloc ?_ _) | (with_reducible refine Ext.drewN ?_ _) | (with_reducible refine Ext.setCell ?_ (by omega) _) | (with_reducible refine Ext.trans ?_ (by with_reducible assumption))))
      replace X3 := X3.trans hy
      replace t0 := hy.keep t0
      try clear t0_a
      have t0_a := fun o => ((Ext.refl w9).alloc o).keep t0
      replace t1 := hy.keep t1
      try clear t1_a
      have t1_a := fun o => ((Ext.refl w9).alloc o).keep t1
      replace t2 := hy.keep t2
      try clear t2_a
      have t2_a := fun o => ((Ext.refl w9).alloc o).keep t2
      replace t3 := hy.keep t3
      try clear t3_a
      have t3_a := fun o => ((Ext.refl w9).alloc o).keep t3
      replace d0 := hy.keep d0
      replace d1 := hy.keep d1
      replace f0 := hy.keep f0
      replace f1 := hy.keep f1
      clear hx hy
      clear hv s0 s1 s2 s3 s0_a s1_a s2_a s3_a HCX HOX
      go_wp2_with fail
      (with_reducible refine (HCY.out _ (X3.trans (by (repeat (first | exact Ext.refl _ | (with_reducible assumption) | (with_reducible refine Ext.drew ?_) | (with_reducible refine Ext.alloc ?_ _) | (with_reducible refine Ext.drewN ?_ _) | (with_reducible refine Ext.setCell ?_ (by omega) _) | (with_reducible refine Ext.trans ?_ (by with_reducible assumption))))))).mono ?_)
      rintro e w10 ⟨v10, rfl, hv, hx⟩
      have hy : Ext w9 w10 := by (repeat (first | exact Ext.refl _ | (with_reducible assumption) | (with_reducible refine Ext.drew ?_) | (with_reducible refine Ext.alloc ?_ _) | (with_reducible refine Ext.drewN ?_ _) | (with_reducible refine Ext.setCell ?_ (by omega) _) | (with_reducible refine Ext.trans ?_ (by with_reducible assumption))))
      have g0 := hx.keep (k := w9.heap.size) (o := 0) (v := .int .i64 plo) (by simp [go_sem])
      have g1 := hx.keep (k := w9.heap.size) (o := 1) (v := .int .i64 phi) (by simp [go_sem])
      replace X3 := X3.trans hy
      replace t0 := hy.keep t0
      replace t1 := hy.keep t1
      replace t2 := hy.keep t2
      replace t3 := hy.keep t3
      replace d0 := hy.keep d0
      replace d1 := hy.keep d1
      replace f0 := hy.keep f0
      replace f1 := hy.keep f1
      clear hx hy
      go_wp2_with fail
      (with_reducible refine (HOY.out _ _ hv).mono ?_)
      rintro e w11 ⟨rfl, hx⟩
      have hy : Ext w10 w11 := by (repeat (first | exact Ext.refl _ | (with_reducible assumption) | (with_reducible refine Ext.drew ?_) | (with_reducible refine Ext.alloc ?_ _) | (with_reducible refine Ext.drewN ?_ _) | (with_reducible refine Ext.setCell ?_ (by omega) _) | (with_reducible refine Ext.trans ?_ (by with_reducible assumption))))
      replace X3 := X3.trans hy
      replace d0 := hy.keep d0
      try clear d0_a
      have d0_a := fun o => ((Ext.refl w11).alloc o).keep d0
      replace d1 := hy.keep d1
      try clear d1_a
      have d1_a := fun o => ((Ext.refl w11).alloc o).keep d1
      replace f0 := hy.keep f0
      try clear f0_a
      have f0_a := fun o => ((Ext.refl w11).alloc o).keep f0
      replace f1 := hy.keep f1
      try clear f1_a
      have f1_a := fun o => ((Ext.refl w11).alloc o).keep f1
      replace g0 := hy.keep g0
      try clear g0_a
      have g0_a := fun o => ((Ext.refl w11).alloc o).keep g0
      replace g1 := hy.keep g1
      try clear g1_a
      have g1_a := fun o => ((Ext.refl w11).alloc o).keep g1
      clear hx hy
      clear hv t0 t1 t2 t3 t0_a t1_a t2_a t3_a HCY HOY
      go_wp2_with fail
      (with_reducible refine (HAW.out _).mono ?_)
      rintro e w12 ⟨rfl, hx⟩
      have hy : Ext w11 w12 := by (repeat (first | exact Ext.refl _ | (with_reducible assumption) | (with_reducible refine Ext.drew ?_) | (with_reducible refine Ext.alloc ?_ _) | (with_reducible refine Ext.drewN ?_ _) | (with_reducible refine Ext.setCell ?_ (by omega) _) | (with_reducible refine Ext.trans ?_ (by with_reducible assumption))))
      replace X3 := X3.trans hy
      clear hx hy
      go_wp2_with fail
      go_ret
      exact ⟨rfl, X3⟩
end Go.Proofs.YtbmjnilcinfdiaaGreat
