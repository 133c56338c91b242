/- The walk of UmpireEnds. Printed by gen_yq.py. -/
import Derived.Test.YtbmjnilcinfdiaaGreatKXM
import Derived.Test.YtbmjnilcinfdiaaGreatKYD
set_option linter.unusedSimpArgs false
set_option linter.unusedVariables false
namespace Go.Proofs.YtbmjnilcinfdiaaGreat
open Go.RowKit Go.Hs
attribute [local irreducible] World.setCell World.alloc
set_option maxRecDepth 100000 in
set_option maxHeartbeats 16000000 in
theorem walk_UmpireEnds (v : Value) (c : Cas) (w : World) (hv : CasW w v c) :
    Calls Tryz.prog 5 #[v] w fun e w' => e = .returned (.bool true) ∧ Ext w w' := by
  have HAW := Lib.hid awakeU_any
  have HRD : Hid (∀ W, Ext w W → Calls Tryz.prog 32 #[v] W fun e w' => e = .returned (.bool (readyB c)) ∧ Ext W w') := Lib.hid (fun W hx => readyU_any c v W (hv.ext hx))
  have HV := Lib.hid hv
  obtain ⟨vt, vf, rfl, ht, hf, -, -⟩ := hv
  obtain ⟨a1, c1, rfl, -⟩ := id ht
  obtain ⟨a2, c2, rfl, -⟩ := id hf
  clear ht hf
  cases hr : readyB c with
  | false =>
    rw [hr] at HRD
    clear HV hr
    generalize c.tars.length = n1 at *
    generalize c.flds.length = n2 at *
    generalize c.day = day at *
    generalize c.fee = fee at *
    go_enter Tryz.func5, Tryz.ntmps5
    go_wp2_with fail
    (with_reducible refine (HRD.out _ (by (repeat (first | exact Ext.refl _ | (with_reducible assumption) | (with_reducible refine Ext.drew ?_) | (with_reducible refine Ext.alloc ?_ _) | (with_reducible refine Ext.drewN ?_ _) | (with_reducible refine Ext.setCell ?_ (by omega) _) | (with_reducible refine Ext.trans ?_ (by with_reducible assumption)))))).mono ?_)
    rintro e w1 ⟨rfl, hx1⟩
    go_wp2_with fail
    (with_reducible refine (HAW.out _).mono ?_)
    rintro e w2 ⟨rfl, hx2⟩
    go_wp2_with fail
    go_ret
    exact ⟨rfl, by (repeat (first | exact Ext.refl _ | (with_reducible assumption) | (with_reducible refine Ext.drew ?_) | (with_reducible refine Ext.alloc ?_ _) | (with_reducible refine Ext.drewN ?_ _) | (with_reducible refine Ext.setCell ?_ (by omega) _) | (with_reducible refine Ext.trans ?_ (by with_reducible assumption))))⟩
  | true =>
    rw [hr] at HRD
    obtain ⟨htc, hce⟩ := ready_true hr
    have htt := thinCas_tars htc
    have hcv := HV.out.toV htc
    have hok := caseE_zero hce
    have hn3 := hok.few
    by_cases hz : c.flds.length = 0
    · rw [hz] at HRD ⊢
      clear HV hr htc hce htt hcv hok hn3 hz
      generalize c.tars.length = n1 at *
      generalize c.day = day at *
      generalize c.fee = fee at *
      go_enter Tryz.func5, Tryz.ntmps5
      go_wp2_with fail
      (with_reducible refine (HRD.out _ (by (repeat (first | exact Ext.refl _ | (with_reducible assumption) | (with_reducible refine Ext.drew ?_) | (with_reducible refine Ext.alloc ?_ _) | (with_reducible refine Ext.drewN ?_ _) | (with_reducible refine Ext.setCell ?_ (by omega) _) | (with_reducible refine Ext.trans ?_ (by with_reducible assumption)))))).mono ?_)
      rintro e w1 ⟨rfl, hx1⟩
      have q3 := hx1.keep (k := w.heap.size) (o := 3) (v := .slice a2 0 c2) (by simp [go_sem])
      go_wp2_with fail
      (with_reducible refine (HAW.out _).mono ?_)
      rintro e w2 ⟨rfl, hx2⟩
      go_wp2_with fail
      go_ret
      exact ⟨rfl, by (repeat (first | exact Ext.refl _ | (with_reducible assumption) | (with_reducible refine Ext.drew ?_) | (with_reducible refine Ext.alloc ?_ _) | (with_reducible refine Ext.drewN ?_ _) | (with_reducible refine Ext.setCell ?_ (by omega) _) | (with_reducible refine Ext.trans ?_ (by with_reducible assumption))))⟩
    · have hnp : 0 < c.flds.length := by omega
      have hqc : c.flds.length ≤ c2 := by
        obtain ⟨vt, vf, e, -, a, q, hf, hq, -, -⟩ := hcv
        simp only [Value.agg.injEq, Array.mk.injEq, List.cons.injEq, and_true] at e
        obtain ⟨-, -, -, rfl⟩ := e
        simp only [Value.slice.injEq] at hf
        omega
      obtain ⟨b, off, rfl, hce9⟩ := hcv.fld_at (i := 0) hnp
      have hfo := hok.flds _ (List.getElem_mem hnp)
      have hxE : caseE (c.withF [c.flds[0]]) = 0 := withF_E hce (by simp) (fun g hg => by
        obtain rfl := List.mem_singleton.1 hg
        exact hfo)
      have hxok := caseE_zero hxE
      have hx0 := caseE_tars hxE
      have hask : askE (c.withF [c.flds[0]]) 0 = 0 := by
        have e : inR 0 0 (((c.withF [c.flds[0]]).flds.length : Int) - 1) = true := inR_iff.2 (by simp [Cas.withF])
        unfold askE askF
        rw [hxE]
        simp [e]
      have HF9 := Lib.hid hce9
      have HB9 : Hid (b < w.heap.size) := Lib.hid (lt_of_cell hce9.1)
      generalize hfv : c.flds[0] = f at *
      have HCF1 : Hid (∀ W, Ext w W → Calls Tryz.prog 18 #[.agg #[.slice a1 c.tars.length c1, .int .i64 c.day, .int .i64 c.fee, .slice (some ⟨b, off, none⟩) 1 c2]] W fun e w' => ∃ v', e = .returned v' ∧ CasV w' v' (c.withF [f]) ∧ Ext W w') := Lib.hid (fun W hx => Case_any (c.withF [f]) _ W (CasV.with hcv hx (bound_fld (by have := HF9.out.ext hx b (off + 0 * 9); simpa using this) (by omega))) htt)
      have HXV : Hid (∀ W, Ext w W → CasV W (.agg #[.slice a1 c.tars.length c1, .int .i64 c.day, .int .i64 c.fee, .slice (some ⟨b, off, none⟩) 1 c2]) (c.withF [f])) := Lib.hid (fun W hx => CasV.with hcv hx (bound_fld (by have := HF9.out.ext hx b (off + 0 * 9); simpa using this) (by omega)))
      have HA := Lib.hid (fun v' W (h : CasV W v' (c.withF [f])) => Award_good _ v' W h hxE)
      have HF := Lib.hid (fun v' W (h : CasV W v' (c.withF [f])) => Fees_good _ v' W h hxE)
      have HO := Lib.hid (fun v' W (h : CasV W v' (c.withF [f])) => Offers_good _ v' W h hxE)
      have HC : Hid (∀ v' W, CasV W v' (c.withF [f]) → Calls Tryz.prog 17 #[v', .int .i64 0] W fun e w' => ∃ r, e = .returned (.tuple #[r, .int .i64 0]) ∧ IntsV w' r (countsS f) ∧ Ext W w') := Lib.hid (fun v' W h => Counts_good _ v' 0 W h hask)
      have HEV := Lib.hid (REvery_any c.tars f hfo)
      have hN := truthsN_le hfo
      have HTX : Hid (∀ i, i < truthsN f → ThrOK f (truthAt f i)) := Lib.hid (fun i hi => truthAt_ok hi)
      have HRP : Hid (∀ i, i < truthsN f → ∀ u W, Ext w W → ThrsV W u [truthAt f i] → Calls Tryz.prog 34 #[.agg #[.slice a1 c.tars.length c1, .int .i64 c.day, .int .i64 c.fee, .slice (some ⟨b, off, none⟩) 1 c2], u] W fun e w' => ∃ a q, e = .returned (.agg #[.slice a 1 q, .int .i64 (sumT (c.withF [f]) [f] [truthAt f i]).award, .int .i64 (feeA c.fee (sumT (c.withF [f]) [f] [truthAt f i])), .int .i64 (feeB c.fee (sumT (c.withF [f]) [f] [truthAt f i]))]) ∧ IntsV w' (.slice a 1 q) [settledS f (truthAt f i)] ∧ (∀ g o, a = some ⟨g, o, none⟩ → W.heap.size ≤ g) ∧ Ext W w') := Lib.hid (fun i hi u W hx h => RPlay_new (c.withF [f]) _ [truthAt f i] u W (HXV.out W hx) hxok hx0 h (.cons (HTX.out i hi) .nil))
      have HRB : Hid (∀ i, i < truthsN f → (0 ≤ (sumT (c.withF [f]) [f] [truthAt f i]).award ∧ (sumT (c.withF [f]) [f] [truthAt f i]).award ≤ 300000) ∧ (0 ≤ feeA c.fee (sumT (c.withF [f]) [f] [truthAt f i]) ∧ feeA c.fee (sumT (c.withF [f]) [f] [truthAt f i]) ≤ 10000) ∧ (0 ≤ feeB c.fee (sumT (c.withF [f]) [f] [truthAt f i]) ∧ feeB c.fee (sumT (c.withF [f]) [f] [truthAt f i]) ≤ 10000)) := Lib.hid (fun i hi => by
        have h : ResB (c.withF [f]) [truthAt f i] := res_b hxok hx0 (.cons (HTX.out i hi) .nil)
        exact ⟨h.aw, h.fa, h.fb⟩)
      have HMN : Hid (∀ i k, metB (c.withF [f]) f (i + 1) k = (metB (c.withF [f]) f i k || nowB (c.withF [f]) (sumT (c.withF [f]) [f] [truthAt f i]) k)) := Lib.hid (metB_next _ f)
      have HMA : Hid (∀ k, metB (c.withF [f]) f (truthsN f) k = true) := Lib.hid (metB_all hxok rfl)
      have HST : Hid (∀ i, i < truthsN f → ∃ m : Nat, settledS f (truthAt f i) = (m : Int) ∧ m < 101) := Lib.hid (fun i hi => by
        have hx := truthAt_ok hi
        have hfr := hfo.r
        have := hx.a; have := hx.b; have := hfr.a; have := hfr.b
        have := settled_bd (f := f) (x := truthAt f i) (by omega) (by omega)
        exact ⟨(settledS f (truthAt f i)).toNat, by omega, by omega⟩)
      have HSA := Lib.hid (seenB_all f)
      have HS0 := Lib.hid (seenB_zero f)
      have HM0 := Lib.hid (metB_zero (c.withF [f]) f)
      have HSN := Lib.hid (fun (i m : Nat) (h : settledS f (truthAt f i) = (m : Int)) => seenB_next f i m h)
      have HIC := Lib.hid (fun n (hn : n < 101) => isCount_mem (f := f) hn)
      have HCE : Hid (∀ (W : World), Ext w W → W.cell? ⟨b, off, none⟩ = some f.c.c0 ∧ W.cell? ⟨b, off + 1, none⟩ = some f.c.c1 ∧ W.cell? ⟨b, off + 2, none⟩ = some f.c.c2 ∧ W.cell? ⟨b, off + 3, none⟩ = some f.c.c3 ∧ W.cell? ⟨b, off + 4, none⟩ = some f.c.c4 ∧ W.cell? ⟨b, off + 5, none⟩ = some f.c.c5 ∧ W.cell? ⟨b, off + 6, none⟩ = some f.c.c6 ∧ W.cell? ⟨b, off + 7, none⟩ = some f.c.c7 ∧ W.cell? ⟨b, off + 8, none⟩ = some f.c.c8) := Lib.hid (fun W hx => by
        have := HF9.out.ext hx b (off + 0 * 9)
        simpa [Cell9] using this)
      have hc1 : ¬ c2 = 0 := by omega
      have hc2' : (1 : Int) ≤ (c2 : Int) := by omega
      have hc3 : 1 ≤ c2 := by omega
      have hnI : (0 : Int) < (c.flds.length : Int) := by omega
      have hnB : ((c.flds.length : Int) == 0) = false := by rw [beq_eq_false_iff_ne]; omega
      have hnZ : ¬ (c.flds.length : Int) = 0 := by omega
      clear hcv hok hxE hxok hx0 hask hce9 hfo HV hr htc hce htt HF9 HXV hqc hfv
      obtain ⟨fc0, fc1, fc2, fc3, fc4, fc5, fc6, fc7, fc8, hfc⟩ : ∃ c0 c1 c2 c3 c4 c5 c6 c7 c8, f.c = ⟨c0, c1, c2, c3, c4, c5, c6, c7, c8⟩ := ⟨_, _, _, _, _, _, _, _, _, rfl⟩
      have hfcv : f.c.val = .agg #[fc0, fc1, fc2, fc3, fc4, fc5, fc6, fc7, fc8] := by rw [hfc]
      rw [hfcv] at HEV
      rw [hfc] at HCE
      simp only at HCE
      clear hfc hfcv
      generalize hcx : c.withF [f] = cx at *
      have HFE : Hid (cx.fee = c.fee) := Lib.hid (by rw [← hcx]; rfl)
      clear hcx
      generalize hu0 : bLo cx 0 = u0 at *
      generalize ht0 : bHi cx 0 = t0 at *
      generalize hu1 : bLo cx 1 = u1 at *
      generalize ht1 : bHi cx 1 = t1 at *
      generalize hu2 : bLo cx 2 = u2 at *
      generalize ht2 : bHi cx 2 = t2 at *
      generalize hu3 : bLo cx 3 = u3 at *
      generalize ht4 : bHi cx 4 = t4 at *
      have HNB : Hid (∀ s : Sm, nowB cx s 0 = (s.award == u0) ∧ nowB cx s 1 = (s.award == t0) ∧ nowB cx s 2 = (feeA c.fee s == u1) ∧ nowB cx s 3 = (feeA c.fee s == t1) ∧ nowB cx s 4 = (feeB c.fee s == u2) ∧ nowB cx s 5 = (feeB c.fee s == t2) ∧ nowB cx s 6 = (s.award - feeA c.fee s == u3) ∧ nowB cx s 7 = (s.award + feeB c.fee s == t4)) := Lib.hid (fun s => by
        rw [← hu0, ← ht0, ← hu1, ← ht1, ← hu2, ← ht2, ← hu3, ← ht4, ← HFE.out]
        exact ⟨rfl, rfl, rfl, rfl, rfl, rfl, rfl, rfl⟩)
      clear hu0 ht0 hu1 ht1 hu2 ht2 hu3 ht4
      go_enter Tryz.func5, Tryz.ntmps5
      go_wp2_with fail
      have X : Ext w (w.alloc (.cells #[.slice a1 c.tars.length c1, .int .i64 c.day, .int .i64 c.fee, .slice (some ⟨b, off, none⟩) c.flds.length c2] 25)) := by (repeat (first | exact Ext.refl _ | (with_reducible assumption) | (with_reducible refine Ext.drew ?_) | (with_reducible refine Ext.alloc ?_ _) | (with_reducible refine Ext.drewN ?_ _) | (with_reducible refine Ext.setCell ?_ (by omega) _) | (with_reducible refine Ext.trans ?_ (by with_reducible assumption))))
      have HS : Hid (∀ w', Ext (w.alloc (.cells #[.slice a1 c.tars.length c1, .int .i64 c.day, .int .i64 c.fee, .slice (some ⟨b, off, none⟩) c.flds.length c2] 25)) w' → (w'.cell? ⟨w.heap.size, 0, none⟩ = some (.slice a1 c.tars.length c1) ∧ w'.cell? ⟨w.heap.size, 1, none⟩ = some (.int .i64 c.day) ∧ w'.cell? ⟨w.heap.size, 2, none⟩ = some (.int .i64 c.fee) ∧ w'.cell? ⟨w.heap.size, 3, none⟩ = some (.slice (some ⟨b, off, none⟩) c.flds.length c2)) ∧ Ext (w.alloc (.cells #[.slice a1 c.tars.length c1, .int .i64 c.day, .int .i64 c.fee, .slice (some ⟨b, off, none⟩) c.flds.length c2] 25)) w') := Lib.hid (fun w' hx => ⟨⟨hx.keep (by simp [go_sem]), hx.keep (by simp [go_sem]), hx.keep (by simp [go_sem]), hx.keep (by simp [go_sem])⟩, hx⟩)
      have HSf : Hid (∀ w', Ext (w.alloc (.cells #[.slice a1 c.tars.length c1, .int .i64 c.day, .int .i64 c.fee, .slice (some ⟨b, off, none⟩) c.flds.length c2] 25)) w' → ∀ o, w'.frozen? ⟨w.heap.size, o, none⟩ = false) := Lib.hid (fun w' hx o => (hx.frozen (by simp)).trans (by simp [go_sem]))
      have HSz : w.heap.size + 1 ≤ (w.alloc (.cells #[.slice a1 c.tars.length c1, .int .i64 c.day, .int .i64 c.fee, .slice (some ⟨b, off, none⟩) c.flds.length c2] 25)).heap.size := by simp
      generalize (w.alloc (.cells #[.slice a1 c.tars.length c1, .int .i64 c.day, .int .i64 c.fee, .slice (some ⟨b, off, none⟩) c.flds.length c2] 25)) = W at *
      (with_reducible refine (HRD.out _ X).mono ?_)
      rintro e w1 ⟨rfl, hx1⟩
      have X1 := X.trans hx1
      obtain ⟨q0, q1, q2, q3⟩ := (HS.out w1 hx1).1
      have hbw : w.heap.size < w1.heap.size := Nat.lt_of_lt_of_le HSz hx1.size
      clear X hx1 HRD HS HSf HSz
      have q3_a := fun o => ((Ext.refl w1).alloc o).keep q3
      go_wp2_with fail
      (with_reducible refine (HCF1.out _ (X1.trans (by (repeat (first | exact Ext.refl _ | (with_reducible assumption) | (with_reducible refine Ext.drew ?_) | (with_reducible refine Ext.alloc ?_ _) | (with_reducible refine Ext.drewN ?_ _) | (with_reducible refine Ext.setCell ?_ (by omega) _) | (with_reducible refine Ext.trans ?_ (by with_reducible assumption))))))).mono ?_)
      rintro e w2 ⟨vc, rfl, hv, hx⟩
      have hy : Ext w1 w2 := by (repeat (first | exact Ext.refl _ | (with_reducible assumption) | (with_reducible refine Ext.drew ?_) | (with_reducible refine Ext.alloc ?_ _) | (with_reducible refine Ext.drewN ?_ _) | (with_reducible refine Ext.setCell ?_ (by omega) _) | (with_reducible refine Ext.trans ?_ (by with_reducible assumption))))
      have x0 := hx.keep (k := w1.heap.size) (o := 0) (v := .slice a1 c.tars.length c1) (by simp [go_sem])
      have x1 := hx.keep (k := w1.heap.size) (o := 1) (v := .int .i64 c.day) (by simp [go_sem])
      have x2 := hx.keep (k := w1.heap.size) (o := 2) (v := .int .i64 c.fee) (by simp [go_sem])
      have x3 := hx.keep (k := w1.heap.size) (o := 3) (v := .slice (some ⟨b, off, none⟩) 1 c2) (by simp [go_sem])
      replace X1 := X1.trans hy
      clear hx hy
      clear q0 q1 q2 q3 q3_a
      go_wp2_with fail
      (with_reducible refine (HA.out _ _ hv).mono ?_)
      rintro e w3 ⟨rfl, hx⟩
      have hy : Ext w2 w3 := by (repeat (first | exact Ext.refl _ | (with_reducible assumption) | (with_reducible refine Ext.drew ?_) | (with_reducible refine Ext.alloc ?_ _) | (with_reducible refine Ext.drewN ?_ _) | (with_reducible refine Ext.setCell ?_ (by omega) _) | (with_reducible refine Ext.trans ?_ (by with_reducible assumption))))
      replace X1 := X1.trans hy
      replace x0 := hy.keep x0
      try clear x0_a
      have x0_a := fun o => ((Ext.refl w3).alloc o).keep x0
      replace x1 := hy.keep x1
      try clear x1_a
      have x1_a := fun o => ((Ext.refl w3).alloc o).keep x1
      replace x2 := hy.keep x2
      try clear x2_a
      have x2_a := fun o => ((Ext.refl w3).alloc o).keep x2
      replace x3 := hy.keep x3
      try clear x3_a
      have x3_a := fun o => ((Ext.refl w3).alloc o).keep x3
      clear hx hy
      clear hv
      go_wp2_with fail
      (with_reducible refine (HCF1.out _ (X1.trans (by (repeat (first | exact Ext.refl _ | (with_reducible assumption) | (with_reducible refine Ext.drew ?_) | (with_reducible refine Ext.alloc ?_ _) | (with_reducible refine Ext.drewN ?_ _) | (with_reducible refine Ext.setCell ?_ (by omega) _) | (with_reducible refine Ext.trans ?_ (by with_reducible assumption))))))).mono ?_)
      rintro e w4 ⟨vc, rfl, hv, hx⟩
      have hy : Ext w3 w4 := by (repeat (first | exact Ext.refl _ | (with_reducible assumption) | (with_reducible refine Ext.drew ?_) | (with_reducible refine Ext.alloc ?_ _) | (with_reducible refine Ext.drewN ?_ _) | (with_reducible refine Ext.setCell ?_ (by omega) _) | (with_reducible refine Ext.trans ?_ (by with_reducible assumption))))
      have aa0 := hx.keep (k := w3.heap.size) (o := 0) (v := .int .i64 u0) (by simp [go_sem])
      have aa1 := hx.keep (k := w3.heap.size) (o := 1) (v := .int .i64 t0) (by simp [go_sem])
      replace X1 := X1.trans hy
      replace x0 := hy.keep x0
      replace x1 := hy.keep x1
      replace x2 := hy.keep x2
      replace x3 := hy.keep x3
      clear hx hy
      clear x0_a x1_a x2_a x3_a
      go_wp2_with fail
      (with_reducible refine (HF.out _ _ hv).mono ?_)
      rintro e w5 ⟨rfl, hx⟩
      have hy : Ext w4 w5 := by (repeat (first | exact Ext.refl _ | (with_reducible assumption) | (with_reducible refine Ext.drew ?_) | (with_reducible refine Ext.alloc ?_ _) | (with_reducible refine Ext.drewN ?_ _) | (with_reducible refine Ext.setCell ?_ (by omega) _) | (with_reducible refine Ext.trans ?_ (by with_reducible assumption))))
      replace X1 := X1.trans hy
      replace x0 := hy.keep x0
      try clear x0_a
      have x0_a := fun o => ((Ext.refl w5).alloc o).keep x0
      replace x1 := hy.keep x1
      try clear x1_a
      have x1_a := fun o => ((Ext.refl w5).alloc o).keep x1
      replace x2 := hy.keep x2
      try clear x2_a
      have x2_a := fun o => ((Ext.refl w5).alloc o).keep x2
      replace x3 := hy.keep x3
      try clear x3_a
      have x3_a := fun o => ((Ext.refl w5).alloc o).keep x3
      replace aa0 := hy.keep aa0
      replace aa1 := hy.keep aa1
      clear hx hy
      clear hv
      have x0_b := fun o o' => (((Ext.refl w5).alloc o).alloc o').keep x0
      have x1_b := fun o o' => (((Ext.refl w5).alloc o).alloc o').keep x1
      have x2_b := fun o o' => (((Ext.refl w5).alloc o).alloc o').keep x2
      have x3_b := fun o o' => (((Ext.refl w5).alloc o).alloc o').keep x3
      go_wp2_with fail
      (with_reducible refine (HCF1.out _ (X1.trans (by (repeat (first | exact Ext.refl _ | (with_reducible assumption) | (with_reducible refine Ext.drew ?_) | (with_reducible refine Ext.alloc ?_ _) | (with_reducible refine Ext.drewN ?_ _) | (with_reducible refine Ext.setCell ?_ (by omega) _) | (with_reducible refine Ext.trans ?_ (by with_reducible assumption))))))).mono ?_)
      rintro e w6 ⟨vc, rfl, hv, hx⟩
      have hy : Ext w5 w6 := by (repeat (first | exact Ext.refl _ | (with_reducible assumption) | (with_reducible refine Ext.drew ?_) | (with_reducible refine Ext.alloc ?_ _) | (with_reducible refine Ext.drewN ?_ _) | (with_reducible refine Ext.setCell ?_ (by omega) _) | (with_reducible refine Ext.trans ?_ (by with_reducible assumption))))
      have pp0 := hx.keep (k := w5.heap.size) (o := 0) (v := .int .i64 u1) (by simp [go_sem])
      have pp1 := hx.keep (k := w5.heap.size) (o := 1) (v := .int .i64 t1) (by simp [go_sem])
      have qq0 := hx.keep (k := w5.heap.size + 1) (o := 0) (v := .int .i64 u2) (by simp [go_sem])
      have qq1 := hx.keep (k := w5.heap.size + 1) (o := 1) (v := .int .i64 t2) (by simp [go_sem])
      replace X1 := X1.trans hy
      replace x0 := hy.keep x0
      replace x1 := hy.keep x1
      replace x2 := hy.keep x2
      replace x3 := hy.keep x3
      replace aa0 := hy.keep aa0
      replace aa1 := hy.keep aa1
      clear hx hy
      clear x0_a x1_a x2_a x3_a x0_b x1_b x2_b x3_b
      go_wp2_with fail
      (with_reducible refine (HO.out _ _ hv).mono ?_)
      rintro e w7 ⟨rfl, hx⟩
      have hy : Ext w6 w7 := by (repeat (first | exact Ext.refl _ | (with_reducible assumption) | (with_reducible refine Ext.drew ?_) | (with_reducible refine Ext.alloc ?_ _) | (with_reducible refine Ext.drewN ?_ _) | (with_reducible refine Ext.setCell ?_ (by omega) _) | (with_reducible refine Ext.trans ?_ (by with_reducible assumption))))
      replace X1 := X1.trans hy
      replace x0 := hy.keep x0
      try clear x0_a
      have x0_a := fun o => ((Ext.refl w7).alloc o).keep x0
      replace x1 := hy.keep x1
      try clear x1_a
      have x1_a := fun o => ((Ext.refl w7).alloc o).keep x1
      replace x2 := hy.keep x2
      try clear x2_a
      have x2_a := fun o => ((Ext.refl w7).alloc o).keep x2
      replace x3 := hy.keep x3
      try clear x3_a
      have x3_a := fun o => ((Ext.refl w7).alloc o).keep x3
      replace aa0 := hy.keep aa0
      replace aa1 := hy.keep aa1
      replace pp0 := hy.keep pp0
      replace pp1 := hy.keep pp1
      replace qq0 := hy.keep qq0
      replace qq1 := hy.keep qq1
      clear hx hy
      clear hv
      go_wp2_with fail
      (with_reducible refine (HCF1.out _ (X1.trans (by (repeat (first | exact Ext.refl _ | (with_reducible assumption) | (with_reducible refine Ext.drew ?_) | (with_reducible refine Ext.alloc ?_ _) | (with_reducible refine Ext.drewN ?_ _) | (with_reducible refine Ext.setCell ?_ (by omega) _) | (with_reducible refine Ext.trans ?_ (by with_reducible assumption))))))).mono ?_)
      rintro e w8 ⟨vc, rfl, hv, hx⟩
      have hy : Ext w7 w8 := by (repeat (first | exact Ext.refl _ | (with_reducible assumption) | (with_reducible refine Ext.drew ?_) | (with_reducible refine Ext.alloc ?_ _) | (with_reducible refine Ext.drewN ?_ _) | (with_reducible refine Ext.setCell ?_ (by omega) _) | (with_reducible refine Ext.trans ?_ (by with_reducible assumption))))
      have oo0 := hx.keep (k := w7.heap.size) (o := 0) (v := .int .i64 u3) (by simp [go_sem])
      have oo1 := hx.keep (k := w7.heap.size) (o := 1) (v := .int .i64 t4) (by simp [go_sem])
      replace X1 := X1.trans hy
      replace x0 := hy.keep x0
      replace x1 := hy.keep x1
      replace x2 := hy.keep x2
      replace x3 := hy.keep x3
      replace aa0 := hy.keep aa0
      replace aa1 := hy.keep aa1
      replace pp0 := hy.keep pp0
      replace pp1 := hy.keep pp1
      replace qq0 := hy.keep qq0
      replace qq1 := hy.keep qq1
      clear hx hy
      clear x0_a x1_a x2_a x3_a
      go_wp2_with fail
      (with_reducible refine (HC.out _ _ hv).mono ?_)
      rintro e w9 ⟨rl, rfl, hrl, hx⟩
      have hy : Ext w8 w9 := by (repeat (first | exact Ext.refl _ | (with_reducible assumption) | (with_reducible refine Ext.drew ?_) | (with_reducible refine Ext.alloc ?_ _) | (with_reducible refine Ext.drewN ?_ _) | (with_reducible refine Ext.setCell ?_ (by omega) _) | (with_reducible refine Ext.trans ?_ (by with_reducible assumption))))
      replace X1 := X1.trans hy
      replace x0 := hy.keep x0
      replace x1 := hy.keep x1
      replace x2 := hy.keep x2
      replace x3 := hy.keep x3
      replace aa0 := hy.keep aa0
      replace aa1 := hy.keep aa1
      replace pp0 := hy.keep pp0
      replace pp1 := hy.keep pp1
      replace qq0 := hy.keep qq0
      replace qq1 := hy.keep qq1
      replace oo0 := hy.keep oo0
      replace oo1 := hy.keep oo1
      clear hx hy
      clear hv HA HF HO HC HCF1
      obtain ⟨m0, m1, m2, m3, m4, m5, m6, m7, m8⟩ := HCE.out w9 X1
      go_wp2_with fail
      (with_reducible refine (HEV.out _).mono ?_)
      rintro e w10 ⟨ea, eq, rfl, hrow, hx⟩
      have hy : Ext w9 w10 := by (repeat (first | exact Ext.refl _ | (with_reducible assumption) | (with_reducible refine Ext.drew ?_) | (with_reducible refine Ext.alloc ?_ _) | (with_reducible refine Ext.drewN ?_ _) | (with_reducible refine Ext.setCell ?_ (by omega) _) | (with_reducible refine Ext.trans ?_ (by with_reducible assumption))))
      replace X1 := X1.trans hy
      replace x0 := hy.keep x0
      replace x1 := hy.keep x1
      replace x2 := hy.keep x2
      replace x3 := hy.keep x3
      replace aa0 := hy.keep aa0
      replace aa1 := hy.keep aa1
      replace pp0 := hy.keep pp0
      replace pp1 := hy.keep pp1
      replace qq0 := hy.keep qq0
      replace qq1 := hy.keep qq1
      replace oo0 := hy.keep oo0
      replace oo1 := hy.keep oo1
      replace hrl := hrl.ext hy
      clear hx hy
      clear m0 m1 m2 m3 m4 m5 m6 m7 m8 HCE HEV
      have hrow0 := hrow
      clear hrow
      have k1 := lt_of_cell x0
      have k3 := lt_of_cell aa0
      have k5 := lt_of_cell pp0
      have k6 := lt_of_cell qq0
      have k7 := lt_of_cell oo0
      obtain ⟨rla, rlq, rfl, -⟩ := id hrl
      go_upto_region 15 with fail
      rw [zeroR101]
      have g1 : BitsAt w10.heap.size 8 (fun _ => false) (w10.alloc (.cells #[.bool false, .bool false, .bool false, .bool false, .bool false, .bool false, .bool false, .bool false] 61)) := bits_of (BoxN.made (vs := [.bool false, .bool false, .bool false, .bool false, .bool false, .bool false, .bool false, .bool false]) (Ext.refl w10)) rfl rfl rfl rfl rfl rfl rfl rfl
      have g2 := zero_bits (w10.alloc (.cells #[.bool false, .bool false, .bool false, .bool false, .bool false, .bool false, .bool false, .bool false] 61)) 62
      have hE0 : EndsI ((w10.alloc (.cells #[.bool false, .bool false, .bool false, .bool false, .bool false, .bool false, .bool false, .bool false] 61)).alloc (.cells (Array.replicate 101 (.bool false)) 62)) w10.heap.size (w10.heap.size + 1) cx f 0 ((w10.alloc (.cells #[.bool false, .bool false, .bool false, .bool false, .bool false, .bool false, .bool false, .bool false] 61)).alloc (.cells (Array.replicate 101 (.bool false)) 62)) := ⟨KP.refl _, by rw [HM0.out]; exact g1.ext ((Ext.refl _).alloc _), fun o => by simp [go_sem], by rw [HS0.out]; rw [World.size_alloc] at g2; exact g2, fun o => by simp [go_sem]⟩
      have hx10 : Ext w10 ((w10.alloc (.cells #[.bool false, .bool false, .bool false, .bool false, .bool false, .bool false, .bool false, .bool false] 61)).alloc (.cells (Array.replicate 101 (.bool false)) 62)) := ((Ext.refl _).alloc _).alloc _
      have hsz11 : ((w10.alloc (.cells #[.bool false, .bool false, .bool false, .bool false, .bool false, .bool false, .bool false, .bool false] 61)).alloc (.cells (Array.replicate 101 (.bool false)) 62)).heap.size = w10.heap.size + 1 + 1 := by simp
      replace X1 := X1.trans hx10
      replace x0 := hx10.keep x0
      replace x1 := hx10.keep x1
      replace x2 := hx10.keep x2
      replace x3 := hx10.keep x3
      replace aa0 := hx10.keep aa0
      replace aa1 := hx10.keep aa1
      replace pp0 := hx10.keep pp0
      replace pp1 := hx10.keep pp1
      replace qq0 := hx10.keep qq0
      replace qq1 := hx10.keep qq1
      replace oo0 := hx10.keep oo0
      replace oo1 := hx10.keep oo1

      have HRL := Lib.hid hrl
      generalize (w10.alloc (.cells #[.bool false, .bool false, .bool false, .bool false, .bool false, .bool false, .bool false, .bool false] 61)).alloc (.cells (Array.replicate 101 (.bool false)) 62) = w11 at *
      have HX10 := Lib.hid hx10
      have HX11 := Lib.hid X1
      have HRW := Lib.hid hrow0
      have HE0 := Lib.hid hE0
      have HQ : Hid (∀ wr, KP (fun j => j = w10.heap.size ∨ j = w10.heap.size + 1) w11 wr → (wr.cell? ⟨w1.heap.size, 0, none⟩ = some (.slice a1 c.tars.length c1) ∧ wr.cell? ⟨w1.heap.size, 1, none⟩ = some (.int .i64 c.day) ∧ wr.cell? ⟨w1.heap.size, 2, none⟩ = some (.int .i64 c.fee) ∧ wr.cell? ⟨w1.heap.size, 3, none⟩ = some (.slice (some ⟨b, off, none⟩) 1 c2)) ∧ (wr.cell? ⟨w3.heap.size, 0, none⟩ = some (.int .i64 u0) ∧ wr.cell? ⟨w3.heap.size, 1, none⟩ = some (.int .i64 t0)) ∧ (wr.cell? ⟨w5.heap.size, 0, none⟩ = some (.int .i64 u1) ∧ wr.cell? ⟨w5.heap.size, 1, none⟩ = some (.int .i64 t1)) ∧ (wr.cell? ⟨w5.heap.size + 1, 0, none⟩ = some (.int .i64 u2) ∧ wr.cell? ⟨w5.heap.size + 1, 1, none⟩ = some (.int .i64 t2)) ∧ (wr.cell? ⟨w7.heap.size, 0, none⟩ = some (.int .i64 u3) ∧ wr.cell? ⟨w7.heap.size, 1, none⟩ = some (.int .i64 t4))) := Lib.hid (fun wr h => ⟨⟨h.keep (by omega) x0, h.keep (by omega) x1, h.keep (by omega) x2, h.keep (by omega) x3⟩, ⟨h.keep (by omega) aa0, h.keep (by omega) aa1⟩, ⟨h.keep (by omega) pp0, h.keep (by omega) pp1⟩, ⟨h.keep (by omega) qq0, h.keep (by omega) qq1⟩, h.keep (by omega) oo0, h.keep (by omega) oo1⟩)
      clear hx10 X1 hrow0 hrl hE0 x0 x1 x2 x3 aa0 aa1 pp0 pp1 qq0 qq1 oo0 oo1 g1 g2
      generalize hNN : truthsN f = N at *
      have HNN := Lib.hid hNN
      clear hNN
      go_loopw [16] (fun s16 wr => ∃ i : Nat, i ≤ N ∧ s16 = .int .i64 i ∧ Hid (EndsI w11 w10.heap.size (w10.heap.size + 1) cx f i wr)) (fun s _ => N - (intOf s).toNat)
      case atStart => exact ⟨0, Nat.zero_le _, rfl, HE0⟩
      case round =>
        obtain ⟨i, hi, rfl, HI⟩ := hrel
        obtain ⟨wo, rfl⟩ : ∃ x, x = wr := ⟨_, rfl⟩
        have XO : Ext w wo := HI.out.kp.toExt HX11.out (fun j hj => by omega)
        obtain ⟨⟨x0, x1, x2, x3⟩, -⟩ := HQ.out wo HI.out.kp
        by_cases hlt : i < N
        · --DEV2
          obtain ⟨be, oe, rfl, -, hc3⟩ := HRW.out.at hlt
          have hbe : be < w10.heap.size := lt_of_cell hc3.1
          have hc3 := (hc3.ext HX10.out be _).kp HI.out.kp (by omega)
          have HRP1 := Lib.hid (HRP.out i hlt)
          obtain ⟨hb1, hb2, hb3⟩ := HRB.out i hlt
          have HNB1 := Lib.hid (HNB.out (sumT cx [f] [truthAt f i]))
          obtain ⟨m, hm, hml⟩ := HST.out i hlt
          rw [hm] at HRP1
          have HNXT : Hid (∀ w w7 g, EndsI w11 w10.heap.size (w10.heap.size + 1) cx f i w → SeenI w w10.heap.size (metB cx f i) g 8 w7 → (∀ k, metB cx f (i + 1) k = (metB cx f i k || g k)) → EndsI w11 w10.heap.size (w10.heap.size + 1) cx f (i + 1) (w7.setCell ⟨w10.heap.size + 1, m, none⟩ (.bool true))) := Lib.hid (fun w w7 g h h8 hg => h.next h8 hg hm (by omega))
          have HMN1 := Lib.hid (HMN.out i)
          have HTS : w10.heap.size + 1 < wo.heap.size := lt_of_cell (HI.out.is 0 (by decide))
          clear hm HRW HRP HRB HNB HST HMN HMA HSA HS0 HM0 HSN HIC HE0 HRL HAW
          generalize sumT cx [f] [truthAt f i] = s at *
          generalize s.award = A at *
          generalize feeA c.fee s = F at *
          generalize feeB c.fee s = S2 at *
          have HTA : Hid (∃ x, x = truthAt f i) := Lib.hid ⟨_, rfl⟩
          have HRP2 : Hid (∀ u W, Ext w W → ThrsV W u [truthAt f i] → Calls Tryz.prog 34 #[.agg #[.slice a1 c.tars.length c1, .int .i64 c.day, .int .i64 c.fee, .slice (some ⟨b, off, none⟩) 1 c2], u] W fun e w' => ∃ a q, e = .returned (.agg #[.slice a 1 q, .int .i64 A, .int .i64 F, .int .i64 S2]) ∧ IntsV w' (.slice a 1 q) [(m : Int)] ∧ (∀ g o, a = some ⟨g, o, none⟩ → W.heap.size ≤ g) ∧ Ext W w') := HRP1
          clear HRP1 HTA
          generalize truthAt f i = x at *
          obtain ⟨A3, B3, U3⟩ := x
          obtain ⟨d0, d1, d2⟩ := hc3
          simp only [Thr.c] at d0 d1 d2
          have hw1 : IntKind.i64.wrap (A - F) = A - F := IntWalk.i64_in _ (by omega)
          have hw2 : IntKind.i64.wrap (A + S2) = A + S2 := IntWalk.i64_in _ (by omega)
          have hk0 : (0 : Int) ≤ (i : Int) := by omega
          have hki : (i : Int) < (N : Int) := by omega
          have HXO := Lib.hid XO
          have HSX : Hid (∀ w', Ext wo w' → ((w'.cell? ⟨w1.heap.size, 0, none⟩ = some (.slice a1 c.tars.length c1) ∧ w'.cell? ⟨w1.heap.size, 1, none⟩ = some (.int .i64 c.day) ∧ w'.cell? ⟨w1.heap.size, 2, none⟩ = some (.int .i64 c.fee) ∧ w'.cell? ⟨w1.heap.size, 3, none⟩ = some (.slice (some ⟨b, off, none⟩) 1 c2)) ∧ (w'.cell? ⟨be, oe + i * 3, none⟩ = some (.int .i64 A3) ∧ w'.cell? ⟨be, oe + i * 3 + 1, none⟩ = some (.int .i64 B3) ∧ w'.cell? ⟨be, oe + i * 3 + 2, none⟩ = some (.int .i64 U3))) ∧ Ext wo w') := Lib.hid (fun w' h => ⟨⟨⟨h.keep x0, h.keep x1, h.keep x2, h.keep x3⟩, h.keep d0, h.keep d1, h.keep d2⟩, h⟩)
          clear XO x0 x1 x2 x3 d0 d1 d2
          go_upto_region 17 with fail
          go_cut [17] from 87 to 93 (fun s17 wx => ∃ R br or qr, s17 = .pointer (some ⟨R, 0, none⟩) ∧ BoxN wo R [.slice (some ⟨br, or, none⟩) 1 qr, .int .i64 A, .int .i64 F, .int .i64 S2] wx ∧ wx.cell? ⟨br, or, none⟩ = some (.int .i64 (m : Int)) ∧ wo.heap.size ≤ br)
          case first =>
            --DEV
            clear HI HQ HNB1 HNXT HMN1 HX10 HX11
            refine wp_region_held_drew (S := (fun w' => ((w'.cell? ⟨w1.heap.size, 0, none⟩ = some (.slice a1 c.tars.length c1) ∧ w'.cell? ⟨w1.heap.size, 1, none⟩ = some (.int .i64 c.day) ∧ w'.cell? ⟨w1.heap.size, 2, none⟩ = some (.int .i64 c.fee) ∧ w'.cell? ⟨w1.heap.size, 3, none⟩ = some (.slice (some ⟨b, off, none⟩) 1 c2)) ∧ (w'.cell? ⟨be, oe + i * 3, none⟩ = some (.int .i64 A3) ∧ w'.cell? ⟨be, oe + i * 3 + 1, none⟩ = some (.int .i64 B3) ∧ w'.cell? ⟨be, oe + i * 3 + 2, none⟩ = some (.int .i64 U3))) ∧ Ext wo w')) (by kernel_rfl) ?_ (fun hHeld => ?_)
            focus ((try dsimp only); (refine HSX.out _ ?_; (repeat (first | exact Ext.refl _ | (with_reducible assumption) | (with_reducible refine Ext.drew ?_) | (with_reducible refine Ext.alloc ?_ _) | (with_reducible refine Ext.drewN ?_ _) | (with_reducible refine Ext.setCell ?_ (by omega) _) | (with_reducible refine Ext.trans ?_ (by with_reducible assumption))))))
            refine wpAnyH_take (i := 0) (v := ?_) rfl (by kernel_rfl) (by decide +kernel) (by decide +kernel) (fun _ _ _ h => h) (Or.inl ⟨by rfl, ?_⟩) (by assumption) ?_
            rotate_left
            focus (intro w hSw; (try dsimp only at hSw); go_simp; try (first | (with_reducible rfl) | (with_reducible exact rfl)))
            (try simp only [Act.put, List.getElem_toArray, List.getElem_cons_succ, List.getElem_cons_zero, List.setIfInBounds_toArray, List.set_cons_zero, List.set_cons_succ])
            refine wpAnyH_take (i := 1) (v := ?_) rfl (by kernel_rfl) (by decide +kernel) (by decide +kernel) (fun _ _ _ h => h) (Or.inl ⟨by rfl, ?_⟩) (by assumption) ?_
            rotate_left
            focus (intro w hSw; (try dsimp only at hSw); go_simp; try (first | (with_reducible rfl) | (with_reducible exact rfl)))
            (try simp only [Act.put, List.getElem_toArray, List.getElem_cons_succ, List.getElem_cons_zero, List.setIfInBounds_toArray, List.set_cons_zero, List.set_cons_succ])
            refine wpAnyH_take (i := 2) (v := ?_) rfl (by kernel_rfl) (by decide +kernel) (by decide +kernel) (fun _ _ _ h => h) (Or.inl ⟨by rfl, ?_⟩) (by assumption) ?_
            rotate_left
            focus (intro w hSw; (try dsimp only at hSw); go_simp; try (first | (with_reducible rfl) | (with_reducible exact rfl)))
            (try simp only [Act.put, List.getElem_toArray, List.getElem_cons_succ, List.getElem_cons_zero, List.setIfInBounds_toArray, List.set_cons_zero, List.set_cons_succ])
            refine wpAnyH_take (i := 3) (v := ?_) rfl (by kernel_rfl) (by decide +kernel) (by decide +kernel) (fun _ _ _ h => h) (Or.inl ⟨by rfl, ?_⟩) (by assumption) ?_
            rotate_left
            focus (intro w hSw; (try dsimp only at hSw); go_simp; try (first | (with_reducible rfl) | (with_reducible exact rfl)))
            (try simp only [Act.put, List.getElem_toArray, List.getElem_cons_succ, List.getElem_cons_zero, List.setIfInBounds_toArray, List.set_cons_zero, List.set_cons_succ])
            refine wpAnyH_take (i := 4) (v := ?_) rfl (by kernel_rfl) (by decide +kernel) (by decide +kernel) (fun _ _ _ h => h) (Or.inl ⟨by rfl, ?_⟩) (by assumption) ?_
            rotate_left
            focus (intro w hSw; (try dsimp only at hSw); go_simp; try (first | (with_reducible rfl) | (with_reducible exact rfl)))
            (try simp only [Act.put, List.getElem_toArray, List.getElem_cons_succ, List.getElem_cons_zero, List.setIfInBounds_toArray, List.set_cons_zero, List.set_cons_succ])
            repeat' (first
              | (refine wpAnyH_ready (rs := [5, 7]) (by decide +kernel) (by simp) ?_
                 refine AllReadyH.cons rfl (fun K hK => ?_) ?_
                 focus
                   (go_simp; (first | refine alloc_gen (F := K _) ?_ | refine alloc_gend (F := K _) ?_); intro wB hxB hbB; have hsB := hxB.size; have hlB := hbB.lt; (try simp at hsB); (try simp at hlB))
                   refine hK.out _ _ ?_ (fun hNew => ?_)
                   focus ((try dsimp only); (refine HSX.out _ ?_; (repeat (first | exact Ext.refl _ | (with_reducible assumption) | (with_reducible refine Ext.drew ?_) | (with_reducible refine Ext.alloc ?_ _) | (with_reducible refine Ext.drewN ?_ _) | (with_reducible refine Ext.setCell ?_ (by omega) _) | (with_reducible refine Ext.trans ?_ (by with_reducible assumption))))))
                   clear hK K hHeld
                   have hHeld := hNew
                   clear hNew
                   (try simp only [Act.put, List.getElem_toArray, List.getElem_cons_succ, List.getElem_cons_zero, List.setIfInBounds_toArray, List.set_cons_zero, List.set_cons_succ])
                 rotate_left
                 refine AllReadyH.cons rfl (fun K hK => ?_) ?_
                 focus
                   (go_simp; (first | refine alloc_gen (F := K _) ?_ | refine alloc_gend (F := K _) ?_); intro wA hxA hbA; have hsA := hxA.size; have hlA := hbA.lt; (try simp at hsA); (try simp at hlA))
                   refine hK.out _ _ ?_ (fun hNew => ?_)
                   focus ((try dsimp only); (refine HSX.out _ ?_; (repeat (first | exact Ext.refl _ | (with_reducible assumption) | (with_reducible refine Ext.drew ?_) | (with_reducible refine Ext.alloc ?_ _) | (with_reducible refine Ext.drewN ?_ _) | (with_reducible refine Ext.setCell ?_ (by omega) _) | (with_reducible refine Ext.trans ?_ (by with_reducible assumption))))))
                   clear hK K hHeld
                   have hHeld := hNew
                   clear hNew
                   (try simp only [Act.put, List.getElem_toArray, List.getElem_cons_succ, List.getElem_cons_zero, List.setIfInBounds_toArray, List.set_cons_zero, List.set_cons_succ])
                 rotate_left
                 exact AllReadyH.nil)
              | (refine wpAnyH_ready (rs := [5]) (by decide +kernel) (by simp) ?_
                 refine AllReadyH.cons rfl (fun K hK => ?_) ?_
                 focus
                   (go_simp; (first | refine alloc_gen (F := K _) ?_ | refine alloc_gend (F := K _) ?_); intro wB hxB hbB; have hsB := hxB.size; have hlB := hbB.lt; (try simp at hsB); (try simp at hlB))
                   refine hK.out _ _ ?_ (fun hNew => ?_)
                   focus ((try dsimp only); (refine HSX.out _ ?_; (repeat (first | exact Ext.refl _ | (with_reducible assumption) | (with_reducible refine Ext.drew ?_) | (with_reducible refine Ext.alloc ?_ _) | (with_reducible refine Ext.drewN ?_ _) | (with_reducible refine Ext.setCell ?_ (by omega) _) | (with_reducible refine Ext.trans ?_ (by with_reducible assumption))))))
                   clear hK K hHeld
                   have hHeld := hNew
                   clear hNew
                   (try simp only [Act.put, List.getElem_toArray, List.getElem_cons_succ, List.getElem_cons_zero, List.setIfInBounds_toArray, List.set_cons_zero, List.set_cons_succ])
                 rotate_left
                 exact AllReadyH.nil)
              | (refine wpAnyH_ready (rs := [6, 7]) (by decide +kernel) (by simp) ?_
                 refine AllReadyH.cons rfl (fun K hK => ?_) ?_
                 focus
                   (go_simp; ((refine (HRP2.out _ _ (HXO.out.trans (by (repeat (first | exact Ext.refl _ | (with_reducible assumption) | (with_reducible refine Ext.drew ?_) | (with_reducible refine Ext.alloc ?_ _) | (with_reducible refine Ext.drewN ?_ _) | (with_reducible refine Ext.setCell ?_ (by omega) _) | (with_reducible refine Ext.trans ?_ (by with_reducible assumption)))))) (thr_box (hbB.keep (by (repeat (first | exact Ext.refl _ | (with_reducible assumption) | (with_reducible refine Ext.drew ?_) | (with_reducible refine Ext.alloc ?_ _) | (with_reducible refine Ext.drewN ?_ _) | (with_reducible refine Ext.setCell ?_ (by omega) _) | (with_reducible refine Ext.trans ?_ (by with_reducible assumption)))))))).mono ?_); rintro e w6 ⟨ar, qr, rfl, hri, hfr, hx6⟩; obtain ⟨br, or, rfl, hcr⟩ := hri.get 0 (by simp); have hbr := hfr br or rfl; (try simp at hbr); have hbl := lt_of_cell hcr; have hcr0 : w6.cell? ⟨br, or, none⟩ = some (.int .i64 (m : Int)) := (by simpa using hcr); clear hcr hri hfr; have hs6 := hx6.size; (try simp at hs6)); go_wp2_with fail)
                   refine hK.out _ _ ?_ (fun hNew => ?_)
                   focus ((try dsimp only); (refine HSX.out _ ?_; (repeat (first | exact Ext.refl _ | (with_reducible assumption) | (with_reducible refine Ext.drew ?_) | (with_reducible refine Ext.alloc ?_ _) | (with_reducible refine Ext.drewN ?_ _) | (with_reducible refine Ext.setCell ?_ (by omega) _) | (with_reducible refine Ext.trans ?_ (by with_reducible assumption))))))
                   clear hK K hHeld
                   have hHeld := hNew
                   clear hNew
                   (try simp only [Act.put, List.getElem_toArray, List.getElem_cons_succ, List.getElem_cons_zero, List.setIfInBounds_toArray, List.set_cons_zero, List.set_cons_succ])
                 rotate_left
                 refine AllReadyH.cons rfl (fun K hK => ?_) ?_
                 focus
                   (go_simp; (first | refine alloc_gen (F := K _) ?_ | refine alloc_gend (F := K _) ?_); intro wA hxA hbA; have hsA := hxA.size; have hlA := hbA.lt; (try simp at hsA); (try simp at hlA))
                   refine hK.out _ _ ?_ (fun hNew => ?_)
                   focus ((try dsimp only); (refine HSX.out _ ?_; (repeat (first | exact Ext.refl _ | (with_reducible assumption) | (with_reducible refine Ext.drew ?_) | (with_reducible refine Ext.alloc ?_ _) | (with_reducible refine Ext.drewN ?_ _) | (with_reducible refine Ext.setCell ?_ (by omega) _) | (with_reducible refine Ext.trans ?_ (by with_reducible assumption))))))
                   clear hK K hHeld
                   have hHeld := hNew
                   clear hNew
                   (try simp only [Act.put, List.getElem_toArray, List.getElem_cons_succ, List.getElem_cons_zero, List.setIfInBounds_toArray, List.set_cons_zero, List.set_cons_succ])
                 rotate_left
                 exact AllReadyH.nil)
              | (refine wpAnyH_ready (rs := [6]) (by decide +kernel) (by simp) ?_
                 refine AllReadyH.cons rfl (fun K hK => ?_) ?_
                 focus
                   (go_simp; ((refine (HRP2.out _ _ (HXO.out.trans (by (repeat (first | exact Ext.refl _ | (with_reducible assumption) | (with_reducible refine Ext.drew ?_) | (with_reducible refine Ext.alloc ?_ _) | (with_reducible refine Ext.drewN ?_ _) | (with_reducible refine Ext.setCell ?_ (by omega) _) | (with_reducible refine Ext.trans ?_ (by with_reducible assumption)))))) (thr_box (hbB.keep (by (repeat (first | exact Ext.refl _ | (with_reducible assumption) | (with_reducible refine Ext.drew ?_) | (with_reducible refine Ext.alloc ?_ _) | (with_reducible refine Ext.drewN ?_ _) | (with_reducible refine Ext.setCell ?_ (by omega) _) | (with_reducible refine Ext.trans ?_ (by with_reducible assumption)))))))).mono ?_); rintro e w6 ⟨ar, qr, rfl, hri, hfr, hx6⟩; obtain ⟨br, or, rfl, hcr⟩ := hri.get 0 (by simp); have hbr := hfr br or rfl; (try simp at hbr); have hbl := lt_of_cell hcr; have hcr0 : w6.cell? ⟨br, or, none⟩ = some (.int .i64 (m : Int)) := (by simpa using hcr); clear hcr hri hfr; have hs6 := hx6.size; (try simp at hs6)); go_wp2_with fail)
                   refine hK.out _ _ ?_ (fun hNew => ?_)
                   focus ((try dsimp only); (refine HSX.out _ ?_; (repeat (first | exact Ext.refl _ | (with_reducible assumption) | (with_reducible refine Ext.drew ?_) | (with_reducible refine Ext.alloc ?_ _) | (with_reducible refine Ext.drewN ?_ _) | (with_reducible refine Ext.setCell ?_ (by omega) _) | (with_reducible refine Ext.trans ?_ (by with_reducible assumption))))))
                   clear hK K hHeld
                   have hHeld := hNew
                   clear hNew
                   (try simp only [Act.put, List.getElem_toArray, List.getElem_cons_succ, List.getElem_cons_zero, List.setIfInBounds_toArray, List.set_cons_zero, List.set_cons_succ])
                 rotate_left
                 exact AllReadyH.nil)
              | (refine wpAnyH_ready (rs := [7]) (by decide +kernel) (by simp) ?_
                 refine AllReadyH.cons rfl (fun K hK => ?_) ?_
                 focus
                   (go_simp; (first | refine alloc_gen (F := K _) ?_ | refine alloc_gend (F := K _) ?_); intro wA hxA hbA; have hsA := hxA.size; have hlA := hbA.lt; (try simp at hsA); (try simp at hlA))
                   refine hK.out _ _ ?_ (fun hNew => ?_)
                   focus ((try dsimp only); (refine HSX.out _ ?_; (repeat (first | exact Ext.refl _ | (with_reducible assumption) | (with_reducible refine Ext.drew ?_) | (with_reducible refine Ext.alloc ?_ _) | (with_reducible refine Ext.drewN ?_ _) | (with_reducible refine Ext.setCell ?_ (by omega) _) | (with_reducible refine Ext.trans ?_ (by with_reducible assumption))))))
                   clear hK K hHeld
                   have hHeld := hNew
                   clear hNew
                   (try simp only [Act.put, List.getElem_toArray, List.getElem_cons_succ, List.getElem_cons_zero, List.setIfInBounds_toArray, List.set_cons_zero, List.set_cons_succ])
                 rotate_left
                 exact AllReadyH.nil)
              | (refine wpAnyH_ready (rs := [8]) (by decide +kernel) (by simp) ?_
                 refine AllReadyH.cons rfl (fun K hK => ?_) ?_
                 focus
                   (have hcur := Lib.hid hHeld.2; have hszc := hcur.out.size; have hbz := (BoxN.keepTo hcur hbA (by (repeat (first | exact Ext.refl _ | (with_reducible assumption) | (with_reducible refine Ext.drew ?_) | (with_reducible refine Ext.alloc ?_ _) | (with_reducible refine Ext.drewN ?_ _) | (with_reducible refine Ext.setCell ?_ (by omega) _) | (with_reducible refine Ext.trans ?_ (by with_reducible assumption)))))).to hcur.out (by omega); have hcz := cell_to hcur hcr0 (by (repeat (first | exact Ext.refl _ | (with_reducible assumption) | (with_reducible refine Ext.drew ?_) | (with_reducible refine Ext.alloc ?_ _) | (with_reducible refine Ext.drewN ?_ _) | (with_reducible refine Ext.setCell ?_ (by omega) _) | (with_reducible refine Ext.trans ?_ (by with_reducible assumption))))); have z0 := hbz.cells 0 _ rfl; have z1 := hbz.cells 1 _ rfl; have z2 := hbz.cells 2 _ rfl; have z3 := hbz.cells 3 _ rfl; have zf := hbz.fr; go_simp; refine store4_gen (F := K _) hbz ?_; intro w7 hb7 hk7; have hx7 := hk7.toExt hcur.out (fun j hj => by omega); have hb7' := hb7; have hc7 := hk7.keep (by omega) hcz; clear z0 z1 z2 z3 zf hbz)
                   refine hK.out _ _ ?_ (fun hNew => ?_)
                   focus ((try dsimp only); (refine HSX.out _ ?_; (repeat (first | exact Ext.refl _ | (with_reducible assumption) | (with_reducible refine Ext.drew ?_) | (with_reducible refine Ext.alloc ?_ _) | (with_reducible refine Ext.drewN ?_ _) | (with_reducible refine Ext.setCell ?_ (by omega) _) | (with_reducible refine Ext.trans ?_ (by with_reducible assumption))))))
                   clear hK K hHeld
                   have hHeld := hNew
                   clear hNew
                   (try simp only [Act.put, List.getElem_toArray, List.getElem_cons_succ, List.getElem_cons_zero, List.setIfInBounds_toArray, List.set_cons_zero, List.set_cons_succ])
                 rotate_left
                 exact AllReadyH.nil)
              | (refine wpAnyH_done (by decide +kernel) ?_ _)
              | fail)
            all_goals
              go_wp2_with fail
              go_meet
              exact ⟨_, _, _, _, rfl, hb7', hc7, by omega⟩
          case rest =>
            obtain ⟨R, br, or, qr, rfl, hb, hcr', hbr⟩ := hcut
            obtain ⟨wp, rfl⟩ : ∃ x, x = wc := ⟨_, rfl⟩
            have HI5 := Lib.hid (HI.out.ext hb.ext)
            obtain ⟨-, ⟨aa0, aa1⟩, ⟨pp0, pp1⟩, ⟨qq0, qq1⟩, oo0, oo1⟩ := HQ.out wp HI5.out.kp
            have r0 := hb.cells 0 _ rfl
            have r1 := hb.cells 1 _ rfl
            have r2 := hb.cells 2 _ rfl
            have r3 := hb.cells 3 _ rfl
            have hRge := hb.ge
            have hsw := hb.ext.size
            have HK5 := Lib.hid (HI.out.kp.ext hb.ext)
            clear HI hb HSX HRP2
            obtain ⟨b0, e0⟩ : ∃ b, (A == u0) = b := ⟨_, rfl⟩
            obtain ⟨b1, e1⟩ : ∃ b, (A == t0) = b := ⟨_, rfl⟩
            obtain ⟨b2, e2⟩ : ∃ b, (F == u1) = b := ⟨_, rfl⟩
            obtain ⟨b3, e3⟩ : ∃ b, (F == t1) = b := ⟨_, rfl⟩
            obtain ⟨b4, e4⟩ : ∃ b, (S2 == u2) = b := ⟨_, rfl⟩
            obtain ⟨b5, e5⟩ : ∃ b, (S2 == t2) = b := ⟨_, rfl⟩
            obtain ⟨b6, e6⟩ : ∃ b, (A - F == u3) = b := ⟨_, rfl⟩
            obtain ⟨b7, e7⟩ : ∃ b, (A + S2 == t4) = b := ⟨_, rfl⟩
            have HNW : Hid (nowB cx s 0 = b0 ∧ nowB cx s 1 = b1 ∧ nowB cx s 2 = b2 ∧ nowB cx s 3 = b3 ∧ nowB cx s 4 = b4 ∧ nowB cx s 5 = b5 ∧ nowB cx s 6 = b6 ∧ nowB cx s 7 = b7) := Lib.hid (by
              obtain ⟨g0, g1, g2, g3, g4, g5, g6, g7⟩ := HNB1.out
              exact ⟨g0.trans e0, g1.trans e1, g2.trans e2, g3.trans e3, g4.trans e4, g5.trans e5, g6.trans e6, g7.trans e7⟩)
            clear HNB1
            go_upto_region 19 with fail
            clear aa0 aa1 pp0 pp1 qq0 qq1 oo0 oo1 e0 e1 e2 e3 e4 e5 e6 e7 r1 r2 r3
            have hb8 := BoxN.made (t := 61) (vs := [.bool b0, .bool b1, .bool b2, .bool b3, .bool b4, .bool b5, .bool b6, .bool b7]) (Ext.refl wp)
            have hbits : BitsAt wp.heap.size 8 (nowB cx s) (wp.alloc (.cells #[.bool b0, .bool b1, .bool b2, .bool b3, .bool b4, .bool b5, .bool b6, .bool b7] 61)) := by
              obtain ⟨g0, g1, g2, g3, g4, g5, g6, g7⟩ := HNW.out
              exact bits_of hb8 g0 g1 g2 g3 g4 g5 g6 g7
            have hxp : Ext wp (wp.alloc (.cells #[.bool b0, .bool b1, .bool b2, .bool b3, .bool b4, .bool b5, .bool b6, .bool b7] 61)) := (Ext.refl wp).alloc _
            have hsp : wo.heap.size ≤ wp.heap.size := hsw
            have hEI6 := HI5.out.ext hxp
            replace r0 := hxp.keep r0
            replace hcr' := hxp.keep hcr'
            generalize hw6 : wp.alloc (.cells #[.bool b0, .bool b1, .bool b2, .bool b3, .bool b4, .bool b5, .bool b6, .bool b7] 61) = w6 at *
            clear hw6 hxp HI5 HK5 HNW hb8
            have HEI := Lib.hid hEI6
            have HBT := Lib.hid hbits
            have HR0 := Lib.hid (⟨r0, hcr'⟩ : _ ∧ _)
            have HSI : Hid (SeenI w6 w10.heap.size (metB cx f i) (nowB cx s) 0 w6) := Lib.hid (SeenI.zero hEI6.seen hEI6.sfr)
            clear hEI6 hbits r0 hcr'
            generalize nowB cx s = gn at *
            go_wp2_with fail
            go_loopw [19] (fun s19 wr => ∃ k : Nat, k ≤ 8 ∧ s19 = .int .i64 k ∧ Hid (SeenI w6 w10.heap.size (metB cx f i) gn k wr)) (fun s _ => 8 - (intOf s).toNat)
            case atStart => exact ⟨0, Nat.zero_le _, rfl, HSI⟩
            case round =>
              obtain ⟨k, hk, rfl, HS⟩ := hrel
              obtain ⟨wq, rfl⟩ : ∃ x, x = wr := ⟨_, rfl⟩
              by_cases hlk : k < 8
              · have hc8 := HS.out.at hlk
                have hd8 := HS.out.kp.keep (show ¬ wp.heap.size = w10.heap.size by omega) (HBT.out k hlk)
                have hfr8 := HS.out.fr
                have HNX := Lib.hid (HS.out.next hlk)
                have hk0' : (0 : Int) ≤ (k : Int) := by omega
                have hk8 : (k : Int) < 8 := by omega
                have hk8' : (k : Int) ≤ 8 := by omega
                clear HS HSI HEI HR0 HBT HQ HNXT HMN1 HX10 HX11
                generalize metB cx f i k = g0 at *
                generalize gn k = h0 at *
                cases g0 with
                | true =>
                  go_wp2_with fail
                  go_roundw
                  case rel => exact ⟨k + 1, by omega, by go_num, Lib.hid (by have := HNX.out; simpa using this)⟩
                  case measure => simp [intOf]; omega
                | false =>
                  go_wp2_with fail
                  go_roundw
                  case rel => exact ⟨k + 1, by omega, by go_num, Lib.hid (by have := HNX.out; simpa using this)⟩
                  case measure => simp [intOf]; omega
              · obtain rfl : k = 8 := by omega
                have hr0 := HS.out.kp.keep (show ¬ R = w10.heap.size by omega) HR0.out.1
                have hcr := HS.out.kp.keep (show ¬ br = w10.heap.size by omega) HR0.out.2
                have htb := HS.out.kp.keep (show ¬ w10.heap.size + 1 = w10.heap.size by omega) (HEI.out.is m hml)
                have hTl := lt_of_cell (HEI.out.is m hml)
                have htf : ∀ o, wq.frozen? ⟨w10.heap.size + 1, o, none⟩ = false := fun o => (HS.out.kp.frozen hTl (show ¬ w10.heap.size + 1 = w10.heap.size by omega)).trans (HEI.out.tfr o)
                have HNX := Lib.hid (HNXT.out _ _ _ HEI.out HS.out HMN1.out)
                have hm0 : (0 : Int) ≤ (m : Int) := by omega
                have hm1 : (m : Int) < 101 := by omega
                clear HS HSI HEI HR0 HBT HQ HNXT HMN1 HX10 HX11
                generalize seenB f i m = sb at *
                go_wp2_with fail
                go_roundw
                case rel => exact ⟨i + 1, by omega, by go_num, HNX⟩
                case measure => simp [intOf]; omega
        · obtain rfl : i = N := by omega
          have hseen : BitsAt w10.heap.size 8 (fun _ => true) wo := fun j hj => by
            have h1 := HI.out.seen j hj
            have h2 := HMA.out j
            rw [h2] at h1
            exact h1
          have hIS : BitsAt (w10.heap.size + 1) 101 (isCount f) wo := fun j hj => by
            have h1 := HI.out.is j hj
            rw [HSA.out] at h1
            exact h1
          have hrl := ints_kp HRL.out HX10.out HI.out.kp (fun j hj => by omega)
          have HSB := Lib.hid hseen
          have HIB := Lib.hid hIS
          have HRI := Lib.hid hrl
          clear hseen hIS hrl HI HQ HRW HRP HRB HNB HST HMN HMA HSA HS0 HM0 HSN HE0 HRL x0 x1 x2 x3 HX10 HX11
          go_wp2_with fail
          go_loopw [20] (fun s20 wr => ∃ k : Nat, k ≤ 8 ∧ s20 = .int .i64 k ∧ Ext wo wr) (fun s _ => 8 - (intOf s).toNat)
          case atStart => exact ⟨0, Nat.zero_le _, rfl, Ext.refl _⟩
          case round =>
            obtain ⟨k, hk, rfl, hx⟩ := hrel
            obtain ⟨wq, rfl⟩ : ∃ x, x = wr := ⟨_, rfl⟩
            by_cases hlk : k < 8
            · have hc8 := hx.keep (HSB.out k hlk)
              have hk0' : (0 : Int) ≤ (k : Int) := by omega
              have hk8 : (k : Int) < 8 := by omega
              clear HSB HIB HRI HIC
              go_wp2_with fail
              go_roundw
              case rel => exact ⟨k + 1, by omega, by go_num, hx⟩
              case measure => simp [intOf]; omega
            · obtain rfl : k = 8 := by omega
              have XQ := XO.trans hx
              clear HSB
              go_wp2_with fail
              go_loopw [21] (fun s21 wr => ∃ n : Nat, n ≤ 101 ∧ s21 = .int .i64 n ∧ Ext wq wr) (fun s _ => 101 - (intOf s).toNat)
              case atStart => exact ⟨0, Nat.zero_le _, rfl, Ext.refl _⟩
              case round =>
                obtain ⟨n, hn, rfl, hy⟩ := hrel
                obtain ⟨wz, rfl⟩ : ∃ x, x = wr := ⟨_, rfl⟩
                by_cases hln : n < 101
                · have hc8 := hy.keep (hx.keep (HIB.out n hln))
                  have HHS := Lib.hid (fun W' (h : Ext wz W') => HIC.out n hln ▸ hasU_any _ _ (n : Int) W' (HRI.out.ext ((hx.trans hy).trans h)))
                  have hk0' : (0 : Int) ≤ (n : Int) := by omega
                  have hk8 : (n : Int) < 101 := by omega
                  clear HIB HRI HIC HAW
                  generalize isCount f n = g at *
                  go_upto_region 32 with fail
                  cases g with
                  | true =>
                    refine wp_region_quiet (C := Ext wz) (by kernel_rfl) (by kernel_rfl) (Ext.drew (by (repeat (first | exact Ext.refl _ | (with_reducible assumption) | (with_reducible refine Ext.drew ?_) | (with_reducible refine Ext.alloc ?_ _) | (with_reducible refine Ext.drewN ?_ _) | (with_reducible refine Ext.setCell ?_ (by omega) _) | (with_reducible refine Ext.trans ?_ (by with_reducible assumption)))))) ?_
                    rw [show ∀ (l : List Oper), l.toArray.toList = l from fun l => rfl]
                    repeat (first
                      | go_big_quiet_skip
                      | (go_big_quiet_want
                         first
                          | (go_big_quiet_op; go_big_quiet_on)
                          | (apply Exists.intro
                             refine ⟨fun w' hxw => ?_, ?_⟩
                             focus (have hc8 := hxw.keep hc8; go_simp; first | exact rfl | (with_reducible refine (HHS.out w' hxw).mono ?_; exact fun e w'' h => ⟨h.1, hxw.trans h.2⟩))
                             simp only [Act.put, List.setIfInBounds_toArray, List.set_cons_zero, List.set_cons_succ]
                             go_big_quiet_on)))
                    refine wpQuiet_nil ?_
                    intro w2 hx2
                    go_wp2_with fail
                    go_roundw
                    case rel => exact ⟨n + 1, by omega, by go_num, hy.trans hx2⟩
                    case measure => simp [intOf]; omega
                  | false =>
                    refine wp_region_quiet (C := Ext wz) (by kernel_rfl) (by kernel_rfl) (Ext.drew (by (repeat (first | exact Ext.refl _ | (with_reducible assumption) | (with_reducible refine Ext.drew ?_) | (with_reducible refine Ext.alloc ?_ _) | (with_reducible refine Ext.drewN ?_ _) | (with_reducible refine Ext.setCell ?_ (by omega) _) | (with_reducible refine Ext.trans ?_ (by with_reducible assumption)))))) ?_
                    rw [show ∀ (l : List Oper), l.toArray.toList = l from fun l => rfl]
                    repeat (first
                      | go_big_quiet_skip
                      | (go_big_quiet_want
                         first
                          | (go_big_quiet_op; go_big_quiet_on)
                          | (apply Exists.intro
                             refine ⟨fun w' hxw => ?_, ?_⟩
                             focus (have hc8 := hxw.keep hc8; go_simp; first | exact rfl | (with_reducible refine (HHS.out w' hxw).mono ?_; exact fun e w'' h => ⟨h.1, hxw.trans h.2⟩))
                             simp only [Act.put, List.setIfInBounds_toArray, List.set_cons_zero, List.set_cons_succ]
                             go_big_quiet_on)))
                    refine wpQuiet_nil ?_
                    intro w2 hx2
                    go_wp2_with fail
                    go_roundw
                    case rel => exact ⟨n + 1, by omega, by go_num, hy.trans hx2⟩
                    case measure => simp [intOf]; omega
                · obtain rfl : n = 101 := by omega
                  have XZ := XQ.trans hy
                  clear HIB HRI HIC
                  go_wp2_with fail
                  (with_reducible refine (HAW.out _).mono ?_)
                  rintro e w30 ⟨rfl, hx30⟩
                  go_wp2_with fail
                  go_ret
                  exact ⟨rfl, XZ.trans hx30⟩
end Go.Proofs.YtbmjnilcinfdiaaGreat
