/- The walk of UmpireAlone. Printed by gen_yn.py. -/
import Derived.Test.YtbmjnilcinfdiaaGreatKXL
import Derived.Test.YtbmjnilcinfdiaaGreatKXR
import Derived.Test.YtbmjnilcinfdiaaGreatKB5
import Derived.Deep.RegionLaw
set_option linter.unusedSimpArgs false
set_option linter.unusedVariables false
namespace Go.Proofs.YtbmjnilcinfdiaaGreat
open Go.RowKit Go.Hs
attribute [local irreducible] World.setCell World.alloc

set_option maxRecDepth 100000 in
set_option maxHeartbeats 16000000 in
theorem walk_UmpireAlone (v : Value) (c : Cas) (wh : Int) (w : World) (hv : CasW w v c) (hm2 : (Lit.int .u8 wh).wf = true) :
    Calls Tryz.prog 9 #[v, .int .u8 wh] w fun e w' => e = .returned (.bool true) ∧ Ext w w' := by
  have HAW := Lib.hid awakeU_any
  have HRD : Hid (∀ W, Ext w W → Calls Tryz.prog 32 #[v] W fun e w' => e = .returned (.bool (readyB c)) ∧ Ext W w') := Lib.hid (fun W hx => readyU_any c v W (hv.ext hx))
  have HV := Lib.hid hv
  have hb2 := u8_in hm2
  clear hm2
  obtain ⟨vt, vf, rfl, ht, hf, -, -⟩ := hv
  obtain ⟨a1, c1, rfl, -⟩ := id ht
  obtain ⟨a2, c2, rfl, -⟩ := id hf
  clear ht hf
  cases hr : readyB c with
  | false =>
    rw [hr] at HRD
    clear HV hr
    generalize c.tars.length = n1 at *
    generalize c.flds.length = n2 at *
    generalize c.day = day at *
    generalize c.fee = fee at *
    go_enter Tryz.func9, Tryz.ntmps9
    go_wp2_with fail
    (with_reducible refine (HRD.out _ (by (repeat (first | exact Ext.refl _ | (with_reducible assumption) | (with_reducible refine Ext.drew ?_) | (with_reducible refine Ext.alloc ?_ _) | (with_reducible refine Ext.drewN ?_ _) | (with_reducible refine Ext.setCell ?_ (by omega) _) | (with_reducible refine Ext.trans ?_ (by with_reducible assumption)))))).mono ?_)
    rintro e w1 ⟨rfl, hx1⟩
    go_wp2_with fail
    (with_reducible refine (HAW.out _).mono ?_)
    rintro e w2 ⟨rfl, hx2⟩
    go_wp2_with fail
    go_ret
    exact ⟨rfl, by (repeat (first | exact Ext.refl _ | (with_reducible assumption) | (with_reducible refine Ext.drew ?_) | (with_reducible refine Ext.alloc ?_ _) | (with_reducible refine Ext.drewN ?_ _) | (with_reducible refine Ext.setCell ?_ (by omega) _) | (with_reducible refine Ext.trans ?_ (by with_reducible assumption))))⟩
  | true =>
    rw [hr] at HRD
    obtain ⟨htc, hce⟩ := ready_true hr
    have htt := thinCas_tars htc
    have hcv := HV.out.toV htc
    have hok := caseE_zero hce
    have h0 := caseE_tars hce
    have hn3 := hok.few
    have hqc : c.flds.length ≤ c2 := by
      obtain ⟨vt, vf, e, -, a, q, hf, hq, -, -⟩ := hcv
      simp only [Value.agg.injEq, Array.mk.injEq, List.cons.injEq, and_true] at e
      obtain ⟨-, -, -, rfl⟩ := e
      simp only [Value.slice.injEq] at hf
      omega
    have HCA : Hid (∀ W, Ext w W → Calls Tryz.prog 18 #[.agg #[.slice a1 c.tars.length c1, .int .i64 c.day, .int .i64 c.fee, .slice a2 c.flds.length c2]] W fun e w' => ∃ v', e = .returned v' ∧ CasV w' v' c ∧ Ext W w') := Lib.hid (fun W hx => Case_any c _ W (hcv.ext hx) htt)
    have HCF : Hid (∀ l ay qy W, FldsV W (.slice ay l.length qy) l → Ext w W → Calls Tryz.prog 18 #[.agg #[.slice a1 c.tars.length c1, .int .i64 c.day, .int .i64 c.fee, .slice ay l.length qy]] W fun e w' => ∃ v', e = .returned v' ∧ CasV w' v' (c.withF l) ∧ Ext W w') := Lib.hid (fun l ay qy W h hx => Case_any (c.withF l) _ W (CasV.with hcv hx h) htt)
    have HA : Hid (∀ v' W, CasV W v' c → Calls Tryz.prog 24 #[v'] W fun e w' => e = .returned (.tuple #[.agg #[.int .i64 (sumLo c c.flds), .int .i64 (sumHi c c.flds)], .int .i64 0]) ∧ Ext W w') := Lib.hid (fun v' W h => by
      have := Award_good c v' W h hce
      rw [(award_alone hok).1, (award_alone hok).2] at this
      exact this)
    have HA1 : Hid (∀ k (hk : k < c.flds.length), ∀ v' W, CasV W v' (c.withF [c.flds[k]]) → Calls Tryz.prog 24 #[v'] W fun e w' => e = .returned (.tuple #[.agg #[.int .i64 (payLo c c.flds[k]), .int .i64 (payHi c c.flds[k])], .int .i64 0]) ∧ Ext W w') := Lib.hid (fun k hk v' W h => Award_good _ v' W h (withF_E hce (by simp) (fun g hg => by
      obtain rfl := List.mem_singleton.1 hg
      exact hok.flds _ (List.getElem_mem hk))))
    have HN1 : Hid (∀ k (hk : k < c.flds.length), sumLo c (c.flds.take (k + 1)) = sumLo c (c.flds.take k) + payLo c c.flds[k] ∧ sumHi c (c.flds.take (k + 1)) = sumHi c (c.flds.take k) + payHi c c.flds[k]) := Lib.hid (fun k hk => ⟨sumLo_next hk, sumHi_next hk⟩)
    have HBD := Lib.hid (sums_bd hok h0)
    have HZ : Hid (sumLo c (c.flds.take 0) = 0 ∧ sumHi c (c.flds.take 0) = 0) := Lib.hid (by simp [sumLo, sumHi])
    have HEN : Hid (sumLo c (c.flds.take c.flds.length) = sumLo c c.flds ∧ sumHi c (c.flds.take c.flds.length) = sumHi c c.flds) := Lib.hid (by rw [List.take_length]; exact ⟨rfl, rfl⟩)
    have HBT := Lib.hid betweenU_any
    have HFA := Lib.hid (fun i (hi : i < c.flds.length) => hcv.fld_at hi)
    have HCH : Hid (0 < c.flds.length → ∀ W, Ext w W → Calls Tryz.prog 41 #[.agg #[.slice a1 c.tars.length c1, .int .i64 c.day, .int .i64 c.fee, .slice a2 c.flds.length c2]] W fun e w' => ∃ g q, e = .returned (.agg #[.slice a1 c.tars.length c1, .int .i64 c.day, .int .i64 c.fee, .slice (some ⟨g, 0, none⟩) c.flds.length q]) ∧ FldsO w' g q c.flds ∧ W.heap.size ≤ g ∧ c.flds.length ≤ q ∧ Ext W w') := Lib.hid (fun hn0 W hx => changedU_own c _ _ _ _ _ _ _ _ W (hcv.ext hx) rfl hn0 hn3)
    have HFX : Hid (∀ k (hk : k < c.flds.length), ∀ v' W, CasV W v' (c.withF (c.flds.set k (c.flds[k].withNear 100))) → Calls Tryz.prog 25 #[v'] W fun e w' => e = .returned (.tuple #[.agg #[.int .i64 (bLo (c.withF (c.flds.take k ++ c.flds.drop (k + 1))) 1), .int .i64 (bHi (c.withF (c.flds.take k ++ c.flds.drop (k + 1))) 1)], .agg #[.int .i64 (bLo (c.withF (c.flds.take k ++ c.flds.drop (k + 1))) 2), .int .i64 (bHi (c.withF (c.flds.take k ++ c.flds.drop (k + 1))) 2)], .int .i64 0]) ∧ Ext W w') := Lib.hid (fun k hk v' W h => by
      have := Fees_good _ v' W h (setF_E hce (near_ok (hok.flds _ (List.getElem_mem hk)) (by omega)))
      obtain ⟨⟨e1, e2⟩, e3, e4⟩ := alone_fees hce hk
      rw [e1, e2, e3, e4] at this
      exact this)
    have HFY := Lib.hid (fun k v' W (h : CasV W v' (c.withF (c.flds.take k ++ c.flds.drop (k + 1)))) => Fees_good _ v' W h (drop_E hce k))
    clear hcv hok h0 HV hr htc hce htt
    go_enter Tryz.func9, Tryz.ntmps9
    go_wp2_with fail
    have X : Ext w (w.alloc (.cells #[.slice a1 c.tars.length c1, .int .i64 c.day, .int .i64 c.fee, .slice a2 c.flds.length c2] 25)) := by (repeat (first | exact Ext.refl _ | (with_reducible assumption) | (with_reducible refine Ext.drew ?_) | (with_reducible refine Ext.alloc ?_ _) | (with_reducible refine Ext.drewN ?_ _) | (with_reducible refine Ext.setCell ?_ (by omega) _) | (with_reducible refine Ext.trans ?_ (by with_reducible assumption))))
    have HS : Hid (∀ w', Ext (w.alloc (.cells #[.slice a1 c.tars.length c1, .int .i64 c.day, .int .i64 c.fee, .slice a2 c.flds.length c2] 25)) w' → (w'.cell? ⟨w.heap.size, 0, none⟩ = some (.slice a1 c.tars.length c1) ∧ w'.cell? ⟨w.heap.size, 1, none⟩ = some (.int .i64 c.day) ∧ w'.cell? ⟨w.heap.size, 2, none⟩ = some (.int .i64 c.fee) ∧ w'.cell? ⟨w.heap.size, 3, none⟩ = some (.slice a2 c.flds.length c2)) ∧ Ext (w.alloc (.cells #[.slice a1 c.tars.length c1, .int .i64 c.day, .int .i64 c.fee, .slice a2 c.flds.length c2] 25)) w') := Lib.hid (fun w' hx => ⟨⟨hx.keep (by simp [go_sem]), hx.keep (by simp [go_sem]), hx.keep (by simp [go_sem]), hx.keep (by simp [go_sem])⟩, hx⟩)
    have HSf : Hid (∀ w', Ext (w.alloc (.cells #[.slice a1 c.tars.length c1, .int .i64 c.day, .int .i64 c.fee, .slice a2 c.flds.length c2] 25)) w' → ∀ o, w'.frozen? ⟨w.heap.size, o, none⟩ = false) := Lib.hid (fun w' hx o => (hx.frozen (by simp)).trans (by simp [go_sem]))
    have HSz : w.heap.size + 1 ≤ (w.alloc (.cells #[.slice a1 c.tars.length c1, .int .i64 c.day, .int .i64 c.fee, .slice a2 c.flds.length c2] 25)).heap.size := by simp
    generalize (w.alloc (.cells #[.slice a1 c.tars.length c1, .int .i64 c.day, .int .i64 c.fee, .slice a2 c.flds.length c2] 25)) = W at *
    (with_reducible refine (HRD.out _ X).mono ?_)
    rintro e w1 ⟨rfl, hx1⟩
    have X1 := X.trans hx1
    obtain ⟨q0, q1, q2, q3⟩ := (HS.out w1 hx1).1
    clear X hx1 HRD HS HSf HSz
    go_wp2_with fail
    (with_reducible refine (HCA.out _ X1).mono ?_)
    rintro e w2 ⟨vc, rfl, hv, hx⟩
    have hy : Ext w1 w2 := by (repeat (first | exact Ext.refl _ | (with_reducible assumption) | (with_reducible refine Ext.drew ?_) | (with_reducible refine Ext.alloc ?_ _) | (with_reducible refine Ext.drewN ?_ _) | (with_reducible refine Ext.setCell ?_ (by omega) _) | (with_reducible refine Ext.trans ?_ (by with_reducible assumption))))
    replace X1 := X1.trans hy
    replace q0 := hy.keep q0
    replace q1 := hy.keep q1
    replace q2 := hy.keep q2
    replace q3 := hy.keep q3
    clear hx hy
    go_wp2_with fail
    (with_reducible refine (HA.out _ _ hv).mono ?_)
    rintro e w3 ⟨rfl, hx⟩
    have hy : Ext w2 w3 := by (repeat (first | exact Ext.refl _ | (with_reducible assumption) | (with_reducible refine Ext.drew ?_) | (with_reducible refine Ext.alloc ?_ _) | (with_reducible refine Ext.drewN ?_ _) | (with_reducible refine Ext.setCell ?_ (by omega) _) | (with_reducible refine Ext.trans ?_ (by with_reducible assumption))))
    replace X1 := X1.trans hy
    replace q0 := hy.keep q0
    replace q1 := hy.keep q1
    replace q2 := hy.keep q2
    replace q3 := hy.keep q3
    clear hx hy
    clear hv HA HCA
    have hb3 : w.heap.size < w3.heap.size := lt_of_cell q0
    go_upto_region 8 with fail
    have a0 : ((w3.alloc (.cells #[.int .i64 (sumLo c c.flds), .int .i64 (sumHi c c.flds)] 48)).alloc (.cells #[.int .i64 0, .int .i64 0] 48)).cell? ⟨w3.heap.size, 0, none⟩ = some (.int .i64 (sumLo c c.flds)) := by simp [go_sem]
    have a1' : ((w3.alloc (.cells #[.int .i64 (sumLo c c.flds), .int .i64 (sumHi c c.flds)] 48)).alloc (.cells #[.int .i64 0, .int .i64 0] 48)).cell? ⟨w3.heap.size, 1, none⟩ = some (.int .i64 (sumHi c c.flds)) := by simp [go_sem]
    have s0 : ((w3.alloc (.cells #[.int .i64 (sumLo c c.flds), .int .i64 (sumHi c c.flds)] 48)).alloc (.cells #[.int .i64 0, .int .i64 0] 48)).cell? ⟨w3.heap.size + 1, 0, none⟩ = some (.int .i64 0) := by simp [go_sem]
    have s1 : ((w3.alloc (.cells #[.int .i64 (sumLo c c.flds), .int .i64 (sumHi c c.flds)] 48)).alloc (.cells #[.int .i64 0, .int .i64 0] 48)).cell? ⟨w3.heap.size + 1, 1, none⟩ = some (.int .i64 0) := by simp [go_sem]
    have sf : ∀ o, ((w3.alloc (.cells #[.int .i64 (sumLo c c.flds), .int .i64 (sumHi c c.flds)] 48)).alloc (.cells #[.int .i64 0, .int .i64 0] 48)).frozen? ⟨w3.heap.size + 1, o, none⟩ = false := fun o => by simp [go_sem]
    have hx34 : Ext w3 ((w3.alloc (.cells #[.int .i64 (sumLo c c.flds), .int .i64 (sumHi c c.flds)] 48)).alloc (.cells #[.int .i64 0, .int .i64 0] 48)) := ((Ext.refl _).alloc _).alloc _
    replace X1 := X1.trans hx34
    replace q0 := hx34.keep q0
    replace q1 := hx34.keep q1
    replace q2 := hx34.keep q2
    replace q3 := hx34.keep q3
    generalize (w3.alloc (.cells #[.int .i64 (sumLo c c.flds), .int .i64 (sumHi c c.flds)] 48)).alloc (.cells #[.int .i64 0, .int .i64 0] 48) = w4 at *
    have HX4 := Lib.hid X1
    have HQ : Hid (∀ wr, KP (fun j => j = w3.heap.size + 1) w4 wr → (wr.cell? ⟨w.heap.size, 0, none⟩ = some (.slice a1 c.tars.length c1) ∧ wr.cell? ⟨w.heap.size, 1, none⟩ = some (.int .i64 c.day) ∧ wr.cell? ⟨w.heap.size, 2, none⟩ = some (.int .i64 c.fee) ∧ wr.cell? ⟨w.heap.size, 3, none⟩ = some (.slice a2 c.flds.length c2)) ∧ (wr.cell? ⟨w3.heap.size, 0, none⟩ = some (.int .i64 (sumLo c c.flds)) ∧ wr.cell? ⟨w3.heap.size, 1, none⟩ = some (.int .i64 (sumHi c c.flds)))) := Lib.hid (fun wr h => ⟨⟨h.keep (by omega) q0, h.keep (by omega) q1, h.keep (by omega) q2, h.keep (by omega) q3⟩, h.keep (by omega) a0, h.keep (by omega) a1'⟩)
    have HS0 : Hid (SumB c w4 (w3.heap.size + 1) 0 w4) := Lib.hid ⟨KP.refl _, by rw [HZ.out.1]; exact s0, by rw [HZ.out.2]; exact s1, sf⟩
    clear X1 q0 q1 q2 q3 a0 a1' s0 s1 sf hx34
    go_loopw [8] (fun s8 wr => ∃ k : Nat, k ≤ c.flds.length ∧ s8 = .int .i64 k ∧ Hid (SumB c w4 (w3.heap.size + 1) k wr)) (fun s _ => c.flds.length - (intOf s).toNat)
    case atStart => exact ⟨0, Nat.zero_le _, rfl, HS0⟩
    case round =>
      obtain ⟨k, hk, rfl, HB⟩ := hrel
      obtain ⟨wo, rfl⟩ : ∃ x, x = wr := ⟨_, rfl⟩
      obtain ⟨⟨q0, q1, q2, q3⟩, a0, a1'⟩ := HQ.out wo HB.out.kp
      have XO : Ext w wo := HB.out.kp.toExt HX4.out (fun j hj => by omega)
      by_cases hlt : k < c.flds.length
      · obtain ⟨b, off, rfl, hce⟩ := HFA.out k hlt
        have hce := hce.ext XO _ _ _
        have HCE := Lib.hid hce
        have hA1 := HBD.out k hk
        have hA2 := HBD.out (k + 1) hlt
        obtain ⟨hn1, hn2⟩ := HN1.out k hlt
        have HAK := Lib.hid (HA1.out k hlt)
        have s0 := HB.out.lo
        have s1 := HB.out.hi
        have sf := HB.out.fr
        rw [hn1, hn2] at hA2
        have HNL := Lib.hid hn1
        have HNH := Lib.hid hn2
        have HKP := Lib.hid HB.out.kp
        have HOF : Hid (∀ W q, Ext wo W → 1 ≤ q → FldsV W (.slice (some ⟨b, off + k * 9, none⟩) 1 q) [c.flds[k]]) := Lib.hid (fun W q hx hq => (one_fld HCE.out hq).ext hx)
        have HCF1 : Hid (∀ ay qy W, FldsV W (.slice ay 1 qy) [c.flds[k]] → Ext w W → Calls Tryz.prog 18 #[.agg #[.slice a1 c.tars.length c1, .int .i64 c.day, .int .i64 c.fee, .slice ay 1 qy]] W fun e w' => ∃ v', e = .returned v' ∧ CasV w' v' (c.withF [c.flds[k]]) ∧ Ext W w') := Lib.hid (fun ay qy W h hx => HCF.out [c.flds[k]] ay qy W h hx)
        have hne : ¬ c2 = k := by omega
        have hq1 : 1 ≤ c2 - k := by omega
        have hk1 : k + 1 ≤ c2 := by omega
        have hk2 : (k : Int) + 1 ≤ (c2 : Int) := by omega
        have hk0 : (0 : Int) ≤ (k : Int) := by omega
        clear hn1 hn2 hce HB HN1 HBD HA1 HCF HQ HZ HEN HFA HCH HFX HFY HS0 HAW HX4
        generalize sumLo c (c.flds.take k) = L0 at *
        generalize sumHi c (c.flds.take k) = H0 at *
        generalize payLo c c.flds[k] = pl at *
        generalize payHi c c.flds[k] = ph at *
        generalize c.flds[k] = f at *
        have hw1 : IntKind.i64.wrap (L0 + pl) = L0 + pl := IntWalk.i64_in _ (by omega)
        have hw2 : IntKind.i64.wrap (H0 + ph) = H0 + ph := IntWalk.i64_in _ (by omega)
        clear hA1 hA2
        have hTl : w3.heap.size + 1 < wo.heap.size := lt_of_cell s0
        have hz : Ext wo wo := Ext.refl _
        have q3_a := fun o => ((Ext.refl wo).alloc o).keep q3
        go_wp2_with fail
        (with_reducible refine (HCF1.out _ _ _ (HOF.out _ (c2 - k) (by (repeat (first | exact Ext.refl _ | (with_reducible assumption) | (with_reducible refine Ext.drew ?_) | (with_reducible refine Ext.alloc ?_ _) | (with_reducible refine Ext.drewN ?_ _) | (with_reducible refine Ext.setCell ?_ (by omega) _) | (with_reducible refine Ext.trans ?_ (by with_reducible assumption))))) hq1) (XO.trans (by (repeat (first | exact Ext.refl _ | (with_reducible assumption) | (with_reducible refine Ext.drew ?_) | (with_reducible refine Ext.alloc ?_ _) | (with_reducible refine Ext.drewN ?_ _) | (with_reducible refine Ext.setCell ?_ (by omega) _) | (with_reducible refine Ext.trans ?_ (by with_reducible assumption))))))).mono ?_)
        rintro e w18 ⟨vc, rfl, hv, hx⟩
        have hy : Ext wo w18 := by (repeat (first | exact Ext.refl _ | (with_reducible assumption) | (with_reducible refine Ext.drew ?_) | (with_reducible refine Ext.alloc ?_ _) | (with_reducible refine Ext.drewN ?_ _) | (with_reducible refine Ext.setCell ?_ (by omega) _) | (with_reducible refine Ext.trans ?_ (by with_reducible assumption))))
        replace s0 := hy.keep s0
        replace s1 := hy.keep s1
        replace hz := hz.trans hy
        clear hx hy
        go_wp2_with fail
        (with_reducible refine (HAK.out _ _ hv).mono ?_)
        rintro e w19 ⟨rfl, hx⟩
        have hy : Ext w18 w19 := by (repeat (first | exact Ext.refl _ | (with_reducible assumption) | (with_reducible refine Ext.drew ?_) | (with_reducible refine Ext.alloc ?_ _) | (with_reducible refine Ext.drewN ?_ _) | (with_reducible refine Ext.setCell ?_ (by omega) _) | (with_reducible refine Ext.trans ?_ (by with_reducible assumption))))
        replace s0 := hy.keep s0
        try clear s0_a
        have s0_a := fun o => ((Ext.refl w19).alloc o).keep s0
        replace s1 := hy.keep s1
        try clear s1_a
        have s1_a := fun o => ((Ext.refl w19).alloc o).keep s1
        replace hz := hz.trans hy
        clear hx hy
        clear hv

        go_wp2_with fail
        (with_reducible refine (HBT.out _ _ _).mono ?_)
        rintro e w20 ⟨rfl, hx⟩
        have hy : Ext w19 w20 := by (repeat (first | exact Ext.refl _ | (with_reducible assumption) | (with_reducible refine Ext.drew ?_) | (with_reducible refine Ext.alloc ?_ _) | (with_reducible refine Ext.drewN ?_ _) | (with_reducible refine Ext.setCell ?_ (by omega) _) | (with_reducible refine Ext.trans ?_ (by with_reducible assumption))))
        replace s0 := hy.keep s0
        replace s1 := hy.keep s1
        replace hz := hz.trans hy
        clear hx hy
        have sf20 : ∀ o, w20.frozen? ⟨w3.heap.size + 1, o, none⟩ = false := fun o => (hz.frozen hTl).trans (sf o)
        have t1 : (w20.setCell ⟨w3.heap.size + 1, 0, none⟩ (.int .i64 (L0 + pl))).cell? ⟨w3.heap.size + 1, 1, none⟩ = some (.int .i64 H0) := sc_ne' (.inr (by decide)) s1
        have HSN : Hid (SumB c w4 (w3.heap.size + 1) (k + 1) ((w20.setCell ⟨w3.heap.size + 1, 0, none⟩ (.int .i64 (L0 + pl))).setCell ⟨w3.heap.size + 1, 1, none⟩ (.int .i64 (H0 + ph)))) := Lib.hid ⟨((HKP.out.ext hz).setCell (p := fun j => j = w3.heap.size + 1) rfl _).setCell (p := fun j => j = w3.heap.size + 1) rfl _, by rw [HNL.out]; exact sc_ne' (.inr (by decide)) (sc_eq' s0), by rw [HNH.out]; exact sc_eq' t1, fun o => by rw [World.frozen?_setCell, World.frozen?_setCell]; exact sf20 o⟩
        clear HKP HNL HNH HAK HCF1 HOF HBT hz XO q0 q1 q2 a0 a1' sf
        go_wp2_with fail
        go_roundw
        case rel => exact ⟨k + 1, by omega, by go_num, HSN⟩
        case measure => simp [intOf]; omega
      · have ek : k = c.flds.length := by omega
        subst ek
        have s0 := HB.out.lo
        have s1 := HB.out.hi
        rw [HEN.out.1] at s0
        rw [HEN.out.2] at s1
        clear HB HEN HBD HN1 HA1 HQ HZ HS0 HBT HX4
        generalize sumLo c c.flds = L0 at *
        generalize sumHi c c.flds = H0 at *
        by_cases hn0 : c.flds.length = 0
        · have hb0 : ((c.flds.length : Int) == 0) = true := by simp [hn0]
          have hi0 : (c.flds.length : Int) = 0 := by omega
          clear HCH HFX HFY HCF HFA hqc
          go_wp2_with fail
          (with_reducible refine (HAW.out _).mono ?_)
          rintro e w25 ⟨rfl, hx25⟩
          go_wp2_with fail
          go_ret
          exact ⟨rfl, XO.trans hx25⟩
        · have hb0 : ((c.flds.length : Int) == 0) = false := by rw [beq_eq_false_iff_ne]; omega
          have hi0 : ¬ (c.flds.length : Int) = 0 := by omega
          have hnp : 0 < c.flds.length := by omega
          obtain ⟨i, hk1, hk2, hkl⟩ := idx_mod hb2.1 hnp
          have hw1 : IntKind.i64.wrap wh = wh := IntWalk.i64_in _ (by omega)
          have HCH1 := Lib.hid (HCH.out hnp)
          have HFX1 := Lib.hid (HFX.out i hkl)
          have HFY1 := Lib.hid (HFY.out i)
          have HCFX : Hid (∀ g q W, FldsAt W g (c.flds.set i (c.flds[i].withNear 100)) → c.flds.length ≤ q → Ext w W → Calls Tryz.prog 18 #[.agg #[.slice a1 c.tars.length c1, .int .i64 c.day, .int .i64 c.fee, .slice (some ⟨g, 0, none⟩) c.flds.length q]] W fun e w' => ∃ v', e = .returned v' ∧ CasV w' v' (c.withF (c.flds.set i (c.flds[i].withNear 100))) ∧ Ext W w') := Lib.hid (fun g q W h hq hx => by
            have hl : c.flds.length = (c.flds.set i (c.flds[i].withNear 100)).length := by simp
            have h1 := HCF.out (c.flds.set i (c.flds[i].withNear 100)) (some ⟨g, 0, none⟩) q W (by rw [← hl]; exact h.toV c.flds.length hl hq (by omega)) hx
            rw [← hl] at h1
            exact h1)
          obtain ⟨m, hm⟩ : ∃ m, c.flds.length = i + 1 + m := ⟨c.flds.length - (i + 1), by omega⟩
          have hll : (c.flds.take i ++ c.flds.drop (i + 1)).length = i + m := by simp; omega
          have HCFY : Hid (∀ ay q W, FldsV W (.slice ay (i + m) q) (c.flds.take i ++ c.flds.drop (i + 1)) → Ext w W → Calls Tryz.prog 18 #[.agg #[.slice a1 c.tars.length c1, .int .i64 c.day, .int .i64 c.fee, .slice ay (i + m) q]] W fun e w' => ∃ v', e = .returned v' ∧ CasV w' v' (c.withF (c.flds.take i ++ c.flds.drop (i + 1))) ∧ Ext W w') := Lib.hid (fun ay q W h hx => by
            have h1 := HCF.out (c.flds.take i ++ c.flds.drop (i + 1)) ay q W (by rw [hll]; exact h) hx
            rw [hll] at h1
            exact h1)
          have HPX : Hid (∀ (W : World) g, FldsAt W g c.flds → FldsAt (W.setCell ⟨g, i * 9 + 2, none⟩ (.int .i64 100)) g (c.flds.set i ((c.flds[i]).withNear 100))) := Lib.hid (fun W g h => h.put (f := (c.flds[i]).withNear 100) (x := .int .i64 100) hkl (j := 2) (by decide) (fun m hm => by
            have : m = 0 ∨ m = 1 ∨ m = 2 ∨ m = 3 ∨ m = 4 ∨ m = 5 ∨ m = 6 ∨ m = 7 ∨ m = 8 := by omega
            rcases this with rfl | rfl | rfl | rfl | rfl | rfl | rfl | rfl | rfl <;> rfl))
          have HAT := Lib.hid (fun (W : World) g (h : FldsAt W g c.flds) => (h.cells i hkl).2.2.1)
          have HTK : Hid (∀ (W : World) g q, FldsO W g q c.flds → W.ownsRow g 45 9 (.slice (some ⟨g, 0, none⟩) i q) i ((c.flds.take i).flatMap (fun x => x.c.cs))) := Lib.hid (fun W g q h => h.take (by omega))
          have HLC : Hid (∀ (W : World) g, FldsAt W g c.flds → ∀ j u, ((c.flds.drop (i + 1)).flatMap (fun x => x.c.cs))[j]? = some u → W.cell? ((⟨g, (i + 1) * 9, none⟩ : Addr).add j) = some u) := Lib.hid (fun W g h => last_cells h)
          have HLN : Hid (((c.flds.drop (i + 1)).flatMap (fun x => x.c.cs)).length = m * 9) := Lib.hid (by rw [flds_flat]; simp; omega)
          have HON : Hid (∀ u ∈ (c.flds.drop (i + 1)).flatMap (fun x => x.c.cs), u.oneCell' = true) := Lib.hid (flds_one _)
          have HUS : Hid ((c.flds.take i).flatMap (fun x => x.c.cs) ++ (c.flds.drop (i + 1)).flatMap (fun x => x.c.cs) = (c.flds.take i ++ c.flds.drop (i + 1)).flatMap (fun x => x.c.cs)) := Lib.hid (by rw [List.flatMap_append])
          have HLL : Hid (i + m = (c.flds.take i ++ c.flds.drop (i + 1)).length) := Lib.hid hll.symm
          have HTR : Hid (∀ (W : World) g, FldsAt W g c.flds → m = 0 → FldsAt W g (c.flds.take i ++ c.flds.drop (i + 1))) := Lib.hid (fun W g h hm0 => by
            have e : c.flds.drop (i + 1) = [] := List.drop_eq_nil_of_le (by omega)
            rw [e, List.append_nil]
            exact h.front)
          have HNE : Hid (∃ x, x = (c.flds[i]).near) := Lib.hid ⟨_, rfl⟩
          obtain ⟨i9, hi9, hz90, hz91, hz92⟩ := info_parts info_rfld
          clear HCH HFX HFY HCF HFA hll HNE
          generalize bLo (c.withF (c.flds.take i ++ c.flds.drop (i + 1))) 1 = u1 at *
          generalize bHi (c.withF (c.flds.take i ++ c.flds.drop (i + 1))) 1 = t1 at *
          generalize bLo (c.withF (c.flds.take i ++ c.flds.drop (i + 1))) 2 = u2 at *
          generalize bHi (c.withF (c.flds.take i ++ c.flds.drop (i + 1))) 2 = t2 at *
          generalize c.flds.set i (c.flds[i].withNear 100) = lx at *
          generalize (c.flds[i]).c.c2 = nr at *
          generalize hly : c.flds.take i ++ c.flds.drop (i + 1) = ly at *
          clear hly
          generalize (c.flds.take i).flatMap (fun x => x.c.cs) = us1 at *
          generalize (c.flds.drop (i + 1)).flatMap (fun x => x.c.cs) = us2 at *
          generalize c.flds.length = n2 at *
          have hnm : n2 - (i + 1) = m := by omega
          have HM := Lib.hid hm
          clear hm
          have hT3 : w.heap.size < wo.heap.size := lt_of_cell q0
          have HS1 : Hid (∀ w', Ext wo w' → (w'.cell? ⟨w.heap.size, 0, none⟩ = some (.slice a1 c.tars.length c1) ∧ w'.cell? ⟨w.heap.size, 1, none⟩ = some (.int .i64 c.day) ∧ w'.cell? ⟨w.heap.size, 2, none⟩ = some (.int .i64 c.fee) ∧ w'.cell? ⟨w.heap.size, 3, none⟩ = some (.slice a2 n2 c2)) ∧ Ext wo w') := Lib.hid (fun w' hx => ⟨⟨hx.keep q0, hx.keep q1, hx.keep q2, hx.keep q3⟩, hx⟩)
          go_upto_region 21 with fail
          go_cut [13, 14] from 82 to 85 (fun sA sB wx => ∃ A B gA qA gB qB, sA = .pointer (some ⟨A, 0, none⟩) ∧ sB = .pointer (some ⟨B, 0, none⟩) ∧ TwoO wo (.slice a1 c.tars.length c1) (.int .i64 c.day) (.int .i64 c.fee) n2 c.flds c.flds A B gA qA gB qB wx)
          case first =>
            --DEV
            clear HAW HFX1 HFY1 HCFX HCFY HPX HAT HTK HLC HLN HON HUS HLL HTR q0 q1 q2 q3 s0 s1 a0 a1' hk1 hk2 hw1
            refine wp_region_held_drew (S := (fun w' => (w'.cell? ⟨w.heap.size, 0, none⟩ = some (.slice a1 c.tars.length c1) ∧ w'.cell? ⟨w.heap.size, 1, none⟩ = some (.int .i64 c.day) ∧ w'.cell? ⟨w.heap.size, 2, none⟩ = some (.int .i64 c.fee) ∧ w'.cell? ⟨w.heap.size, 3, none⟩ = some (.slice a2 n2 c2)) ∧ Ext wo w')) (by kernel_rfl) ?_ (fun hHeld => ?_)
            focus ((try dsimp only); (refine HS1.out _ ?_; (repeat (first | exact Ext.refl _ | (with_reducible assumption) | (with_reducible refine Ext.drew ?_) | (with_reducible refine Ext.alloc ?_ _) | (with_reducible refine Ext.drewN ?_ _) | (with_reducible refine Ext.setCell ?_ (by omega) _) | (with_reducible refine Ext.trans ?_ (by with_reducible assumption))))))
            refine wpAnyH_take (i := 0) (v := ?_) rfl (by kernel_rfl) (by decide +kernel) (by decide +kernel) (fun _ _ _ h => h) (Or.inl ⟨by rfl, ?_⟩) (by assumption) ?_
            rotate_left
            focus (intro w hSw; (try dsimp only at hSw); go_simp; try (first | (with_reducible rfl) | (with_reducible exact rfl)))
            (try simp only [Act.put, List.getElem_toArray, List.getElem_cons_succ, List.getElem_cons_zero, List.setIfInBounds_toArray, List.set_cons_zero, List.set_cons_succ])
            refine wpAnyH_take (i := 2) (v := ?_) rfl (by kernel_rfl) (by decide +kernel) (by decide +kernel) (fun _ _ _ h => h) (Or.inl ⟨by rfl, ?_⟩) (by assumption) ?_
            rotate_left
            focus (intro w hSw; (try dsimp only at hSw); go_simp; try (first | (with_reducible rfl) | (with_reducible exact rfl)))
            (try simp only [Act.put, List.getElem_toArray, List.getElem_cons_succ, List.getElem_cons_zero, List.setIfInBounds_toArray, List.set_cons_zero, List.set_cons_succ])
            repeat' (first
              | (refine wpAnyH_ready (rs := [1, 4, 5]) (by decide +kernel) (by simp) ?_
                 refine AllReadyH.cons rfl (fun K hK => ?_) ?_
                 focus
                   (go_simp; ((with_reducible refine (HCH1.out _ (XO.trans (by (repeat (first | exact Ext.refl _ | (with_reducible assumption) | (with_reducible refine Ext.drew ?_) | (with_reducible refine Ext.alloc ?_ _) | (with_reducible refine Ext.drewN ?_ _) | (with_reducible refine Ext.setCell ?_ (by omega) _) | (with_reducible refine Ext.trans ?_ (by with_reducible assumption))))))).mono ?_); rintro e w3 ⟨gA, qA, rfl, hflA, hgA, hqA, hx3⟩; have hs3 := hx3.size; (try simp at hs3); (try simp at hgA)); go_wp2_with fail)
                   refine hK.out _ _ ?_ (fun hNew => ?_)
                   focus ((try dsimp only); (refine HS1.out _ ?_; (repeat (first | exact Ext.refl _ | (with_reducible assumption) | (with_reducible refine Ext.drew ?_) | (with_reducible refine Ext.alloc ?_ _) | (with_reducible refine Ext.drewN ?_ _) | (with_reducible refine Ext.setCell ?_ (by omega) _) | (with_reducible refine Ext.trans ?_ (by with_reducible assumption))))))
                   clear hK K hHeld
                   have hHeld := hNew
                   clear hNew
                   (try simp only [Act.put, List.getElem_toArray, List.getElem_cons_succ, List.getElem_cons_zero, List.setIfInBounds_toArray, List.set_cons_zero, List.set_cons_succ])
                 rotate_left
                 refine AllReadyH.cons rfl (fun K hK => ?_) ?_
                 focus
                   (go_simp; (first | refine alloc_gen (F := K _) ?_ | refine alloc_gend (F := K _) ?_); intro wA hxA hbA; have hsA := hxA.size; have hlA := hbA.lt; (try simp at hsA); (try simp at hlA))
                   refine hK.out _ _ ?_ (fun hNew => ?_)
                   focus ((try dsimp only); (refine HS1.out _ ?_; (repeat (first | exact Ext.refl _ | (with_reducible assumption) | (with_reducible refine Ext.drew ?_) | (with_reducible refine Ext.alloc ?_ _) | (with_reducible refine Ext.drewN ?_ _) | (with_reducible refine Ext.setCell ?_ (by omega) _) | (with_reducible refine Ext.trans ?_ (by with_reducible assumption))))))
                   clear hK K hHeld
                   have hHeld := hNew
                   clear hNew
                   (try simp only [Act.put, List.getElem_toArray, List.getElem_cons_succ, List.getElem_cons_zero, List.setIfInBounds_toArray, List.set_cons_zero, List.set_cons_succ])
                 rotate_left
                 refine AllReadyH.cons rfl (fun K hK => ?_) ?_
                 focus
                   (go_simp; (first | refine alloc_gen (F := K _) ?_ | refine alloc_gend (F := K _) ?_); intro wB hxB hbB; have hsB := hxB.size; have hlB := hbB.lt; (try simp at hsB); (try simp at hlB))
                   refine hK.out _ _ ?_ (fun hNew => ?_)
                   focus ((try dsimp only); (refine HS1.out _ ?_; (repeat (first | exact Ext.refl _ | (with_reducible assumption) | (with_reducible refine Ext.drew ?_) | (with_reducible refine Ext.alloc ?_ _) | (with_reducible refine Ext.drewN ?_ _) | (with_reducible refine Ext.setCell ?_ (by omega) _) | (with_reducible refine Ext.trans ?_ (by with_reducible assumption))))))
                   clear hK K hHeld
                   have hHeld := hNew
                   clear hNew
                   (try simp only [Act.put, List.getElem_toArray, List.getElem_cons_succ, List.getElem_cons_zero, List.setIfInBounds_toArray, List.set_cons_zero, List.set_cons_succ])
                 rotate_left
                 exact AllReadyH.nil)
              | (refine wpAnyH_ready (rs := [1, 4]) (by decide +kernel) (by simp) ?_
                 refine AllReadyH.cons rfl (fun K hK => ?_) ?_
                 focus
                   (go_simp; ((with_reducible refine (HCH1.out _ (XO.trans (by (repeat (first | exact Ext.refl _ | (with_reducible assumption) | (with_reducible refine Ext.drew ?_) | (with_reducible refine Ext.alloc ?_ _) | (with_reducible refine Ext.drewN ?_ _) | (with_reducible refine Ext.setCell ?_ (by omega) _) | (with_reducible refine Ext.trans ?_ (by with_reducible assumption))))))).mono ?_); rintro e w3 ⟨gA, qA, rfl, hflA, hgA, hqA, hx3⟩; have hs3 := hx3.size; (try simp at hs3); (try simp at hgA)); go_wp2_with fail)
                   refine hK.out _ _ ?_ (fun hNew => ?_)
                   focus ((try dsimp only); (refine HS1.out _ ?_; (repeat (first | exact Ext.refl _ | (with_reducible assumption) | (with_reducible refine Ext.drew ?_) | (with_reducible refine Ext.alloc ?_ _) | (with_reducible refine Ext.drewN ?_ _) | (with_reducible refine Ext.setCell ?_ (by omega) _) | (with_reducible refine Ext.trans ?_ (by with_reducible assumption))))))
                   clear hK K hHeld
                   have hHeld := hNew
                   clear hNew
                   (try simp only [Act.put, List.getElem_toArray, List.getElem_cons_succ, List.getElem_cons_zero, List.setIfInBounds_toArray, List.set_cons_zero, List.set_cons_succ])
                 rotate_left
                 refine AllReadyH.cons rfl (fun K hK => ?_) ?_
                 focus
                   (go_simp; (first | refine alloc_gen (F := K _) ?_ | refine alloc_gend (F := K _) ?_); intro wA hxA hbA; have hsA := hxA.size; have hlA := hbA.lt; (try simp at hsA); (try simp at hlA))
                   refine hK.out _ _ ?_ (fun hNew => ?_)
                   focus ((try dsimp only); (refine HS1.out _ ?_; (repeat (first | exact Ext.refl _ | (with_reducible assumption) | (with_reducible refine Ext.drew ?_) | (with_reducible refine Ext.alloc ?_ _) | (with_reducible refine Ext.drewN ?_ _) | (with_reducible refine Ext.setCell ?_ (by omega) _) | (with_reducible refine Ext.trans ?_ (by with_reducible assumption))))))
                   clear hK K hHeld
                   have hHeld := hNew
                   clear hNew
                   (try simp only [Act.put, List.getElem_toArray, List.getElem_cons_succ, List.getElem_cons_zero, List.setIfInBounds_toArray, List.set_cons_zero, List.set_cons_succ])
                 rotate_left
                 exact AllReadyH.nil)
              | (refine wpAnyH_ready (rs := [1, 5]) (by decide +kernel) (by simp) ?_
                 refine AllReadyH.cons rfl (fun K hK => ?_) ?_
                 focus
                   (go_simp; ((with_reducible refine (HCH1.out _ (XO.trans (by (repeat (first | exact Ext.refl _ | (with_reducible assumption) | (with_reducible refine Ext.drew ?_) | (with_reducible refine Ext.alloc ?_ _) | (with_reducible refine Ext.drewN ?_ _) | (with_reducible refine Ext.setCell ?_ (by omega) _) | (with_reducible refine Ext.trans ?_ (by with_reducible assumption))))))).mono ?_); rintro e w3 ⟨gA, qA, rfl, hflA, hgA, hqA, hx3⟩; have hs3 := hx3.size; (try simp at hs3); (try simp at hgA)); go_wp2_with fail)
                   refine hK.out _ _ ?_ (fun hNew => ?_)
                   focus ((try dsimp only); (refine HS1.out _ ?_; (repeat (first | exact Ext.refl _ | (with_reducible assumption) | (with_reducible refine Ext.drew ?_) | (with_reducible refine Ext.alloc ?_ _) | (with_reducible refine Ext.drewN ?_ _) | (with_reducible refine Ext.setCell ?_ (by omega) _) | (with_reducible refine Ext.trans ?_ (by with_reducible assumption))))))
                   clear hK K hHeld
                   have hHeld := hNew
                   clear hNew
                   (try simp only [Act.put, List.getElem_toArray, List.getElem_cons_succ, List.getElem_cons_zero, List.setIfInBounds_toArray, List.set_cons_zero, List.set_cons_succ])
                 rotate_left
                 refine AllReadyH.cons rfl (fun K hK => ?_) ?_
                 focus
                   (go_simp; (first | refine alloc_gen (F := K _) ?_ | refine alloc_gend (F := K _) ?_); intro wB hxB hbB; have hsB := hxB.size; have hlB := hbB.lt; (try simp at hsB); (try simp at hlB))
                   refine hK.out _ _ ?_ (fun hNew => ?_)
                   focus ((try dsimp only); (refine HS1.out _ ?_; (repeat (first | exact Ext.refl _ | (with_reducible assumption) | (with_reducible refine Ext.drew ?_) | (with_reducible refine Ext.alloc ?_ _) | (with_reducible refine Ext.drewN ?_ _) | (with_reducible refine Ext.setCell ?_ (by omega) _) | (with_reducible refine Ext.trans ?_ (by with_reducible assumption))))))
                   clear hK K hHeld
                   have hHeld := hNew
                   clear hNew
                   (try simp only [Act.put, List.getElem_toArray, List.getElem_cons_succ, List.getElem_cons_zero, List.setIfInBounds_toArray, List.set_cons_zero, List.set_cons_succ])
                 rotate_left
                 exact AllReadyH.nil)
              | (refine wpAnyH_ready (rs := [1]) (by decide +kernel) (by simp) ?_
                 refine AllReadyH.cons rfl (fun K hK => ?_) ?_
                 focus
                   (go_simp; ((with_reducible refine (HCH1.out _ (XO.trans (by (repeat (first | exact Ext.refl _ | (with_reducible assumption) | (with_reducible refine Ext.drew ?_) | (with_reducible refine Ext.alloc ?_ _) | (with_reducible refine Ext.drewN ?_ _) | (with_reducible refine Ext.setCell ?_ (by omega) _) | (with_reducible refine Ext.trans ?_ (by with_reducible assumption))))))).mono ?_); rintro e w3 ⟨gA, qA, rfl, hflA, hgA, hqA, hx3⟩; have hs3 := hx3.size; (try simp at hs3); (try simp at hgA)); go_wp2_with fail)
                   refine hK.out _ _ ?_ (fun hNew => ?_)
                   focus ((try dsimp only); (refine HS1.out _ ?_; (repeat (first | exact Ext.refl _ | (with_reducible assumption) | (with_reducible refine Ext.drew ?_) | (with_reducible refine Ext.alloc ?_ _) | (with_reducible refine Ext.drewN ?_ _) | (with_reducible refine Ext.setCell ?_ (by omega) _) | (with_reducible refine Ext.trans ?_ (by with_reducible assumption))))))
                   clear hK K hHeld
                   have hHeld := hNew
                   clear hNew
                   (try simp only [Act.put, List.getElem_toArray, List.getElem_cons_succ, List.getElem_cons_zero, List.setIfInBounds_toArray, List.set_cons_zero, List.set_cons_succ])
                 rotate_left
                 exact AllReadyH.nil)
              | (refine wpAnyH_ready (rs := [3, 4, 5]) (by decide +kernel) (by simp) ?_
                 refine AllReadyH.cons rfl (fun K hK => ?_) ?_
                 focus
                   (go_simp; ((with_reducible refine (HCH1.out _ (XO.trans (by (repeat (first | exact Ext.refl _ | (with_reducible assumption) | (with_reducible refine Ext.drew ?_) | (with_reducible refine Ext.alloc ?_ _) | (with_reducible refine Ext.drewN ?_ _) | (with_reducible refine Ext.setCell ?_ (by omega) _) | (with_reducible refine Ext.trans ?_ (by with_reducible assumption))))))).mono ?_); rintro e w4 ⟨gB, qB, rfl, hflB, hgB, hqB, hx4⟩; have hs4 := hx4.size; (try simp at hs4); (try simp at hgB)); go_wp2_with fail)
                   refine hK.out _ _ ?_ (fun hNew => ?_)
                   focus ((try dsimp only); (refine HS1.out _ ?_; (repeat (first | exact Ext.refl _ | (with_reducible assumption) | (with_reducible refine Ext.drew ?_) | (with_reducible refine Ext.alloc ?_ _) | (with_reducible refine Ext.drewN ?_ _) | (with_reducible refine Ext.setCell ?_ (by omega) _) | (with_reducible refine Ext.trans ?_ (by with_reducible assumption))))))
                   clear hK K hHeld
                   have hHeld := hNew
                   clear hNew
                   (try simp only [Act.put, List.getElem_toArray, List.getElem_cons_succ, List.getElem_cons_zero, List.setIfInBounds_toArray, List.set_cons_zero, List.set_cons_succ])
                 rotate_left
                 refine AllReadyH.cons rfl (fun K hK => ?_) ?_
                 focus
                   (go_simp; (first | refine alloc_gen (F := K _) ?_ | refine alloc_gend (F := K _) ?_); intro wA hxA hbA; have hsA := hxA.size; have hlA := hbA.lt; (try simp at hsA); (try simp at hlA))
                   refine hK.out _ _ ?_ (fun hNew => ?_)
                   focus ((try dsimp only); (refine HS1.out _ ?_; (repeat (first | exact Ext.refl _ | (with_reducible assumption) | (with_reducible refine Ext.drew ?_) | (with_reducible refine Ext.alloc ?_ _) | (with_reducible refine Ext.drewN ?_ _) | (with_reducible refine Ext.setCell ?_ (by omega) _) | (with_reducible refine Ext.trans ?_ (by with_reducible assumption))))))
                   clear hK K hHeld
                   have hHeld := hNew
                   clear hNew
                   (try simp only [Act.put, List.getElem_toArray, List.getElem_cons_succ, List.getElem_cons_zero, List.setIfInBounds_toArray, List.set_cons_zero, List.set_cons_succ])
                 rotate_left
                 refine AllReadyH.cons rfl (fun K hK => ?_) ?_
                 focus
                   (go_simp; (first | refine alloc_gen (F := K _) ?_ | refine alloc_gend (F := K _) ?_); intro wB hxB hbB; have hsB := hxB.size; have hlB := hbB.lt; (try simp at hsB); (try simp at hlB))
                   refine hK.out _ _ ?_ (fun hNew => ?_)
                   focus ((try dsimp only); (refine HS1.out _ ?_; (repeat (first | exact Ext.refl _ | (with_reducible assumption) | (with_reducible refine Ext.drew ?_) | (with_reducible refine Ext.alloc ?_ _) | (with_reducible refine Ext.drewN ?_ _) | (with_reducible refine Ext.setCell ?_ (by omega) _) | (with_reducible refine Ext.trans ?_ (by with_reducible assumption))))))
                   clear hK K hHeld
                   have hHeld := hNew
                   clear hNew
                   (try simp only [Act.put, List.getElem_toArray, List.getElem_cons_succ, List.getElem_cons_zero, List.setIfInBounds_toArray, List.set_cons_zero, List.set_cons_succ])
                 rotate_left
                 exact AllReadyH.nil)
              | (refine wpAnyH_ready (rs := [3, 4]) (by decide +kernel) (by simp) ?_
                 refine AllReadyH.cons rfl (fun K hK => ?_) ?_
                 focus
                   (go_simp; ((with_reducible refine (HCH1.out _ (XO.trans (by (repeat (first | exact Ext.refl _ | (with_reducible assumption) | (with_reducible refine Ext.drew ?_) | (with_reducible refine Ext.alloc ?_ _) | (with_reducible refine Ext.drewN ?_ _) | (with_reducible refine Ext.setCell ?_ (by omega) _) | (with_reducible refine Ext.trans ?_ (by with_reducible assumption))))))).mono ?_); rintro e w4 ⟨gB, qB, rfl, hflB, hgB, hqB, hx4⟩; have hs4 := hx4.size; (try simp at hs4); (try simp at hgB)); go_wp2_with fail)
                   refine hK.out _ _ ?_ (fun hNew => ?_)
                   focus ((try dsimp only); (refine HS1.out _ ?_; (repeat (first | exact Ext.refl _ | (with_reducible assumption) | (with_reducible refine Ext.drew ?_) | (with_reducible refine Ext.alloc ?_ _) | (with_reducible refine Ext.drewN ?_ _) | (with_reducible refine Ext.setCell ?_ (by omega) _) | (with_reducible refine Ext.trans ?_ (by with_reducible assumption))))))
                   clear hK K hHeld
                   have hHeld := hNew
                   clear hNew
                   (try simp only [Act.put, List.getElem_toArray, List.getElem_cons_succ, List.getElem_cons_zero, List.setIfInBounds_toArray, List.set_cons_zero, List.set_cons_succ])
                 rotate_left
                 refine AllReadyH.cons rfl (fun K hK => ?_) ?_
                 focus
                   (go_simp; (first | refine alloc_gen (F := K _) ?_ | refine alloc_gend (F := K _) ?_); intro wA hxA hbA; have hsA := hxA.size; have hlA := hbA.lt; (try simp at hsA); (try simp at hlA))
                   refine hK.out _ _ ?_ (fun hNew => ?_)
                   focus ((try dsimp only); (refine HS1.out _ ?_; (repeat (first | exact Ext.refl _ | (with_reducible assumption) | (with_reducible refine Ext.drew ?_) | (with_reducible refine Ext.alloc ?_ _) | (with_reducible refine Ext.drewN ?_ _) | (with_reducible refine Ext.setCell ?_ (by omega) _) | (with_reducible refine Ext.trans ?_ (by with_reducible assumption))))))
                   clear hK K hHeld
                   have hHeld := hNew
                   clear hNew
                   (try simp only [Act.put, List.getElem_toArray, List.getElem_cons_succ, List.getElem_cons_zero, List.setIfInBounds_toArray, List.set_cons_zero, List.set_cons_succ])
                 rotate_left
                 exact AllReadyH.nil)
              | (refine wpAnyH_ready (rs := [3, 5]) (by decide +kernel) (by simp) ?_
                 refine AllReadyH.cons rfl (fun K hK => ?_) ?_
                 focus
                   (go_simp; ((with_reducible refine (HCH1.out _ (XO.trans (by (repeat (first | exact Ext.refl _ | (with_reducible assumption) | (with_reducible refine Ext.drew ?_) | (with_reducible refine Ext.alloc ?_ _) | (with_reducible refine Ext.drewN ?_ _) | (with_reducible refine Ext.setCell ?_ (by omega) _) | (with_reducible refine Ext.trans ?_ (by with_reducible assumption))))))).mono ?_); rintro e w4 ⟨gB, qB, rfl, hflB, hgB, hqB, hx4⟩; have hs4 := hx4.size; (try simp at hs4); (try simp at hgB)); go_wp2_with fail)
                   refine hK.out _ _ ?_ (fun hNew => ?_)
                   focus ((try dsimp only); (refine HS1.out _ ?_; (repeat (first | exact Ext.refl _ | (with_reducible assumption) | (with_reducible refine Ext.drew ?_) | (with_reducible refine Ext.alloc ?_ _) | (with_reducible refine Ext.drewN ?_ _) | (with_reducible refine Ext.setCell ?_ (by omega) _) | (with_reducible refine Ext.trans ?_ (by with_reducible assumption))))))
                   clear hK K hHeld
                   have hHeld := hNew
                   clear hNew
                   (try simp only [Act.put, List.getElem_toArray, List.getElem_cons_succ, List.getElem_cons_zero, List.setIfInBounds_toArray, List.set_cons_zero, List.set_cons_succ])
                 rotate_left
                 refine AllReadyH.cons rfl (fun K hK => ?_) ?_
                 focus
                   (go_simp; (first | refine alloc_gen (F := K _) ?_ | refine alloc_gend (F := K _) ?_); intro wB hxB hbB; have hsB := hxB.size; have hlB := hbB.lt; (try simp at hsB); (try simp at hlB))
                   refine hK.out _ _ ?_ (fun hNew => ?_)
                   focus ((try dsimp only); (refine HS1.out _ ?_; (repeat (first | exact Ext.refl _ | (with_reducible assumption) | (with_reducible refine Ext.drew ?_) | (with_reducible refine Ext.alloc ?_ _) | (with_reducible refine Ext.drewN ?_ _) | (with_reducible refine Ext.setCell ?_ (by omega) _) | (with_reducible refine Ext.trans ?_ (by with_reducible assumption))))))
                   clear hK K hHeld
                   have hHeld := hNew
                   clear hNew
                   (try simp only [Act.put, List.getElem_toArray, List.getElem_cons_succ, List.getElem_cons_zero, List.setIfInBounds_toArray, List.set_cons_zero, List.set_cons_succ])
                 rotate_left
                 exact AllReadyH.nil)
              | (refine wpAnyH_ready (rs := [3]) (by decide +kernel) (by simp) ?_
                 refine AllReadyH.cons rfl (fun K hK => ?_) ?_
                 focus
                   (go_simp; ((with_reducible refine (HCH1.out _ (XO.trans (by (repeat (first | exact Ext.refl _ | (with_reducible assumption) | (with_reducible refine Ext.drew ?_) | (with_reducible refine Ext.alloc ?_ _) | (with_reducible refine Ext.drewN ?_ _) | (with_reducible refine Ext.setCell ?_ (by omega) _) | (with_reducible refine Ext.trans ?_ (by with_reducible assumption))))))).mono ?_); rintro e w4 ⟨gB, qB, rfl, hflB, hgB, hqB, hx4⟩; have hs4 := hx4.size; (try simp at hs4); (try simp at hgB)); go_wp2_with fail)
                   refine hK.out _ _ ?_ (fun hNew => ?_)
                   focus ((try dsimp only); (refine HS1.out _ ?_; (repeat (first | exact Ext.refl _ | (with_reducible assumption) | (with_reducible refine Ext.drew ?_) | (with_reducible refine Ext.alloc ?_ _) | (with_reducible refine Ext.drewN ?_ _) | (with_reducible refine Ext.setCell ?_ (by omega) _) | (with_reducible refine Ext.trans ?_ (by with_reducible assumption))))))
                   clear hK K hHeld
                   have hHeld := hNew
                   clear hNew
                   (try simp only [Act.put, List.getElem_toArray, List.getElem_cons_succ, List.getElem_cons_zero, List.setIfInBounds_toArray, List.set_cons_zero, List.set_cons_succ])
                 rotate_left
                 exact AllReadyH.nil)
              | (refine wpAnyH_ready (rs := [4, 5]) (by decide +kernel) (by simp) ?_
                 refine AllReadyH.cons rfl (fun K hK => ?_) ?_
                 focus
                   (go_simp; (first | refine alloc_gen (F := K _) ?_ | refine alloc_gend (F := K _) ?_); intro wA hxA hbA; have hsA := hxA.size; have hlA := hbA.lt; (try simp at hsA); (try simp at hlA))
                   refine hK.out _ _ ?_ (fun hNew => ?_)
                   focus ((try dsimp only); (refine HS1.out _ ?_; (repeat (first | exact Ext.refl _ | (with_reducible assumption) | (with_reducible refine Ext.drew ?_) | (with_reducible refine Ext.alloc ?_ _) | (with_reducible refine Ext.drewN ?_ _) | (with_reducible refine Ext.setCell ?_ (by omega) _) | (with_reducible refine Ext.trans ?_ (by with_reducible assumption))))))
                   clear hK K hHeld
                   have hHeld := hNew
                   clear hNew
                   (try simp only [Act.put, List.getElem_toArray, List.getElem_cons_succ, List.getElem_cons_zero, List.setIfInBounds_toArray, List.set_cons_zero, List.set_cons_succ])
                 rotate_left
                 refine AllReadyH.cons rfl (fun K hK => ?_) ?_
                 focus
                   (go_simp; (first | refine alloc_gen (F := K _) ?_ | refine alloc_gend (F := K _) ?_); intro wB hxB hbB; have hsB := hxB.size; have hlB := hbB.lt; (try simp at hsB); (try simp at hlB))
                   refine hK.out _ _ ?_ (fun hNew => ?_)
                   focus ((try dsimp only); (refine HS1.out _ ?_; (repeat (first | exact Ext.refl _ | (with_reducible assumption) | (with_reducible refine Ext.drew ?_) | (with_reducible refine Ext.alloc ?_ _) | (with_reducible refine Ext.drewN ?_ _) | (with_reducible refine Ext.setCell ?_ (by omega) _) | (with_reducible refine Ext.trans ?_ (by with_reducible assumption))))))
                   clear hK K hHeld
                   have hHeld := hNew
                   clear hNew
                   (try simp only [Act.put, List.getElem_toArray, List.getElem_cons_succ, List.getElem_cons_zero, List.setIfInBounds_toArray, List.set_cons_zero, List.set_cons_succ])
                 rotate_left
                 exact AllReadyH.nil)
              | (refine wpAnyH_ready (rs := [4]) (by decide +kernel) (by simp) ?_
                 refine AllReadyH.cons rfl (fun K hK => ?_) ?_
                 focus
                   (go_simp; (first | refine alloc_gen (F := K _) ?_ | refine alloc_gend (F := K _) ?_); intro wA hxA hbA; have hsA := hxA.size; have hlA := hbA.lt; (try simp at hsA); (try simp at hlA))
                   refine hK.out _ _ ?_ (fun hNew => ?_)
                   focus ((try dsimp only); (refine HS1.out _ ?_; (repeat (first | exact Ext.refl _ | (with_reducible assumption) | (with_reducible refine Ext.drew ?_) | (with_reducible refine Ext.alloc ?_ _) | (with_reducible refine Ext.drewN ?_ _) | (with_reducible refine Ext.setCell ?_ (by omega) _) | (with_reducible refine Ext.trans ?_ (by with_reducible assumption))))))
                   clear hK K hHeld
                   have hHeld := hNew
                   clear hNew
                   (try simp only [Act.put, List.getElem_toArray, List.getElem_cons_succ, List.getElem_cons_zero, List.setIfInBounds_toArray, List.set_cons_zero, List.set_cons_succ])
                 rotate_left
                 exact AllReadyH.nil)
              | (refine wpAnyH_ready (rs := [5]) (by decide +kernel) (by simp) ?_
                 refine AllReadyH.cons rfl (fun K hK => ?_) ?_
                 focus
                   (go_simp; (first | refine alloc_gen (F := K _) ?_ | refine alloc_gend (F := K _) ?_); intro wB hxB hbB; have hsB := hxB.size; have hlB := hbB.lt; (try simp at hsB); (try simp at hlB))
                   refine hK.out _ _ ?_ (fun hNew => ?_)
                   focus ((try dsimp only); (refine HS1.out _ ?_; (repeat (first | exact Ext.refl _ | (with_reducible assumption) | (with_reducible refine Ext.drew ?_) | (with_reducible refine Ext.alloc ?_ _) | (with_reducible refine Ext.drewN ?_ _) | (with_reducible refine Ext.setCell ?_ (by omega) _) | (with_reducible refine Ext.trans ?_ (by with_reducible assumption))))))
                   clear hK K hHeld
                   have hHeld := hNew
                   clear hNew
                   (try simp only [Act.put, List.getElem_toArray, List.getElem_cons_succ, List.getElem_cons_zero, List.setIfInBounds_toArray, List.set_cons_zero, List.set_cons_succ])
                 rotate_left
                 exact AllReadyH.nil)
              | (refine wpAnyH_ready (rs := [6]) (by decide +kernel) (by simp) ?_
                 refine AllReadyH.cons rfl (fun K hK => ?_) ?_
                 focus
                   (have hcur := Lib.hid hHeld.2; have hszc := hcur.out.size; have hgAl := hflA.lt; have hgBl := hflB.lt; have hbz := (BoxN.keepTo hcur hbA (by (repeat (first | exact Ext.refl _ | (with_reducible assumption) | (with_reducible refine Ext.drew ?_) | (with_reducible refine Ext.alloc ?_ _) | (with_reducible refine Ext.drewN ?_ _) | (with_reducible refine Ext.setCell ?_ (by omega) _) | (with_reducible refine Ext.trans ?_ (by with_reducible assumption)))))).to hcur.out (by omega); have hbw := (BoxN.keepTo hcur hbB (by (repeat (first | exact Ext.refl _ | (with_reducible assumption) | (with_reducible refine Ext.drew ?_) | (with_reducible refine Ext.alloc ?_ _) | (with_reducible refine Ext.drewN ?_ _) | (with_reducible refine Ext.setCell ?_ (by omega) _) | (with_reducible refine Ext.trans ?_ (by with_reducible assumption)))))).to hcur.out (by omega); have hfz := FldsO.keepTo hcur hflA (by (repeat (first | exact Ext.refl _ | (with_reducible assumption) | (with_reducible refine Ext.drew ?_) | (with_reducible refine Ext.alloc ?_ _) | (with_reducible refine Ext.drewN ?_ _) | (with_reducible refine Ext.setCell ?_ (by omega) _) | (with_reducible refine Ext.trans ?_ (by with_reducible assumption))))); have hfw := FldsO.keepTo hcur hflB (by (repeat (first | exact Ext.refl _ | (with_reducible assumption) | (with_reducible refine Ext.drew ?_) | (with_reducible refine Ext.alloc ?_ _) | (with_reducible refine Ext.drewN ?_ _) | (with_reducible refine Ext.setCell ?_ (by omega) _) | (with_reducible refine Ext.trans ?_ (by with_reducible assumption))))); have z0 := hbz.cells 0 _ rfl; have z1 := hbz.cells 1 _ rfl; have z2 := hbz.cells 2 _ rfl; have z3 := hbz.cells 3 _ rfl; have zf := hbz.fr; go_simp; refine store4_gen (F := K _) hbz ?_; intro w6 hb6 hk6; have hx6 := hk6.toExt hcur.out (fun j hj => by omega); have hbw6 := hbw.kp hk6 (by omega) (fun j hj => by omega); have hfz6 := hfz.kp hk6 (by omega); have hfw6 := hfw.kp hk6 (by omega); have hb6' := hb6; clear z0 z1 z2 z3 zf hbz hbw hfz hfw)
                   refine hK.out _ _ ?_ (fun hNew => ?_)
                   focus ((try dsimp only); (refine HS1.out _ ?_; (repeat (first | exact Ext.refl _ | (with_reducible assumption) | (with_reducible refine Ext.drew ?_) | (with_reducible refine Ext.alloc ?_ _) | (with_reducible refine Ext.drewN ?_ _) | (with_reducible refine Ext.setCell ?_ (by omega) _) | (with_reducible refine Ext.trans ?_ (by with_reducible assumption))))))
                   clear hK K hHeld
                   have hHeld := hNew
                   clear hNew
                   (try simp only [Act.put, List.getElem_toArray, List.getElem_cons_succ, List.getElem_cons_zero, List.setIfInBounds_toArray, List.set_cons_zero, List.set_cons_succ])
                 rotate_left
                 exact AllReadyH.nil)
              | (refine wpAnyH_ready (rs := [7]) (by decide +kernel) (by simp) ?_
                 refine AllReadyH.cons rfl (fun K hK => ?_) ?_
                 focus
                   (have z0 := hbw6.cells 0 _ rfl; have z1 := hbw6.cells 1 _ rfl; have z2 := hbw6.cells 2 _ rfl; have z3 := hbw6.cells 3 _ rfl; have zf := hbw6.fr; go_simp; refine store4_gen (F := K _) hbw6 ?_; intro w7 hb7 hk7; have hx7 := hk7.toExt hx6 (fun j hj => by omega); have hb7' := hb7; have hbA7 := hb6'.kp hk7 (by omega) (fun j hj => by omega); have hfA7 := hfz6.kp hk7 (by omega); have hfB7 := hfw6.kp hk7 (by omega); clear z0 z1 z2 z3 zf)
                   refine hK.out _ _ ?_ (fun hNew => ?_)
                   focus ((try dsimp only); (refine HS1.out _ ?_; (repeat (first | exact Ext.refl _ | (with_reducible assumption) | (with_reducible refine Ext.drew ?_) | (with_reducible refine Ext.alloc ?_ _) | (with_reducible refine Ext.drewN ?_ _) | (with_reducible refine Ext.setCell ?_ (by omega) _) | (with_reducible refine Ext.trans ?_ (by with_reducible assumption))))))
                   clear hK K hHeld
                   have hHeld := hNew
                   clear hNew
                   (try simp only [Act.put, List.getElem_toArray, List.getElem_cons_succ, List.getElem_cons_zero, List.setIfInBounds_toArray, List.set_cons_zero, List.set_cons_succ])
                 rotate_left
                 exact AllReadyH.nil)
              | (refine wpAnyH_done (by decide +kernel) ?_ _)
              | fail)
            all_goals
              have HT7 := Lib.hid (TwoO.mk hbA7 hb7' hfA7 hfB7 (by omega) (by omega) (by omega) (by omega) (by omega) (by omega) (by omega) (by omega) hqA hqB hx7)
              clear hbA7 hb7' hfA7 hfB7
              go_wp2_with fail
              go_meet
              exact ⟨_, _, _, _, _, _, rfl, rfl, HT7.out⟩
          case rest =>
            obtain ⟨A, B, gA, qA, gB, qB, rfl, rfl, h2⟩ := hcut
            obtain ⟨w5, rfl⟩ : ∃ x, x = wc := ⟨_, rfl⟩
            have X5 : Ext w w5 := XO.trans h2.ext
            have HFA1 := Lib.hid h2.fA.1
            have HFB := Lib.hid h2.fB
            have a0 := h2.bA.cells 0 _ rfl
            have a1' := h2.bA.cells 1 _ rfl
            have a2' := h2.bA.cells 2 _ rfl
            have a3 := h2.bA.cells 3 _ rfl
            have b0 := h2.bB.cells 0 _ rfl
            have b1 := h2.bB.cells 1 _ rfl
            have b2 := h2.bB.cells 2 _ rfl
            have b3 := h2.bB.cells 3 _ rfl
            have bf := h2.bB.fr
            have nr1 := HAT.out _ _ HFA1.out
            have nf := HFA1.out.fr
            have d1 := h2.aA; have d2 := h2.aB; have d3 := h2.bA'; have d4 := h2.bB'; have d5 := h2.gg; have d6 := h2.wA; have d7 := h2.wB; have d8 := h2.ab
            have d9 := h2.bB.ge; have d10 := h2.bA.ge
            have hqA := h2.nA; have hqB := h2.nB
            have hi0' : (0 : Int) ≤ (i : Int) := by omega
            have hm' := HM.out
            have hi1' : (i : Int) < (n2 : Int) := by omega
            have hi2' : (i : Int) + 1 ≤ (n2 : Int) := by omega
            have hi3' : i + 1 ≤ n2 := by omega
            have hnq : n2 ≤ qB := hqB
            clear hm'
            have HX5 := Lib.hid X5
            clear h2 HS1 HCH1 q0 q1 q2 q3 s0 s1 X5 XO
            have hk26 := KP.one (T := gA) (i := i * 9 + 2) (w := w5) (.int .i64 100)
            have hpx := HPX.out _ _ HFA1.out
            have HFB6 := Lib.hid (HFB.out.kp hk26 (Ne.symm d5))
            go_upto_region 23 with fail
            generalize w5.setCell ⟨gA, i * 9 + 2, none⟩ (.int .i64 100) = w26 at *
            have hg1 : A ≠ gA := Ne.symm d1
            replace a0 := hk26.keep hg1 a0
            replace a1' := hk26.keep hg1 a1'
            replace a2' := hk26.keep hg1 a2'
            replace a3 := hk26.keep hg1 a3
            have hg2 : B ≠ gA := Ne.symm d2
            replace b0 := hk26.keep hg2 b0
            replace b1 := hk26.keep hg2 b1
            replace b2 := hk26.keep hg2 b2
            have hBl : B < w5.heap.size := lt_of_cell b3
            replace b3 := hk26.keep hg2 b3
            have bf6 : ∀ o, w26.frozen? ⟨B, o, none⟩ = false := fun o => (hk26.frozen hBl hg2).trans (bf o)
            have HX26 : Hid (Ext w w26) := Lib.hid (hk26.toExt HX5.out (fun j hj => by omega))
            clear HFB nr1 nf bf HPX HAT hk26 HFA1
            have HPX26 := Lib.hid hpx
            have g1 : B ≠ gB := Ne.symm d4
            have hqe : ¬ qB = 0 := by omega
            have hqi : (i : Int) ≤ (qB : Int) := by omega
            have hqi2 : i ≤ qB := by omega
            go_cut [] from 91 to 101 (fun wx => ∃ ay qy, DropB w26 (.slice a1 c.tars.length c1) (.int .i64 c.day) (.int .i64 c.fee) ly gA gB lx B (i + m) ay qy wx)
            case first =>
              clear HAW HFX1 HFY1 HCFX HCFY hk1 hk2 hw1 a0 a1' a2' a3 hb0 hi0 HX5 HX26
              have hBl6 : B < w26.heap.size := lt_of_cell b3
              have hwr : IntKind.i64.wrap ((i : Int) + 1) = (i : Int) + 1 := IntWalk.i64_in _ (by omega)
              have htn : ((i : Int) + 1).toNat = i + 1 := by omega
              have h01 : (0 : Int) ≤ (i : Int) + 1 := by omega
              have h02 : (i : Int) ≤ (i : Int) + 1 := by omega
              by_cases hm0 : m = 0
              · have hli : i = ly.length := by have := HLL.out; omega
                have HDS : Hid (DropB w26 (.slice a1 c.tars.length c1) (.int .i64 c.day) (.int .i64 c.fee) ly gA gB lx B i (some ⟨gB, 0, none⟩) qB (w26.setCell ⟨B, 3, none⟩ (.slice (some ⟨gB, 0, none⟩) i qB))) := Lib.hid (DropB.same (gA := gA) (lA := lx) b0 b1 b2 b3 (HTR.out _ _ HFB6.out.1 hm0) hli (cap := qB) (by omega) (by omega) HPX26.out g1 d2)
                have HQI := Lib.hid hqi2
                have bf3 : w26.frozen? ⟨B, 3, none⟩ = false := bf6 3
                subst hm0
                clear HTK HLC HLN HON HUS HLL HTR HFB6 HPX26 hpx b0 b1 b2 bf6 hli
                by_cases hqx : qB = i + 1
                · subst hqx
                  go_region_law (((refine step_is_app _ _ 23 rfl ?_); (refine step_append_none (by rfl) _ _ 23 (by rfl) 45 i9 Tryz.underlying23 hi9 (some ⟨gB, 0, none⟩) _ i (i + 1) _ HQI.out (by rfl) (by rfl) ?_)))
                  all_goals
                    go_wp2_with fail
                    go_meet
                    exact ⟨_, _, HDS.out.ext (by (repeat (first | exact Ext.refl _ | (with_reducible assumption) | (with_reducible refine Ext.drew ?_) | (with_reducible refine Ext.alloc ?_ _) | (with_reducible refine Ext.drewN ?_ _) | (with_reducible refine Ext.setCell ?_ (by omega) _) | (with_reducible refine Ext.trans ?_ (by with_reducible assumption)))))⟩
                · go_region_law (((refine step_is_app _ _ 23 rfl ?_); (refine step_append_none (by rfl) _ _ 23 (by rfl) 45 i9 Tryz.underlying23 hi9 (some ⟨gB, 0, none⟩) _ i qB _ HQI.out (by rfl) (by rfl) ?_)))
                  all_goals
                    go_wp2_with fail
                    go_meet
                    exact ⟨_, _, HDS.out.ext (by (repeat (first | exact Ext.refl _ | (with_reducible assumption) | (with_reducible refine Ext.drew ?_) | (with_reducible refine Ext.alloc ?_ _) | (with_reducible refine Ext.drewN ?_ _) | (with_reducible refine Ext.setCell ?_ (by omega) _) | (with_reducible refine Ext.trans ?_ (by with_reducible assumption)))))⟩
              · have hqn : ¬ qB = i + 1 := by have := HM.out; omega
                have hmp : 0 < m := by omega
                have HOWN : Hid (∀ W', Ext w26 W' → W'.ownsRow gB 45 9 (.slice (some ⟨gB, 0, none⟩) i qB) i us1) := Lib.hid (fun W' hx => HTK.out W' gB qB (HFB6.out.ext hx))
                have HNW : Hid (∀ W', Ext w26 W' → ∀ j u, us2[j]? = some u → W'.cell? ((⟨gB, (i + 1) * 9, none⟩ : Addr).add j) = some u) := Lib.hid (fun W' hx => HLC.out W' gB (HFB6.out.ext hx).1)
                have HF1 : Hid (i + m ≤ maxLen) := Lib.hid (by have := HM.out; simp only [maxLen]; omega)
                have HF2 : Hid ((i + m) * 72 ≤ 140737488355328) := Lib.hid (by have := HM.out; omega)
                have HF3 : Hid (gB ≤ w26.heap.size) := Lib.hid (Nat.le_of_lt HFB6.out.lt)
                have HMP := Lib.hid hmp
                have HMK : Hid (∀ w4 g cap H, KP (fun j => j = gB) w26 w4 → w4.ownsRow gB 45 9 (.slice (some ⟨g, 0, none⟩) (i + m) cap) (i + m) (us1 ++ us2) → (some gB = some g ∨ g = H) → w26.heap.size ≤ H → DropB w26 (.slice a1 c.tars.length c1) (.int .i64 c.day) (.int .i64 c.fee) ly gA gB lx B (i + m) (some ⟨g, 0, none⟩) cap (w4.setCell ⟨B, 3, none⟩ (.slice (some ⟨g, 0, none⟩) (i + m) cap))) := Lib.hid (fun w4 g cap H hk ho hat hH => DropB.made b0 b1 b2 b3 hk ho HUS.out HLL.out (by omega) (by have := HM.out; omega) hat hH HPX26.out g1 d5 d2)
                have HB3 := Lib.hid b3
                have HBF := Lib.hid (bf6 3)
                have HBL := Lib.hid hBl6
                have HG1 := Lib.hid g1
                clear HTK HLC HUS HLL HTR HFB6 HPX26 hpx b0 b1 b2 bf6
                go_region_law (((refine step_is_app _ _ 23 rfl ?_); (refine step_append_lies _ (by rfl) _ _ 23 (by rfl) gB 45 i9 (.agg #[.int .i64 0, .int .i64 0, .int .i64 0, .int .i64 0, .int .i64 0, .int .i64 0, .int .i64 0, .int .i64 0, .int .i64 0]) 9 72 Tryz.underlying23 hi9 hz90 hz91 hz92 rfl (by decide) (.slice (some ⟨gB, 0, none⟩) i qB) i us1 (by rfl) (HOWN.out _ (by (repeat (first | exact Ext.refl _ | (with_reducible assumption) | (with_reducible refine Ext.drew ?_) | (with_reducible refine Ext.alloc ?_ _) | (with_reducible refine Ext.drewN ?_ _) | (with_reducible refine Ext.setCell ?_ (by omega) _) | (with_reducible refine Ext.trans ?_ (by with_reducible assumption)))))) ⟨gB, (i + 1) * 9, none⟩ m (qB - (i + 1)) us2 (by rfl) HLN.out (HNW.out _ (by (repeat (first | exact Ext.refl _ | (with_reducible assumption) | (with_reducible refine Ext.drew ?_) | (with_reducible refine Ext.alloc ?_ _) | (with_reducible refine Ext.drewN ?_ _) | (with_reducible refine Ext.setCell ?_ (by omega) _) | (with_reducible refine Ext.trans ?_ (by with_reducible assumption)))))) HON.out HMP.out HF1.out HF2.out (le_ext HF3.out (by (repeat (first | exact Ext.refl _ | (with_reducible assumption) | (with_reducible refine Ext.drew ?_) | (with_reducible refine Ext.alloc ?_ _) | (with_reducible refine Ext.drewN ?_ _) | (with_reducible refine Ext.setCell ?_ (by omega) _) | (with_reducible refine Ext.trans ?_ (by with_reducible assumption)))))) _ rfl ?_); intro g cap w4 hown4 hgrow hat hlt4; have hg4 : KP (fun j => j = gB) w26 w4 := KP.trans (Ext.kp (by (repeat (first | exact Ext.refl _ | (with_reducible assumption) | (with_reducible refine Ext.drew ?_) | (with_reducible refine Ext.alloc ?_ _) | (with_reducible refine Ext.drewN ?_ _) | (with_reducible refine Ext.setCell ?_ (by omega) _) | (with_reducible refine Ext.trans ?_ (by with_reducible assumption)))))) (KP.grown hgrow (fun _ hg => by simpa [Value.ownBlock] using hg.symm)); have b3w : w4.cell? ⟨B, 3, none⟩ = some (.slice (some ⟨gB, 0, none⟩) n2 qB) := hg4.keep HG1.out HB3.out; have bfw : w4.frozen? ⟨B, 3, none⟩ = false := (hg4.frozen HBL.out HG1.out).trans HBF.out))
                all_goals
                  have HDS := Lib.hid (HMK.out w4 g cap _ hg4 hown4 hat (by simp))
                  go_wp2_with fail
                  go_meet
                  exact ⟨_, _, HDS.out.ext (by (repeat (first | exact Ext.refl _ | (with_reducible assumption) | (with_reducible refine Ext.drew ?_) | (with_reducible refine Ext.alloc ?_ _) | (with_reducible refine Ext.drewN ?_ _) | (with_reducible refine Ext.setCell ?_ (by omega) _) | (with_reducible refine Ext.trans ?_ (by with_reducible assumption)))))⟩
            case rest =>
              obtain ⟨ay, qy, hdb⟩ := hcut
              obtain ⟨w27, rfl⟩ : ∃ x, x = wc := ⟨_, rfl⟩
              have X27 : Ext w w27 := hdb.kp.toExt HX26.out (fun j hj => by omega)
              have hnA : ¬ (A = B ∨ A = gB) := by omega
              replace a0 := hdb.kp.keep hnA a0
              replace a1' := hdb.kp.keep hnA a1'
              replace a2' := hdb.kp.keep hnA a2'
              replace a3 := hdb.kp.keep hnA a3
              replace b0 := hdb.b0
              replace b1 := hdb.b1
              replace b2 := hdb.b2
              have b3' := hdb.b3
              have hfx := hdb.fA
              have hfy := hdb.fl
              clear b3 hdb HFB6 HX26 bf6 hpx HPX26 HTK HLC HLN HON HUS HLL HTR
              go_wp2_with fail
              (with_reducible refine (HCFX.out _ _ _ hfx hqA X27).mono ?_)
              rintro e w28 ⟨vc, rfl, hv, hx⟩
              have hy : Ext w27 w28 := by (repeat (first | exact Ext.refl _ | (with_reducible assumption) | (with_reducible refine Ext.drew ?_) | (with_reducible refine Ext.alloc ?_ _) | (with_reducible refine Ext.drewN ?_ _) | (with_reducible refine Ext.setCell ?_ (by omega) _) | (with_reducible refine Ext.trans ?_ (by with_reducible assumption))))
              replace X27 := X27.trans hy
              replace b0 := hy.keep b0
              replace b1 := hy.keep b1
              replace b2 := hy.keep b2
              replace b3' := hy.keep b3'
              replace hfy := hfy.ext hy
              clear hx hy
              clear a0 a1' a2' a3 hfx HCFX
              go_wp2_with fail
              (with_reducible refine (HFX1.out _ _ hv).mono ?_)
              rintro e w29 ⟨rfl, hx⟩
              have hy : Ext w28 w29 := by (repeat (first | exact Ext.refl _ | (with_reducible assumption) | (with_reducible refine Ext.drew ?_) | (with_reducible refine Ext.alloc ?_ _) | (with_reducible refine Ext.drewN ?_ _) | (with_reducible refine Ext.setCell ?_ (by omega) _) | (with_reducible refine Ext.trans ?_ (by with_reducible assumption))))
              replace X27 := X27.trans hy
              replace b0 := hy.keep b0
              replace b1 := hy.keep b1
              replace b2 := hy.keep b2
              replace b3' := hy.keep b3'
              replace hfy := hfy.ext hy
              clear hx hy
              clear hv HFX1
              have b0_b := fun o o' => (((Ext.refl w29).alloc o).alloc o').keep b0
              have b1_b := fun o o' => (((Ext.refl w29).alloc o).alloc o').keep b1
              have b2_b := fun o o' => (((Ext.refl w29).alloc o).alloc o').keep b2
              have b3_b := fun o o' => (((Ext.refl w29).alloc o).alloc o').keep b3'
              go_wp2_with fail
              (with_reducible refine (HCFY.out _ _ _ (hfy.ext (by (repeat (first | exact Ext.refl _ | (with_reducible assumption) | (with_reducible refine Ext.drew ?_) | (with_reducible refine Ext.alloc ?_ _) | (with_reducible refine Ext.drewN ?_ _) | (with_reducible refine Ext.setCell ?_ (by omega) _) | (with_reducible refine Ext.trans ?_ (by with_reducible assumption)))))) (X27.trans (by (repeat (first | exact Ext.refl _ | (with_reducible assumption) | (with_reducible refine Ext.drew ?_) | (with_reducible refine Ext.alloc ?_ _) | (with_reducible refine Ext.drewN ?_ _) | (with_reducible refine Ext.setCell ?_ (by omega) _) | (with_reducible refine Ext.trans ?_ (by with_reducible assumption))))))).mono ?_)
              rintro e w30 ⟨vc, rfl, hv, hx⟩
              have hy : Ext w29 w30 := by (repeat (first | exact Ext.refl _ | (with_reducible assumption) | (with_reducible refine Ext.drew ?_) | (with_reducible refine Ext.alloc ?_ _) | (with_reducible refine Ext.drewN ?_ _) | (with_reducible refine Ext.setCell ?_ (by omega) _) | (with_reducible refine Ext.trans ?_ (by with_reducible assumption))))
              have dd0 := hx.keep (k := w29.heap.size) (o := 0) (v := .int .i64 u1) (by simp [go_sem])
              have dd1 := hx.keep (k := w29.heap.size) (o := 1) (v := .int .i64 t1) (by simp [go_sem])
              have ee0 := hx.keep (k := w29.heap.size + 1) (o := 0) (v := .int .i64 u2) (by simp [go_sem])
              have ee1 := hx.keep (k := w29.heap.size + 1) (o := 1) (v := .int .i64 t2) (by simp [go_sem])
              replace X27 := X27.trans hy
              clear hx hy
              clear hfy b0 b1 b2 b3' b0_b b1_b b2_b b3_b HCFY
              go_wp2_with fail
              (with_reducible refine (HFY1.out _ _ hv).mono ?_)
              rintro e w31 ⟨rfl, hx⟩
              have hy : Ext w30 w31 := by (repeat (first | exact Ext.refl _ | (with_reducible assumption) | (with_reducible refine Ext.drew ?_) | (with_reducible refine Ext.alloc ?_ _) | (with_reducible refine Ext.drewN ?_ _) | (with_reducible refine Ext.setCell ?_ (by omega) _) | (with_reducible refine Ext.trans ?_ (by with_reducible assumption))))
              replace X27 := X27.trans hy
              replace dd0 := hy.keep dd0
              replace dd1 := hy.keep dd1
              replace ee0 := hy.keep ee0
              replace ee1 := hy.keep ee1
              clear hx hy
              clear hv HFY1
              have d0_b := fun o o' => (((Ext.refl w31).alloc o).alloc o').keep dd0
              have d1_b := fun o o' => (((Ext.refl w31).alloc o).alloc o').keep dd1
              have e0_b := fun o o' => (((Ext.refl w31).alloc o).alloc o').keep ee0
              have e1_b := fun o o' => (((Ext.refl w31).alloc o).alloc o').keep ee1
              go_wp2_with fail
              (with_reducible refine (HAW.out _).mono ?_)
              rintro e w32 ⟨rfl, hx⟩
              have hy : Ext w31 w32 := by (repeat (first | exact Ext.refl _ | (with_reducible assumption) | (with_reducible refine Ext.drew ?_) | (with_reducible refine Ext.alloc ?_ _) | (with_reducible refine Ext.drewN ?_ _) | (with_reducible refine Ext.setCell ?_ (by omega) _) | (with_reducible refine Ext.trans ?_ (by with_reducible assumption))))
              replace X27 := X27.trans hy
              clear hx hy
              go_wp2_with fail
              go_ret
              exact ⟨rfl, X27⟩
end Go.Proofs.YtbmjnilcinfdiaaGreat
