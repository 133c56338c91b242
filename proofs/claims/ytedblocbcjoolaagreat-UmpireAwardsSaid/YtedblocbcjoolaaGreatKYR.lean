/- The walk of UmpireAwards. -/
import Derived.Test.YtedblocbcjoolaaGreatKVT
import Derived.Test.YtedblocbcjoolaaGreatKRO
import Derived.Test.YtedblocbcjoolaaGreatKRH
set_option linter.unusedSimpArgs false
set_option linter.unusedVariables false
namespace Go.Proofs.YtedblocbcjoolaaGreat
open Go.RowKit Go.Hs
attribute [local irreducible] World.setCell World.alloc
theorem sameM_self (a : List Int) : sameI a a = true := by rw [sameI_eq]; exact decide_eq_true rfl
theorem mattersS_len {c : Cas} (h : CasOK c) : (mattersS c).length ≤ 1000 := by
  rw [mattersS_upto]
  have h1 := upto_len (fun i => matterB c (c.flds.getD i default)) c.flds.length
  have h2 := h.few
  omega

set_option maxRecDepth 100000 in
set_option maxHeartbeats 4000000 in
theorem walk_UmpireAwards (v : Value) (c : Cas) (w : World) (hv : CasW w v c) :
    Calls Tryz.prog 3 #[v] w fun e w' => e = .returned (.bool true) ∧ Ext w w' := by
  have HAW := Lib.hid awakeU_any
  have HTH : Hid (∀ W, Ext w W → Calls Tryz.prog 4 #[v] W fun e w' => e = .returned (.bool (thinCas c)) ∧ Ext W w') := Lib.hid (fun W hx => ThinU_any c v W (hv.ext hx))
  have HV := Lib.hid hv
  obtain ⟨vt, vf, rfl, ht, hf, -, -⟩ := hv
  obtain ⟨a1, c1, rfl, -⟩ := id ht
  obtain ⟨a2, c2, rfl, -⟩ := id hf
  clear ht hf
  cases hr : thinCas c with
  | false =>
    rw [hr] at HTH
    clear HV hr
    generalize c.tars.length = n1 at *
    generalize c.flds.length = n2 at *
    generalize c.day = day at *
    generalize c.fee = fee at *
    go_enter Tryz.func3, Tryz.ntmps3
    go_wp2_with fail
    (with_reducible refine (HTH.out _ (by (repeat (first | exact Ext.refl _ | (with_reducible assumption) | (with_reducible refine Ext.drew ?_) | (with_reducible refine Ext.alloc ?_ _) | (with_reducible refine Ext.drewN ?_ _) | (with_reducible refine Ext.setCell ?_ (by omega) _) | (with_reducible refine Ext.trans ?_ (by with_reducible assumption)))))).mono ?_)
    rintro e w1 ⟨rfl, hx1⟩
    go_wp2_with fail
    (with_reducible refine (HAW.out _).mono ?_)
    rintro e w2 ⟨rfl, hx2⟩
    go_wp2_with fail
    go_ret
    exact ⟨rfl, by (repeat (first | exact Ext.refl _ | (with_reducible assumption) | (with_reducible refine Ext.drew ?_) | (with_reducible refine Ext.alloc ?_ _) | (with_reducible refine Ext.drewN ?_ _) | (with_reducible refine Ext.setCell ?_ (by omega) _) | (with_reducible refine Ext.trans ?_ (by with_reducible assumption))))⟩
  | true =>
    rw [hr] at HTH
    have htt := thinCas_tars hr
    have hcv := HV.out.toV hr
    have HCA : Hid (∀ W, Ext w W → Calls Tryz.prog 7 #[.agg #[.slice a1 c.tars.length c1, .int .i64 c.day, .int .i64 c.fee, .slice a2 c.flds.length c2]] W fun e w' => ∃ v', e = .returned v' ∧ CasV w' v' c ∧ Ext W w') := Lib.hid (fun W hx => Case_any c _ W (hcv.ext hx) htt)
    have HFA : Hid (∀ W, Ext w W → Calls Tryz.prog 11 #[.agg #[.slice a1 c.tars.length c1, .int .i64 c.day, .int .i64 c.fee, .slice a2 c.flds.length c2]] W fun e w' => e = .returned (.int .i64 (caseE c)) ∧ Ext W w') := Lib.hid (fun W hx => faultU_any c _ W (hcv.ext hx))
    by_cases hz : caseE c = 0
    · have hok := caseE_zero hz
      have h0 := caseE_tars hz
      have HA := Lib.hid (fun v W (h : CasV W v c) => Award_good c v W h hz)
      have HF := Lib.hid (fun v W (h : CasV W v c) => Fees_good c v W h hz)
      have HO := Lib.hid (fun v W (h : CasV W v c) => Offers_good c v W h hz)
      have HM : Hid (∀ v W, CasV W v c → Calls Tryz.prog 10 #[v] W fun e w' => ∃ a n q, e = .returned (.tuple #[.slice a n q, .int .i64 0]) ∧ IntsV w' (.slice a n q) (mattersS c) ∧ Ext W w') := Lib.hid (fun v W h => (Matters_good c v W h hz).mono (fun e w' ⟨r, h1, h2, h3⟩ => by
        obtain ⟨a, q, rfl, -⟩ := id h2
        exact ⟨a, _, q, h1, h2, h3⟩))
      have HRB : Hid (∀ W, Ext w W → Calls Tryz.prog 12 #[.agg #[.slice a1 c.tars.length c1, .int .i64 c.day, .int .i64 c.fee, .slice a2 c.flds.length c2]] W fun e w' => e = .returned (.tuple #[.agg #[.int .i64 (bLo c 0), .int .i64 (bHi c 0)], .agg #[.int .i64 (bLo c 1), .int .i64 (bHi c 1)], .agg #[.int .i64 (bLo c 2), .int .i64 (bHi c 2)], .agg #[.int .i64 (bLo c 3), .int .i64 (bHi c 4)]]) ∧ Ext W w') := Lib.hid (fun W hx => RBounds_any c _ W (hcv.ext hx) hok h0)
      have HRM : Hid (∀ W, Ext w W → Calls Tryz.prog 15 #[.agg #[.slice a1 c.tars.length c1, .int .i64 c.day, .int .i64 c.fee, .slice a2 c.flds.length c2]] W fun e w' => ∃ r, e = .returned r ∧ IntsV w' r (mattersS c) ∧ Ext W w') := Lib.hid (fun W hx => RMatters_any c _ W (hcv.ext hx) hok h0)
      have HSM : Hid (∀ va vb W, IntsV W va (mattersS c) → IntsV W vb (mattersS c) → Calls Tryz.prog 14 #[va, vb] W fun e w' => e = .returned (.bool true) ∧ Ext W w') := Lib.hid (fun va vb W h1 h2 => sameM_self (mattersS c) ▸ SameI_any va vb _ _ W h1 h2 (mattersS_len hok) (mattersS_len hok))
      have HTO : Hid (∀ a b W, Calls Tryz.prog 13 #[.agg #[.int .i64 a, .int .i64 b]] W fun e w' => e = .returned (.agg #[.int .i64 a, .int .i64 b]) ∧ Ext W w') := Lib.hid uto_any
      rw [hz] at HFA
      clear HV hr htt hcv hz hok h0
      generalize mattersS c = ms at *
      generalize bLo c 0 = l0 at *
      generalize bHi c 0 = h0 at *
      generalize bLo c 1 = l1 at *
      generalize bHi c 1 = h1 at *
      generalize bLo c 2 = l2 at *
      generalize bHi c 2 = h2 at *
      generalize bLo c 3 = l3 at *
      generalize bHi c 4 = h3 at *
      generalize c.tars.length = n1 at *
      generalize c.flds.length = n2 at *
      generalize c.day = day at *
      generalize c.fee = fee at *
      go_enter Tryz.func3, Tryz.ntmps3
      go_wp2_with fail
      have X : Ext w (w.alloc (.cells #[.slice a1 n1 c1, .int .i64 day, .int .i64 fee, .slice a2 n2 c2] 25)) := by (repeat (first | exact Ext.refl _ | (with_reducible assumption) | (with_reducible refine Ext.drew ?_) | (with_reducible refine Ext.alloc ?_ _) | (with_reducible refine Ext.drewN ?_ _) | (with_reducible refine Ext.setCell ?_ (by omega) _) | (with_reducible refine Ext.trans ?_ (by with_reducible assumption))))
      have HS : Hid (∀ w', Ext (w.alloc (.cells #[.slice a1 n1 c1, .int .i64 day, .int .i64 fee, .slice a2 n2 c2] 25)) w' → (w'.cell? ⟨w.heap.size, 0, none⟩ = some (.slice a1 n1 c1) ∧ w'.cell? ⟨w.heap.size, 1, none⟩ = some (.int .i64 day) ∧ w'.cell? ⟨w.heap.size, 2, none⟩ = some (.int .i64 fee) ∧ w'.cell? ⟨w.heap.size, 3, none⟩ = some (.slice a2 n2 c2)) ∧ Ext (w.alloc (.cells #[.slice a1 n1 c1, .int .i64 day, .int .i64 fee, .slice a2 n2 c2] 25)) w') := Lib.hid (fun w' hx => ⟨⟨hx.keep (by simp [go_sem]), hx.keep (by simp [go_sem]), hx.keep (by simp [go_sem]), hx.keep (by simp [go_sem])⟩, hx⟩)
      have HSf : Hid (∀ w', Ext (w.alloc (.cells #[.slice a1 n1 c1, .int .i64 day, .int .i64 fee, .slice a2 n2 c2] 25)) w' → ∀ o, w'.frozen? ⟨w.heap.size, o, none⟩ = false) := Lib.hid (fun w' hx o => (hx.frozen (by simp)).trans (by simp [go_sem]))
      have HSz : w.heap.size + 1 ≤ (w.alloc (.cells #[.slice a1 n1 c1, .int .i64 day, .int .i64 fee, .slice a2 n2 c2] 25)).heap.size := by simp
      generalize (w.alloc (.cells #[.slice a1 n1 c1, .int .i64 day, .int .i64 fee, .slice a2 n2 c2] 25)) = W at *
      (with_reducible refine (HTH.out _ X).mono ?_)
      rintro e w1 ⟨rfl, hx1⟩
      obtain ⟨⟨q0, q1, q2, q3⟩, -⟩ := HS.out w1 hx1
      have X1 : Ext w w1 := by (repeat (first | exact Ext.refl _ | (with_reducible assumption) | (with_reducible refine Ext.drew ?_) | (with_reducible refine Ext.alloc ?_ _) | (with_reducible refine Ext.drewN ?_ _) | (with_reducible refine Ext.setCell ?_ (by omega) _) | (with_reducible refine Ext.trans ?_ (by with_reducible assumption))))
      clear HS HSf HSz hx1 X HTH
      go_wp2_with fail
      (with_reducible refine (HCA.out _ X1).mono ?_)
      rintro e w2 ⟨v2, rfl, hv, hx⟩
      have hy : Ext w1 w2 := by (repeat (first | exact Ext.refl _ | (with_reducible assumption) | (with_reducible refine Ext.drew ?_) | (with_reducible refine Ext.alloc ?_ _) | (with_reducible refine Ext.drewN ?_ _) | (with_reducible refine Ext.setCell ?_ (by omega) _) | (with_reducible refine Ext.trans ?_ (by with_reducible assumption))))
      replace X1 := X1.trans hy
      replace q0 := hy.keep q0
      replace q1 := hy.keep q1
      replace q2 := hy.keep q2
      replace q3 := hy.keep q3
      clear hx hy
      go_wp2_with fail
      (with_reducible refine (HA.out _ _ hv).mono ?_)
      rintro e w3 ⟨rfl, hx⟩
      have hy : Ext w2 w3 := by (repeat (first | exact Ext.refl _ | (with_reducible assumption) | (with_reducible refine Ext.drew ?_) | (with_reducible refine Ext.alloc ?_ _) | (with_reducible refine Ext.drewN ?_ _) | (with_reducible refine Ext.setCell ?_ (by omega) _) | (with_reducible refine Ext.trans ?_ (by with_reducible assumption))))
      replace X1 := X1.trans hy
      replace q0 := hy.keep q0
      replace q1 := hy.keep q1
      replace q2 := hy.keep q2
      replace q3 := hy.keep q3
      clear hx hy
      have qa0 := fun A => ((Ext.refl w3).alloc A).keep q0
      have qa1 := fun A => ((Ext.refl w3).alloc A).keep q1
      have qa2 := fun A => ((Ext.refl w3).alloc A).keep q2
      have qa3 := fun A => ((Ext.refl w3).alloc A).keep q3
      clear hv
      go_wp2_with fail
      (with_reducible refine (HCA.out _ (by (repeat (first | exact Ext.refl _ | (with_reducible assumption) | (with_reducible refine Ext.drew ?_) | (with_reducible refine Ext.alloc ?_ _) | (with_reducible refine Ext.drewN ?_ _) | (with_reducible refine Ext.setCell ?_ (by omega) _) | (with_reducible refine Ext.trans ?_ (by with_reducible assumption)))))).mono ?_)
      rintro e w4 ⟨v4, rfl, hv, hx⟩
      have hy : Ext w3 w4 := by (repeat (first | exact Ext.refl _ | (with_reducible assumption) | (with_reducible refine Ext.drew ?_) | (with_reducible refine Ext.alloc ?_ _) | (with_reducible refine Ext.drewN ?_ _) | (with_reducible refine Ext.setCell ?_ (by omega) _) | (with_reducible refine Ext.trans ?_ (by with_reducible assumption))))
      have b0 := hx.keep (k := w3.heap.size) (o := 0) (v := .int .i64 l0) (by simp [go_sem])
      have b1 := hx.keep (k := w3.heap.size) (o := 1) (v := .int .i64 h0) (by simp [go_sem])
      replace X1 := X1.trans hy
      replace q0 := hy.keep q0
      replace q1 := hy.keep q1
      replace q2 := hy.keep q2
      replace q3 := hy.keep q3
      clear hx hy
      clear qa0 qa1 qa2 qa3
      go_wp2_with fail
      (with_reducible refine (HF.out _ _ hv).mono ?_)
      rintro e w5 ⟨rfl, hx⟩
      have hy : Ext w4 w5 := by (repeat (first | exact Ext.refl _ | (with_reducible assumption) | (with_reducible refine Ext.drew ?_) | (with_reducible refine Ext.alloc ?_ _) | (with_reducible refine Ext.drewN ?_ _) | (with_reducible refine Ext.setCell ?_ (by omega) _) | (with_reducible refine Ext.trans ?_ (by with_reducible assumption))))
      replace X1 := X1.trans hy
      replace q0 := hy.keep q0
      replace q1 := hy.keep q1
      replace q2 := hy.keep q2
      replace q3 := hy.keep q3
      replace b0 := hy.keep b0
      replace b1 := hy.keep b1
      clear hx hy
      have qa0 := fun A B => (((Ext.refl w5).alloc A).alloc B).keep q0
      have qa1 := fun A B => (((Ext.refl w5).alloc A).alloc B).keep q1
      have qa2 := fun A B => (((Ext.refl w5).alloc A).alloc B).keep q2
      have qa3 := fun A B => (((Ext.refl w5).alloc A).alloc B).keep q3
      clear hv
      go_wp2_with fail
      (with_reducible refine (HCA.out _ (by (repeat (first | exact Ext.refl _ | (with_reducible assumption) | (with_reducible refine Ext.drew ?_) | (with_reducible refine Ext.alloc ?_ _) | (with_reducible refine Ext.drewN ?_ _) | (with_reducible refine Ext.setCell ?_ (by omega) _) | (with_reducible refine Ext.trans ?_ (by with_reducible assumption)))))).mono ?_)
      rintro e w6 ⟨v6, rfl, hv, hx⟩
      have hy : Ext w5 w6 := by (repeat (first | exact Ext.refl _ | (with_reducible assumption) | (with_reducible refine Ext.drew ?_) | (with_reducible refine Ext.alloc ?_ _) | (with_reducible refine Ext.drewN ?_ _) | (with_reducible refine Ext.setCell ?_ (by omega) _) | (with_reducible refine Ext.trans ?_ (by with_reducible assumption))))
      have d0 := hx.keep (k := w5.heap.size) (o := 0) (v := .int .i64 l1) (by simp [go_sem])
      have d1 := hx.keep (k := w5.heap.size) (o := 1) (v := .int .i64 h1) (by simp [go_sem])
      have f0 := hx.keep (k := w5.heap.size + 1) (o := 0) (v := .int .i64 l2) (by simp [go_sem])
      have f1 := hx.keep (k := w5.heap.size + 1) (o := 1) (v := .int .i64 h2) (by simp [go_sem])
      replace X1 := X1.trans hy
      replace q0 := hy.keep q0
      replace q1 := hy.keep q1
      replace q2 := hy.keep q2
      replace q3 := hy.keep q3
      replace b0 := hy.keep b0
      replace b1 := hy.keep b1
      clear hx hy
      clear qa0 qa1 qa2 qa3
      go_wp2_with fail
      (with_reducible refine (HO.out _ _ hv).mono ?_)
      rintro e w7 ⟨rfl, hx⟩
      have hy : Ext w6 w7 := by (repeat (first | exact Ext.refl _ | (with_reducible assumption) | (with_reducible refine Ext.drew ?_) | (with_reducible refine Ext.alloc ?_ _) | (with_reducible refine Ext.drewN ?_ _) | (with_reducible refine Ext.setCell ?_ (by omega) _) | (with_reducible refine Ext.trans ?_ (by with_reducible assumption))))
      replace X1 := X1.trans hy
      replace q0 := hy.keep q0
      replace q1 := hy.keep q1
      replace q2 := hy.keep q2
      replace q3 := hy.keep q3
      replace b0 := hy.keep b0
      replace b1 := hy.keep b1
      replace d0 := hy.keep d0
      replace d1 := hy.keep d1
      replace f0 := hy.keep f0
      replace f1 := hy.keep f1
      clear hx hy
      have qa0 := fun A => ((Ext.refl w7).alloc A).keep q0
      have qa1 := fun A => ((Ext.refl w7).alloc A).keep q1
      have qa2 := fun A => ((Ext.refl w7).alloc A).keep q2
      have qa3 := fun A => ((Ext.refl w7).alloc A).keep q3
      clear hv
      go_wp2_with fail
      (with_reducible refine (HCA.out _ (by (repeat (first | exact Ext.refl _ | (with_reducible assumption) | (with_reducible refine Ext.drew ?_) | (with_reducible refine Ext.alloc ?_ _) | (with_reducible refine Ext.drewN ?_ _) | (with_reducible refine Ext.setCell ?_ (by omega) _) | (with_reducible refine Ext.trans ?_ (by with_reducible assumption)))))).mono ?_)
      rintro e w8 ⟨v8, rfl, hv, hx⟩
      have hy : Ext w7 w8 := by (repeat (first | exact Ext.refl _ | (with_reducible assumption) | (with_reducible refine Ext.drew ?_) | (with_reducible refine Ext.alloc ?_ _) | (with_reducible refine Ext.drewN ?_ _) | (with_reducible refine Ext.setCell ?_ (by omega) _) | (with_reducible refine Ext.trans ?_ (by with_reducible assumption))))
      have o0 := hx.keep (k := w7.heap.size) (o := 0) (v := .int .i64 l3) (by simp [go_sem])
      have o1 := hx.keep (k := w7.heap.size) (o := 1) (v := .int .i64 h3) (by simp [go_sem])
      replace X1 := X1.trans hy
      replace q0 := hy.keep q0
      replace q1 := hy.keep q1
      replace q2 := hy.keep q2
      replace q3 := hy.keep q3
      replace b0 := hy.keep b0
      replace b1 := hy.keep b1
      replace d0 := hy.keep d0
      replace d1 := hy.keep d1
      replace f0 := hy.keep f0
      replace f1 := hy.keep f1
      clear hx hy
      clear qa0 qa1 qa2 qa3
      go_wp2_with fail
      (with_reducible refine (HM.out _ _ hv).mono ?_)
      rintro e w9 ⟨a9, n9, q9, rfl, h9, hx⟩
      have hy : Ext w8 w9 := by (repeat (first | exact Ext.refl _ | (with_reducible assumption) | (with_reducible refine Ext.drew ?_) | (with_reducible refine Ext.alloc ?_ _) | (with_reducible refine Ext.drewN ?_ _) | (with_reducible refine Ext.setCell ?_ (by omega) _) | (with_reducible refine Ext.trans ?_ (by with_reducible assumption))))
      replace X1 := X1.trans hy
      replace q0 := hy.keep q0
      replace q1 := hy.keep q1
      replace q2 := hy.keep q2
      replace q3 := hy.keep q3
      replace b0 := hy.keep b0
      replace b1 := hy.keep b1
      replace d0 := hy.keep d0
      replace d1 := hy.keep d1
      replace f0 := hy.keep f0
      replace f1 := hy.keep f1
      replace o0 := hy.keep o0
      replace o1 := hy.keep o1
      clear hx hy
      clear hv HCA HA HF HO HM
      go_wp2_with fail
      (with_reducible refine (HFA.out _ X1).mono ?_)
      rintro e w10 ⟨rfl, hx⟩
      have hy : Ext w9 w10 := by (repeat (first | exact Ext.refl _ | (with_reducible assumption) | (with_reducible refine Ext.drew ?_) | (with_reducible refine Ext.alloc ?_ _) | (with_reducible refine Ext.drewN ?_ _) | (with_reducible refine Ext.setCell ?_ (by omega) _) | (with_reducible refine Ext.trans ?_ (by with_reducible assumption))))
      replace X1 := X1.trans hy
      replace q0 := hy.keep q0
      replace q1 := hy.keep q1
      replace q2 := hy.keep q2
      replace q3 := hy.keep q3
      replace b0 := hy.keep b0
      replace b1 := hy.keep b1
      replace d0 := hy.keep d0
      replace d1 := hy.keep d1
      replace f0 := hy.keep f0
      replace f1 := hy.keep f1
      replace o0 := hy.keep o0
      replace o1 := hy.keep o1
      replace h9 := h9.ext hy
      clear hx hy
      go_wp2_with fail
      (with_reducible refine (HRB.out _ X1).mono ?_)
      rintro e w11 ⟨rfl, hx⟩
      have hy : Ext w10 w11 := by (repeat (first | exact Ext.refl _ | (with_reducible assumption) | (with_reducible refine Ext.drew ?_) | (with_reducible refine Ext.alloc ?_ _) | (with_reducible refine Ext.drewN ?_ _) | (with_reducible refine Ext.setCell ?_ (by omega) _) | (with_reducible refine Ext.trans ?_ (by with_reducible assumption))))
      replace X1 := X1.trans hy
      replace q0 := hy.keep q0
      replace q1 := hy.keep q1
      replace q2 := hy.keep q2
      replace q3 := hy.keep q3
      replace b0 := hy.keep b0
      replace b1 := hy.keep b1
      replace d0 := hy.keep d0
      replace d1 := hy.keep d1
      replace f0 := hy.keep f0
      replace f1 := hy.keep f1
      replace o0 := hy.keep o0
      replace o1 := hy.keep o1
      replace h9 := h9.ext hy
      clear hx hy
      clear HFA HRB
      go_wp2_with fail
      have Y12 : Ext w11 ((((w11.alloc (.cells #[.int .i64 l0, .int .i64 h0] 44)).alloc (.cells #[.int .i64 l1, .int .i64 h1] 44)).alloc (.cells #[.int .i64 l2, .int .i64 h2] 44)).alloc (.cells #[.int .i64 l3, .int .i64 h3] 44)) := by (repeat (first | exact Ext.refl _ | (with_reducible assumption) | (with_reducible refine Ext.drew ?_) | (with_reducible refine Ext.alloc ?_ _) | (with_reducible refine Ext.drewN ?_ _) | (with_reducible refine Ext.setCell ?_ (by omega) _) | (with_reducible refine Ext.trans ?_ (by with_reducible assumption))))
      have t00 : (((((w11.alloc (.cells #[.int .i64 l0, .int .i64 h0] 44)).alloc (.cells #[.int .i64 l1, .int .i64 h1] 44)).alloc (.cells #[.int .i64 l2, .int .i64 h2] 44)).alloc (.cells #[.int .i64 l3, .int .i64 h3] 44))).cell? ⟨w11.heap.size, 0, none⟩ = some (.int .i64 l0) := by simp [go_sem]
      have t01 : (((((w11.alloc (.cells #[.int .i64 l0, .int .i64 h0] 44)).alloc (.cells #[.int .i64 l1, .int .i64 h1] 44)).alloc (.cells #[.int .i64 l2, .int .i64 h2] 44)).alloc (.cells #[.int .i64 l3, .int .i64 h3] 44))).cell? ⟨w11.heap.size, 1, none⟩ = some (.int .i64 h0) := by simp [go_sem]
      have t10 : (((((w11.alloc (.cells #[.int .i64 l0, .int .i64 h0] 44)).alloc (.cells #[.int .i64 l1, .int .i64 h1] 44)).alloc (.cells #[.int .i64 l2, .int .i64 h2] 44)).alloc (.cells #[.int .i64 l3, .int .i64 h3] 44))).cell? ⟨w11.heap.size + 1, 0, none⟩ = some (.int .i64 l1) := by simp [go_sem]
      have t11 : (((((w11.alloc (.cells #[.int .i64 l0, .int .i64 h0] 44)).alloc (.cells #[.int .i64 l1, .int .i64 h1] 44)).alloc (.cells #[.int .i64 l2, .int .i64 h2] 44)).alloc (.cells #[.int .i64 l3, .int .i64 h3] 44))).cell? ⟨w11.heap.size + 1, 1, none⟩ = some (.int .i64 h1) := by simp [go_sem]
      have t20 : (((((w11.alloc (.cells #[.int .i64 l0, .int .i64 h0] 44)).alloc (.cells #[.int .i64 l1, .int .i64 h1] 44)).alloc (.cells #[.int .i64 l2, .int .i64 h2] 44)).alloc (.cells #[.int .i64 l3, .int .i64 h3] 44))).cell? ⟨w11.heap.size + 1 + 1, 0, none⟩ = some (.int .i64 l2) := by simp [go_sem]
      have t21 : (((((w11.alloc (.cells #[.int .i64 l0, .int .i64 h0] 44)).alloc (.cells #[.int .i64 l1, .int .i64 h1] 44)).alloc (.cells #[.int .i64 l2, .int .i64 h2] 44)).alloc (.cells #[.int .i64 l3, .int .i64 h3] 44))).cell? ⟨w11.heap.size + 1 + 1, 1, none⟩ = some (.int .i64 h2) := by simp [go_sem]
      have t30 : (((((w11.alloc (.cells #[.int .i64 l0, .int .i64 h0] 44)).alloc (.cells #[.int .i64 l1, .int .i64 h1] 44)).alloc (.cells #[.int .i64 l2, .int .i64 h2] 44)).alloc (.cells #[.int .i64 l3, .int .i64 h3] 44))).cell? ⟨w11.heap.size + 1 + 1 + 1, 0, none⟩ = some (.int .i64 l3) := by simp [go_sem]
      have t31 : (((((w11.alloc (.cells #[.int .i64 l0, .int .i64 h0] 44)).alloc (.cells #[.int .i64 l1, .int .i64 h1] 44)).alloc (.cells #[.int .i64 l2, .int .i64 h2] 44)).alloc (.cells #[.int .i64 l3, .int .i64 h3] 44))).cell? ⟨w11.heap.size + 1 + 1 + 1, 1, none⟩ = some (.int .i64 h3) := by simp [go_sem]
      generalize ((((w11.alloc (.cells #[.int .i64 l0, .int .i64 h0] 44)).alloc (.cells #[.int .i64 l1, .int .i64 h1] 44)).alloc (.cells #[.int .i64 l2, .int .i64 h2] 44)).alloc (.cells #[.int .i64 l3, .int .i64 h3] 44)) = w12 at *
      replace X1 := X1.trans Y12
      replace q0 := Y12.keep q0
      replace q1 := Y12.keep q1
      replace q2 := Y12.keep q2
      replace q3 := Y12.keep q3
      replace b0 := Y12.keep b0
      replace b1 := Y12.keep b1
      replace d0 := Y12.keep d0
      replace d1 := Y12.keep d1
      replace f0 := Y12.keep f0
      replace f1 := Y12.keep f1
      replace o0 := Y12.keep o0
      replace o1 := Y12.keep o1
      replace h9 := h9.ext Y12
      clear Y12
      have HS : Hid (∀ w', Ext w12 w' → (w'.cell? ⟨w.heap.size, 0, none⟩ = some (.slice a1 n1 c1) ∧ w'.cell? ⟨w.heap.size, 1, none⟩ = some (.int .i64 day) ∧ w'.cell? ⟨w.heap.size, 2, none⟩ = some (.int .i64 fee) ∧ w'.cell? ⟨w.heap.size, 3, none⟩ = some (.slice a2 n2 c2) ∧ w'.cell? ⟨w3.heap.size, 0, none⟩ = some (.int .i64 l0) ∧ w'.cell? ⟨w3.heap.size, 1, none⟩ = some (.int .i64 h0) ∧ w'.cell? ⟨w5.heap.size, 0, none⟩ = some (.int .i64 l1) ∧ w'.cell? ⟨w5.heap.size, 1, none⟩ = some (.int .i64 h1) ∧ w'.cell? ⟨w5.heap.size + 1, 0, none⟩ = some (.int .i64 l2) ∧ w'.cell? ⟨w5.heap.size + 1, 1, none⟩ = some (.int .i64 h2) ∧ w'.cell? ⟨w7.heap.size, 0, none⟩ = some (.int .i64 l3) ∧ w'.cell? ⟨w7.heap.size, 1, none⟩ = some (.int .i64 h3) ∧ w'.cell? ⟨w11.heap.size, 0, none⟩ = some (.int .i64 l0) ∧ w'.cell? ⟨w11.heap.size, 1, none⟩ = some (.int .i64 h0) ∧ w'.cell? ⟨w11.heap.size + 1, 0, none⟩ = some (.int .i64 l1) ∧ w'.cell? ⟨w11.heap.size + 1, 1, none⟩ = some (.int .i64 h1) ∧ w'.cell? ⟨w11.heap.size + 1 + 1, 0, none⟩ = some (.int .i64 l2) ∧ w'.cell? ⟨w11.heap.size + 1 + 1, 1, none⟩ = some (.int .i64 h2) ∧ w'.cell? ⟨w11.heap.size + 1 + 1 + 1, 0, none⟩ = some (.int .i64 l3) ∧ w'.cell? ⟨w11.heap.size + 1 + 1 + 1, 1, none⟩ = some (.int .i64 h3)) ∧ Ext w12 w') := Lib.hid (fun w' hx => ⟨⟨hx.keep (by simp [go_sem, *]), hx.keep (by simp [go_sem, *]), hx.keep (by simp [go_sem, *]), hx.keep (by simp [go_sem, *]), hx.keep (by simp [go_sem, *]), hx.keep (by simp [go_sem, *]), hx.keep (by simp [go_sem, *]), hx.keep (by simp [go_sem, *]), hx.keep (by simp [go_sem, *]), hx.keep (by simp [go_sem, *]), hx.keep (by simp [go_sem, *]), hx.keep (by simp [go_sem, *]), hx.keep (by simp [go_sem, *]), hx.keep (by simp [go_sem, *]), hx.keep (by simp [go_sem, *]), hx.keep (by simp [go_sem, *]), hx.keep (by simp [go_sem, *]), hx.keep (by simp [go_sem, *]), hx.keep (by simp [go_sem, *]), hx.keep (by simp [go_sem, *])⟩, hx⟩)
      clear q0 q1 q2 q3 b0 b1 d0 d1 f0 f1 o0 o1 t00 t01 t10 t11 t20 t21 t30 t31
      go_region_held3 (fun w' => (w'.cell? ⟨w.heap.size, 0, none⟩ = some (.slice a1 n1 c1) ∧ w'.cell? ⟨w.heap.size, 1, none⟩ = some (.int .i64 day) ∧ w'.cell? ⟨w.heap.size, 2, none⟩ = some (.int .i64 fee) ∧ w'.cell? ⟨w.heap.size, 3, none⟩ = some (.slice a2 n2 c2) ∧ w'.cell? ⟨w3.heap.size, 0, none⟩ = some (.int .i64 l0) ∧ w'.cell? ⟨w3.heap.size, 1, none⟩ = some (.int .i64 h0) ∧ w'.cell? ⟨w5.heap.size, 0, none⟩ = some (.int .i64 l1) ∧ w'.cell? ⟨w5.heap.size, 1, none⟩ = some (.int .i64 h1) ∧ w'.cell? ⟨w5.heap.size + 1, 0, none⟩ = some (.int .i64 l2) ∧ w'.cell? ⟨w5.heap.size + 1, 1, none⟩ = some (.int .i64 h2) ∧ w'.cell? ⟨w7.heap.size, 0, none⟩ = some (.int .i64 l3) ∧ w'.cell? ⟨w7.heap.size, 1, none⟩ = some (.int .i64 h3) ∧ w'.cell? ⟨w11.heap.size, 0, none⟩ = some (.int .i64 l0) ∧ w'.cell? ⟨w11.heap.size, 1, none⟩ = some (.int .i64 h0) ∧ w'.cell? ⟨w11.heap.size + 1, 0, none⟩ = some (.int .i64 l1) ∧ w'.cell? ⟨w11.heap.size + 1, 1, none⟩ = some (.int .i64 h1) ∧ w'.cell? ⟨w11.heap.size + 1 + 1, 0, none⟩ = some (.int .i64 l2) ∧ w'.cell? ⟨w11.heap.size + 1 + 1, 1, none⟩ = some (.int .i64 h2) ∧ w'.cell? ⟨w11.heap.size + 1 + 1 + 1, 0, none⟩ = some (.int .i64 l3) ∧ w'.cell? ⟨w11.heap.size + 1 + 1 + 1, 1, none⟩ = some (.int .i64 h3)) ∧ Ext w12 w')
        ((refine HS.out _ ?_; (repeat (first | exact Ext.refl _ | (with_reducible assumption) | (with_reducible refine Ext.drew ?_) | (with_reducible refine Ext.alloc ?_ _) | (with_reducible refine Ext.drewN ?_ _) | (with_reducible refine Ext.setCell ?_ (by omega) _) | (with_reducible refine Ext.trans ?_ (by with_reducible assumption))))))
        (first
          | (go_at_call 13; (with_reducible refine (HTO.out _ _ _).mono ?_); rintro e w18 ⟨rfl, hx18⟩)
          | (go_at_call 15; (with_reducible refine (HRM.out _ (by (repeat (first | exact Ext.refl _ | (with_reducible assumption) | (with_reducible refine Ext.drew ?_) | (with_reducible refine Ext.alloc ?_ _) | (with_reducible refine Ext.drewN ?_ _) | (with_reducible refine Ext.setCell ?_ (by omega) _) | (with_reducible refine Ext.trans ?_ (by with_reducible assumption)))))).mono ?_); rintro e w16 ⟨r16, rfl, h16, hx16⟩)
          | (go_at_call 14; (with_reducible refine (HSM.out _ _ _ (h9.ext (by (repeat (first | exact Ext.refl _ | (with_reducible assumption) | (with_reducible refine Ext.drew ?_) | (with_reducible refine Ext.alloc ?_ _) | (with_reducible refine Ext.drewN ?_ _) | (with_reducible refine Ext.setCell ?_ (by omega) _) | (with_reducible refine Ext.trans ?_ (by with_reducible assumption)))))) (h16.ext (by (repeat (first | exact Ext.refl _ | (with_reducible assumption) | (with_reducible refine Ext.drew ?_) | (with_reducible refine Ext.alloc ?_ _) | (with_reducible refine Ext.drewN ?_ _) | (with_reducible refine Ext.setCell ?_ (by omega) _) | (with_reducible refine Ext.trans ?_ (by with_reducible assumption))))))).mono ?_); rintro e w17 ⟨rfl, hx17⟩)
          | (go_at_call 5; (with_reducible refine (HAW.out _).mono ?_); rintro e w19 ⟨rfl, hx19⟩))
      go_wp2_with fail
      go_ret
      exact ⟨rfl, by (repeat (first | exact Ext.refl _ | (with_reducible assumption) | (with_reducible refine Ext.drew ?_) | (with_reducible refine Ext.alloc ?_ _) | (with_reducible refine Ext.drewN ?_ _) | (with_reducible refine Ext.setCell ?_ (by omega) _) | (with_reducible refine Ext.trans ?_ (by with_reducible assumption))))⟩
    · have HA := Lib.hid (fun v W (h : CasV W v c) => Award_bad c v W h hz)
      have HF := Lib.hid (fun v W (h : CasV W v c) => Fees_bad c v W h hz)
      have HO := Lib.hid (fun v W (h : CasV W v c) => Offers_bad c v W h hz)
      have HM := Lib.hid (fun v W (h : CasV W v c) => Matters_bad c v W h hz)
      have hb : (caseE c != 0) = true := by rw [bne_iff_ne]; exact hz
      clear HV hr htt hcv hz
      generalize caseE c = ce at *
      generalize c.tars.length = n1 at *
      generalize c.flds.length = n2 at *
      generalize c.day = day at *
      generalize c.fee = fee at *
      go_enter Tryz.func3, Tryz.ntmps3
      go_wp2_with fail
      have X : Ext w (w.alloc (.cells #[.slice a1 n1 c1, .int .i64 day, .int .i64 fee, .slice a2 n2 c2] 25)) := by (repeat (first | exact Ext.refl _ | (with_reducible assumption) | (with_reducible refine Ext.drew ?_) | (with_reducible refine Ext.alloc ?_ _) | (with_reducible refine Ext.drewN ?_ _) | (with_reducible refine Ext.setCell ?_ (by omega) _) | (with_reducible refine Ext.trans ?_ (by with_reducible assumption))))
      have HS : Hid (∀ w', Ext (w.alloc (.cells #[.slice a1 n1 c1, .int .i64 day, .int .i64 fee, .slice a2 n2 c2] 25)) w' → (w'.cell? ⟨w.heap.size, 0, none⟩ = some (.slice a1 n1 c1) ∧ w'.cell? ⟨w.heap.size, 1, none⟩ = some (.int .i64 day) ∧ w'.cell? ⟨w.heap.size, 2, none⟩ = some (.int .i64 fee) ∧ w'.cell? ⟨w.heap.size, 3, none⟩ = some (.slice a2 n2 c2)) ∧ Ext (w.alloc (.cells #[.slice a1 n1 c1, .int .i64 day, .int .i64 fee, .slice a2 n2 c2] 25)) w') := Lib.hid (fun w' hx => ⟨⟨hx.keep (by simp [go_sem]), hx.keep (by simp [go_sem]), hx.keep (by simp [go_sem]), hx.keep (by simp [go_sem])⟩, hx⟩)
      have HSf : Hid (∀ w', Ext (w.alloc (.cells #[.slice a1 n1 c1, .int .i64 day, .int .i64 fee, .slice a2 n2 c2] 25)) w' → ∀ o, w'.frozen? ⟨w.heap.size, o, none⟩ = false) := Lib.hid (fun w' hx o => (hx.frozen (by simp)).trans (by simp [go_sem]))
      have HSz : w.heap.size + 1 ≤ (w.alloc (.cells #[.slice a1 n1 c1, .int .i64 day, .int .i64 fee, .slice a2 n2 c2] 25)).heap.size := by simp
      generalize (w.alloc (.cells #[.slice a1 n1 c1, .int .i64 day, .int .i64 fee, .slice a2 n2 c2] 25)) = W at *
      (with_reducible refine (HTH.out _ X).mono ?_)
      rintro e w1 ⟨rfl, hx1⟩
      obtain ⟨⟨q0, q1, q2, q3⟩, -⟩ := HS.out w1 hx1
      have X1 : Ext w w1 := by (repeat (first | exact Ext.refl _ | (with_reducible assumption) | (with_reducible refine Ext.drew ?_) | (with_reducible refine Ext.alloc ?_ _) | (with_reducible refine Ext.drewN ?_ _) | (with_reducible refine Ext.setCell ?_ (by omega) _) | (with_reducible refine Ext.trans ?_ (by with_reducible assumption))))
      clear HS HSf HSz hx1 X HTH
      go_wp2_with fail
      (with_reducible refine (HCA.out _ X1).mono ?_)
      rintro e w2 ⟨v2, rfl, hv, hx⟩
      have hy : Ext w1 w2 := by (repeat (first | exact Ext.refl _ | (with_reducible assumption) | (with_reducible refine Ext.drew ?_) | (with_reducible refine Ext.alloc ?_ _) | (with_reducible refine Ext.drewN ?_ _) | (with_reducible refine Ext.setCell ?_ (by omega) _) | (with_reducible refine Ext.trans ?_ (by with_reducible assumption))))
      replace X1 := X1.trans hy
      replace q0 := hy.keep q0
      replace q1 := hy.keep q1
      replace q2 := hy.keep q2
      replace q3 := hy.keep q3
      clear hx hy
      go_wp2_with fail
      (with_reducible refine (HA.out _ _ hv).mono ?_)
      rintro e w3 ⟨rfl, hx⟩
      have hy : Ext w2 w3 := by (repeat (first | exact Ext.refl _ | (with_reducible assumption) | (with_reducible refine Ext.drew ?_) | (with_reducible refine Ext.alloc ?_ _) | (with_reducible refine Ext.drewN ?_ _) | (with_reducible refine Ext.setCell ?_ (by omega) _) | (with_reducible refine Ext.trans ?_ (by with_reducible assumption))))
      replace X1 := X1.trans hy
      replace q0 := hy.keep q0
      replace q1 := hy.keep q1
      replace q2 := hy.keep q2
      replace q3 := hy.keep q3
      clear hx hy
      have qa0 := fun A => ((Ext.refl w3).alloc A).keep q0
      have qa1 := fun A => ((Ext.refl w3).alloc A).keep q1
      have qa2 := fun A => ((Ext.refl w3).alloc A).keep q2
      have qa3 := fun A => ((Ext.refl w3).alloc A).keep q3
      clear hv
      go_wp2_with fail
      (with_reducible refine (HCA.out _ (by (repeat (first | exact Ext.refl _ | (with_reducible assumption) | (with_reducible refine Ext.drew ?_) | (with_reducible refine Ext.alloc ?_ _) | (with_reducible refine Ext.drewN ?_ _) | (with_reducible refine Ext.setCell ?_ (by omega) _) | (with_reducible refine Ext.trans ?_ (by with_reducible assumption)))))).mono ?_)
      rintro e w4 ⟨v4, rfl, hv, hx⟩
      have hy : Ext w3 w4 := by (repeat (first | exact Ext.refl _ | (with_reducible assumption) | (with_reducible refine Ext.drew ?_) | (with_reducible refine Ext.alloc ?_ _) | (with_reducible refine Ext.drewN ?_ _) | (with_reducible refine Ext.setCell ?_ (by omega) _) | (with_reducible refine Ext.trans ?_ (by with_reducible assumption))))
      have b0 := hx.keep (k := w3.heap.size) (o := 0) (v := .int .i64 0) (by simp [go_sem])
      have b1 := hx.keep (k := w3.heap.size) (o := 1) (v := .int .i64 0) (by simp [go_sem])
      replace X1 := X1.trans hy
      replace q0 := hy.keep q0
      replace q1 := hy.keep q1
      replace q2 := hy.keep q2
      replace q3 := hy.keep q3
      clear hx hy
      clear qa0 qa1 qa2 qa3
      go_wp2_with fail
      (with_reducible refine (HF.out _ _ hv).mono ?_)
      rintro e w5 ⟨rfl, hx⟩
      have hy : Ext w4 w5 := by (repeat (first | exact Ext.refl _ | (with_reducible assumption) | (with_reducible refine Ext.drew ?_) | (with_reducible refine Ext.alloc ?_ _) | (with_reducible refine Ext.drewN ?_ _) | (with_reducible refine Ext.setCell ?_ (by omega) _) | (with_reducible refine Ext.trans ?_ (by with_reducible assumption))))
      replace X1 := X1.trans hy
      replace q0 := hy.keep q0
      replace q1 := hy.keep q1
      replace q2 := hy.keep q2
      replace q3 := hy.keep q3
      replace b0 := hy.keep b0
      replace b1 := hy.keep b1
      clear hx hy
      have qa0 := fun A B => (((Ext.refl w5).alloc A).alloc B).keep q0
      have qa1 := fun A B => (((Ext.refl w5).alloc A).alloc B).keep q1
      have qa2 := fun A B => (((Ext.refl w5).alloc A).alloc B).keep q2
      have qa3 := fun A B => (((Ext.refl w5).alloc A).alloc B).keep q3
      clear hv
      go_wp2_with fail
      (with_reducible refine (HCA.out _ (by (repeat (first | exact Ext.refl _ | (with_reducible assumption) | (with_reducible refine Ext.drew ?_) | (with_reducible refine Ext.alloc ?_ _) | (with_reducible refine Ext.drewN ?_ _) | (with_reducible refine Ext.setCell ?_ (by omega) _) | (with_reducible refine Ext.trans ?_ (by with_reducible assumption)))))).mono ?_)
      rintro e w6 ⟨v6, rfl, hv, hx⟩
      have hy : Ext w5 w6 := by (repeat (first | exact Ext.refl _ | (with_reducible assumption) | (with_reducible refine Ext.drew ?_) | (with_reducible refine Ext.alloc ?_ _) | (with_reducible refine Ext.drewN ?_ _) | (with_reducible refine Ext.setCell ?_ (by omega) _) | (with_reducible refine Ext.trans ?_ (by with_reducible assumption))))
      have d0 := hx.keep (k := w5.heap.size) (o := 0) (v := .int .i64 0) (by simp [go_sem])
      have d1 := hx.keep (k := w5.heap.size) (o := 1) (v := .int .i64 0) (by simp [go_sem])
      have f0 := hx.keep (k := w5.heap.size + 1) (o := 0) (v := .int .i64 0) (by simp [go_sem])
      have f1 := hx.keep (k := w5.heap.size + 1) (o := 1) (v := .int .i64 0) (by simp [go_sem])
      replace X1 := X1.trans hy
      replace q0 := hy.keep q0
      replace q1 := hy.keep q1
      replace q2 := hy.keep q2
      replace q3 := hy.keep q3
      replace b0 := hy.keep b0
      replace b1 := hy.keep b1
      clear hx hy
      clear qa0 qa1 qa2 qa3
      go_wp2_with fail
      (with_reducible refine (HO.out _ _ hv).mono ?_)
      rintro e w7 ⟨rfl, hx⟩
      have hy : Ext w6 w7 := by (repeat (first | exact Ext.refl _ | (with_reducible assumption) | (with_reducible refine Ext.drew ?_) | (with_reducible refine Ext.alloc ?_ _) | (with_reducible refine Ext.drewN ?_ _) | (with_reducible refine Ext.setCell ?_ (by omega) _) | (with_reducible refine Ext.trans ?_ (by with_reducible assumption))))
      replace X1 := X1.trans hy
      replace q0 := hy.keep q0
      replace q1 := hy.keep q1
      replace q2 := hy.keep q2
      replace q3 := hy.keep q3
      replace b0 := hy.keep b0
      replace b1 := hy.keep b1
      replace d0 := hy.keep d0
      replace d1 := hy.keep d1
      replace f0 := hy.keep f0
      replace f1 := hy.keep f1
      clear hx hy
      have qa0 := fun A => ((Ext.refl w7).alloc A).keep q0
      have qa1 := fun A => ((Ext.refl w7).alloc A).keep q1
      have qa2 := fun A => ((Ext.refl w7).alloc A).keep q2
      have qa3 := fun A => ((Ext.refl w7).alloc A).keep q3
      clear hv
      go_wp2_with fail
      (with_reducible refine (HCA.out _ (by (repeat (first | exact Ext.refl _ | (with_reducible assumption) | (with_reducible refine Ext.drew ?_) | (with_reducible refine Ext.alloc ?_ _) | (with_reducible refine Ext.drewN ?_ _) | (with_reducible refine Ext.setCell ?_ (by omega) _) | (with_reducible refine Ext.trans ?_ (by with_reducible assumption)))))).mono ?_)
      rintro e w8 ⟨v8, rfl, hv, hx⟩
      have hy : Ext w7 w8 := by (repeat (first | exact Ext.refl _ | (with_reducible assumption) | (with_reducible refine Ext.drew ?_) | (with_reducible refine Ext.alloc ?_ _) | (with_reducible refine Ext.drewN ?_ _) | (with_reducible refine Ext.setCell ?_ (by omega) _) | (with_reducible refine Ext.trans ?_ (by with_reducible assumption))))
      have o0 := hx.keep (k := w7.heap.size) (o := 0) (v := .int .i64 0) (by simp [go_sem])
      have o1 := hx.keep (k := w7.heap.size) (o := 1) (v := .int .i64 0) (by simp [go_sem])
      replace X1 := X1.trans hy
      replace q0 := hy.keep q0
      replace q1 := hy.keep q1
      replace q2 := hy.keep q2
      replace q3 := hy.keep q3
      replace b0 := hy.keep b0
      replace b1 := hy.keep b1
      replace d0 := hy.keep d0
      replace d1 := hy.keep d1
      replace f0 := hy.keep f0
      replace f1 := hy.keep f1
      clear hx hy
      clear qa0 qa1 qa2 qa3
      go_wp2_with fail
      (with_reducible refine (HM.out _ _ hv).mono ?_)
      rintro e w9 ⟨rfl, hx⟩
      have hy : Ext w8 w9 := by (repeat (first | exact Ext.refl _ | (with_reducible assumption) | (with_reducible refine Ext.drew ?_) | (with_reducible refine Ext.alloc ?_ _) | (with_reducible refine Ext.drewN ?_ _) | (with_reducible refine Ext.setCell ?_ (by omega) _) | (with_reducible refine Ext.trans ?_ (by with_reducible assumption))))
      replace X1 := X1.trans hy
      replace q0 := hy.keep q0
      replace q1 := hy.keep q1
      replace q2 := hy.keep q2
      replace q3 := hy.keep q3
      replace b0 := hy.keep b0
      replace b1 := hy.keep b1
      replace d0 := hy.keep d0
      replace d1 := hy.keep d1
      replace f0 := hy.keep f0
      replace f1 := hy.keep f1
      replace o0 := hy.keep o0
      replace o1 := hy.keep o1
      clear hx hy
      clear hv HCA HA HF HO HM
      go_wp2_with fail
      (with_reducible refine (HFA.out _ X1).mono ?_)
      rintro e w10 ⟨rfl, hx⟩
      have hy : Ext w9 w10 := by (repeat (first | exact Ext.refl _ | (with_reducible assumption) | (with_reducible refine Ext.drew ?_) | (with_reducible refine Ext.alloc ?_ _) | (with_reducible refine Ext.drewN ?_ _) | (with_reducible refine Ext.setCell ?_ (by omega) _) | (with_reducible refine Ext.trans ?_ (by with_reducible assumption))))
      replace X1 := X1.trans hy
      replace q0 := hy.keep q0
      replace q1 := hy.keep q1
      replace q2 := hy.keep q2
      replace q3 := hy.keep q3
      replace b0 := hy.keep b0
      replace b1 := hy.keep b1
      replace d0 := hy.keep d0
      replace d1 := hy.keep d1
      replace f0 := hy.keep f0
      replace f1 := hy.keep f1
      replace o0 := hy.keep o0
      replace o1 := hy.keep o1
      clear hx hy
      clear HFA
      have Y : ∀ A, Ext w10 (w10.alloc A) := fun A => (Ext.refl w10).alloc A
      have b0' := fun A => (Y A).keep b0
      have b1' := fun A => (Y A).keep b1
      have d0' := fun A => (Y A).keep d0
      have d1' := fun A => (Y A).keep d1
      have f0' := fun A => (Y A).keep f0
      have f1' := fun A => (Y A).keep f1
      have o0' := fun A => (Y A).keep o0
      have o1' := fun A => (Y A).keep o1
      go_wp2_with fail
      (with_reducible refine (HAW.out _).mono ?_)
      rintro e w11 ⟨rfl, hx⟩
      have hy : Ext w10 w11 := by (repeat (first | exact Ext.refl _ | (with_reducible assumption) | (with_reducible refine Ext.drew ?_) | (with_reducible refine Ext.alloc ?_ _) | (with_reducible refine Ext.drewN ?_ _) | (with_reducible refine Ext.setCell ?_ (by omega) _) | (with_reducible refine Ext.trans ?_ (by with_reducible assumption))))
      replace X1 := X1.trans hy
      clear hx hy
      go_wp2_with fail
      go_ret
      exact ⟨rfl, X1⟩
end Go.Proofs.YtedblocbcjoolaaGreat
