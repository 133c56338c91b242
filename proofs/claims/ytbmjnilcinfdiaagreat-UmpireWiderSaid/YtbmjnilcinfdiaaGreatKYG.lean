/- The walk of UmpireWider. -/
import Derived.Test.YtbmjnilcinfdiaaGreatKVT
import Derived.Test.YtbmjnilcinfdiaaGreatKYC
import Derived.Test.YtbmjnilcinfdiaaGreatKYD
import Derived.Test.YtbmjnilcinfdiaaGreatKXR
import Derived.Test.YtbmjnilcinfdiaaGreatKXH
import Derived.Test.YtbmjnilcinfdiaaGreatKYB
set_option linter.unusedSimpArgs false
set_option linter.unusedVariables false
namespace Go.Proofs.YtbmjnilcinfdiaaGreat
open Go.RowKit Go.Hs
attribute [local irreducible] World.setCell World.alloc

set_option maxRecDepth 100000 in
set_option maxHeartbeats 16000000 in
theorem walk_UmpireWider (v : Value) (c : Cas) (wh by0 : Int) (w : World) (hv : CasW w v c) (hm1 : (Lit.int .u8 wh).wf = true) (hm2 : (Lit.int .u8 by0).wf = true) :
    Calls Tryz.prog 11 #[v, .int .u8 wh, .int .u8 by0] w fun e w' => e = .returned (.bool true) ∧ Ext w w' := by
  have HAW := Lib.hid awakeU_any
  have HRD : Hid (∀ W, Ext w W → Calls Tryz.prog 32 #[v] W fun e w' => e = .returned (.bool (readyB c)) ∧ Ext W w') := Lib.hid (fun W hx => readyU_any c v W (hv.ext hx))
  have HV := Lib.hid hv
  have hb1 := u8_in hm1
  have hb2 := u8_in hm2
  clear hm1 hm2
  obtain ⟨vt, vf, rfl, ht, hf, -, -⟩ := hv
  obtain ⟨a1, c1, rfl, -⟩ := id ht
  obtain ⟨a2, c2, rfl, -⟩ := id hf
  clear ht hf
  cases hr : readyB c with
  | false =>
    rw [hr] at HRD
    clear HV hr
    generalize c.tars.length = n1 at *
    generalize c.flds.length = n2 at *
    generalize c.day = day at *
    generalize c.fee = fee at *
    go_enter Tryz.func11, Tryz.ntmps11
    go_wp2_with fail
    (with_reducible refine (HRD.out _ (by (repeat (first | exact Ext.refl _ | (with_reducible assumption) | (with_reducible refine Ext.drew ?_) | (with_reducible refine Ext.alloc ?_ _) | (with_reducible refine Ext.drewN ?_ _) | (with_reducible refine Ext.setCell ?_ (by omega) _) | (with_reducible refine Ext.trans ?_ (by with_reducible assumption)))))).mono ?_)
    rintro e w1 ⟨rfl, hx1⟩
    go_wp2_with fail
    (with_reducible refine (HAW.out _).mono ?_)
    rintro e w2 ⟨rfl, hx2⟩
    go_wp2_with fail
    go_ret
    exact ⟨rfl, by (repeat (first | exact Ext.refl _ | (with_reducible assumption) | (with_reducible refine Ext.drew ?_) | (with_reducible refine Ext.alloc ?_ _) | (with_reducible refine Ext.drewN ?_ _) | (with_reducible refine Ext.setCell ?_ (by omega) _) | (with_reducible refine Ext.trans ?_ (by with_reducible assumption))))⟩
  | true =>
    rw [hr] at HRD
    obtain ⟨htc, hce⟩ := ready_true hr
    have htt := thinCas_tars htc
    have hcv := HV.out.toV htc
    have hok := caseE_zero hce
    have hn3 := hok.few
    by_cases hz : c.flds.length = 0
    · rw [hz] at HRD ⊢
      clear HV hr htc hce htt hcv hok hn3 hz
      generalize c.tars.length = n1 at *
      generalize c.day = day at *
      generalize c.fee = fee at *
      go_enter Tryz.func11, Tryz.ntmps11
      go_wp2_with fail
      (with_reducible refine (HRD.out _ (by (repeat (first | exact Ext.refl _ | (with_reducible assumption) | (with_reducible refine Ext.drew ?_) | (with_reducible refine Ext.alloc ?_ _) | (with_reducible refine Ext.drewN ?_ _) | (with_reducible refine Ext.setCell ?_ (by omega) _) | (with_reducible refine Ext.trans ?_ (by with_reducible assumption)))))).mono ?_)
      rintro e w1 ⟨rfl, hx1⟩
      have q3 := hx1.keep (k := w.heap.size) (o := 3) (v := .slice a2 0 c2) (by simp [go_sem])
      go_wp2_with fail
      (with_reducible refine (HAW.out _).mono ?_)
      rintro e w2 ⟨rfl, hx2⟩
      go_wp2_with fail
      go_ret
      exact ⟨rfl, by (repeat (first | exact Ext.refl _ | (with_reducible assumption) | (with_reducible refine Ext.drew ?_) | (with_reducible refine Ext.alloc ?_ _) | (with_reducible refine Ext.drewN ?_ _) | (with_reducible refine Ext.setCell ?_ (by omega) _) | (with_reducible refine Ext.trans ?_ (by with_reducible assumption))))⟩
    · have hn0 : 0 < c.flds.length := by omega
      obtain ⟨k, hk1, hk2, hkl⟩ := idx_mod hb1.1 hn0
      obtain ⟨r1, g1, g1', g1l⟩ := idx_mod (n := 3) hb2.1 (by decide)
      obtain ⟨q2, g2, g2'⟩ := idx_div (n := 3) hb2.1 (by decide)
      obtain ⟨r2, g3, g3', g3l⟩ := idx_mod (x := (q2 : Int)) (n := 3) (by omega) (by decide)
      obtain ⟨q3, g4, g4'⟩ := idx_div (n := 9) hb2.1 (by decide)
      obtain ⟨r3, g5, g5', g5l⟩ := idx_mod (x := (q3 : Int)) (n := 3) (by omega) (by decide)
      obtain ⟨q4, g6, g6'⟩ := idx_div (n := 27) hb2.1 (by decide)
      obtain ⟨r4, g7, g7', g7l⟩ := idx_mod (x := (q4 : Int)) (n := 3) (by omega) (by decide)
      obtain ⟨r5, g8, g8'⟩ := idx_div (n := 81) hb2.1 (by decide)
      obtain ⟨q6, g9, g9', g9l⟩ := idx_mod (n := 5) hb2.1 (by decide)
      obtain ⟨r6, ga, ga'⟩ := idx_div (x := (q6 : Int)) (n := 3) (by omega) (by decide)
      have e1 : by0.tmod 3 = (r1 : Int) := g1
      have e1' : by0 % 3 = (r1 : Int) := g1'
      have e2 : by0.tdiv 3 = (q2 : Int) := g2
      have e2' : by0 / 3 = (q2 : Int) := g2'
      have e3 : (q2 : Int).tmod 3 = (r2 : Int) := g3
      have e3' : (q2 : Int) % 3 = (r2 : Int) := g3'
      have e4 : by0.tdiv 9 = (q3 : Int) := g4
      have e4' : by0 / 9 = (q3 : Int) := g4'
      have e5 : (q3 : Int).tmod 3 = (r3 : Int) := g5
      have e5' : (q3 : Int) % 3 = (r3 : Int) := g5'
      have e6 : by0.tdiv 27 = (q4 : Int) := g6
      have e6' : by0 / 27 = (q4 : Int) := g6'
      have e7 : (q4 : Int).tmod 3 = (r4 : Int) := g7
      have e7' : (q4 : Int) % 3 = (r4 : Int) := g7'
      have e8 : by0.tdiv 81 = (r5 : Int) := g8
      have e8' : by0 / 81 = (r5 : Int) := g8'
      have e9 : by0.tmod 5 = (q6 : Int) := g9
      have e9' : by0 % 5 = (q6 : Int) := g9'
      have ea : (q6 : Int).tdiv 3 = (r6 : Int) := ga
      have ea' : (q6 : Int) / 3 = (r6 : Int) := ga'
      clear g1 g1' g2 g2' g3 g3' g4 g4' g5 g5' g6 g6' g7 g7' g8 g8' g9 g9' ga ga'
      have hr5 : r5 ≤ 3 := by omega
      have hr6 : r6 ≤ 1 := by omega
      have hfo := hok.flds _ (List.getElem_mem hkl)
      have fa := hfo.a
      have fb := hfo.b
      have fu := hfo.u
      have hwd := wide_ok hfo r1 r2 r3 r4 r5 r6
      have hwl := wide_list hkl hwd
      obtain ⟨A1, hA1⟩ : ∃ x, x = max 0 ((c.flds[k]).alo - (r1 : Int)) := ⟨_, rfl⟩
      obtain ⟨A2, hA2⟩ : ∃ x, x = min 100 ((c.flds[k]).ahi + (r2 : Int)) := ⟨_, rfl⟩
      obtain ⟨B1, hB1⟩ : ∃ x, x = max 0 ((c.flds[k]).blo - (r3 : Int)) := ⟨_, rfl⟩
      obtain ⟨B2, hB2⟩ : ∃ x, x = min 100 ((c.flds[k]).bhi + (r4 : Int)) := ⟨_, rfl⟩
      obtain ⟨U1, hU1⟩ : ∃ x, x = max 0 ((c.flds[k]).ulo - (r5 : Int)) := ⟨_, rfl⟩
      obtain ⟨U2, hU2⟩ : ∃ x, x = min 100 ((c.flds[k]).uhi + (r6 : Int)) := ⟨_, rfl⟩
      rw [← hA1, ← hA2, ← hB1, ← hB2, ← hU1, ← hU2] at hwd hwl
      have m1 : ∀ w, (Builtin.max_ #[3, 3] 3 #[.int .i64 0, .int .i64 ((c.flds[k]).alo - (r1 : Int))]).run Tryz.prog w = .ok (.int .i64 A1) w := fun w => run_max_i64 (by rw [hA1]; omega) _ _ w
      have m2 : ∀ w, (Builtin.min_ #[3, 3] 3 #[.int .i64 100, .int .i64 ((c.flds[k]).ahi + (r2 : Int))]).run Tryz.prog w = .ok (.int .i64 A2) w := fun w => run_min_i64 (by rw [hA2]; omega) _ _ w
      have m3 : ∀ w, (Builtin.max_ #[3, 3] 3 #[.int .i64 0, .int .i64 ((c.flds[k]).blo - (r3 : Int))]).run Tryz.prog w = .ok (.int .i64 B1) w := fun w => run_max_i64 (by rw [hB1]; omega) _ _ w
      have m4 : ∀ w, (Builtin.min_ #[3, 3] 3 #[.int .i64 100, .int .i64 ((c.flds[k]).bhi + (r4 : Int))]).run Tryz.prog w = .ok (.int .i64 B2) w := fun w => run_min_i64 (by rw [hB2]; omega) _ _ w
      have m5 : ∀ w, (Builtin.max_ #[3, 3] 3 #[.int .i64 0, .int .i64 ((c.flds[k]).ulo - (r5 : Int))]).run Tryz.prog w = .ok (.int .i64 U1) w := fun w => run_max_i64 (by rw [hU1]; omega) _ _ w
      have m6 : ∀ w, (Builtin.min_ #[3, 3] 3 #[.int .i64 100, .int .i64 ((c.flds[k]).uhi + (r6 : Int))]).run Tryz.prog w = .ok (.int .i64 U2) w := fun w => run_min_i64 (by rw [hU2]; omega) _ _ w
      have v1 : IntKind.i64.wrap ((c.flds[k]).alo - (r1 : Int)) = (c.flds[k]).alo - (r1 : Int) := IntWalk.i64_in _ (by omega)
      have v2 : IntKind.i64.wrap ((c.flds[k]).ahi + (r2 : Int)) = (c.flds[k]).ahi + (r2 : Int) := IntWalk.i64_in _ (by omega)
      have v3 : IntKind.i64.wrap ((c.flds[k]).blo - (r3 : Int)) = (c.flds[k]).blo - (r3 : Int) := IntWalk.i64_in _ (by omega)
      have v4 : IntKind.i64.wrap ((c.flds[k]).bhi + (r4 : Int)) = (c.flds[k]).bhi + (r4 : Int) := IntWalk.i64_in _ (by omega)
      have v5 : IntKind.i64.wrap ((c.flds[k]).ulo - (r5 : Int)) = (c.flds[k]).ulo - (r5 : Int) := IntWalk.i64_in _ (by omega)
      have v6 : IntKind.i64.wrap ((c.flds[k]).uhi + (r6 : Int)) = (c.flds[k]).uhi + (r6 : Int) := IntWalk.i64_in _ (by omega)
      have HNEa : ∀ m, m < 9 → ((c.flds[k]).wideA A1 A2).c.cs[m]? = if m = 3 then some (.int .i64 A1) else if m = 3 + 1 then some (.int .i64 A2) else (c.flds[k]).c.cs[m]? := by
        intro i hi
        have : i = 0 ∨ i = 1 ∨ i = 2 ∨ i = 3 ∨ i = 4 ∨ i = 5 ∨ i = 6 ∨ i = 7 ∨ i = 8 := by omega
        rcases this with rfl | rfl | rfl | rfl | rfl | rfl | rfl | rfl | rfl <;> rfl
      have HNEb : ∀ m, m < 9 → (((c.flds[k]).wideA A1 A2).wideB B1 B2).c.cs[m]? = if m = 5 then some (.int .i64 B1) else if m = 5 + 1 then some (.int .i64 B2) else ((c.flds[k]).wideA A1 A2).c.cs[m]? := by
        intro i hi
        have : i = 0 ∨ i = 1 ∨ i = 2 ∨ i = 3 ∨ i = 4 ∨ i = 5 ∨ i = 6 ∨ i = 7 ∨ i = 8 := by omega
        rcases this with rfl | rfl | rfl | rfl | rfl | rfl | rfl | rfl | rfl <;> rfl
      have HNEu : ∀ m, m < 9 → ((((c.flds[k]).wideA A1 A2).wideB B1 B2).wideU U1 U2).c.cs[m]? = if m = 7 then some (.int .i64 U1) else if m = 7 + 1 then some (.int .i64 U2) else (((c.flds[k]).wideA A1 A2).wideB B1 B2).c.cs[m]? := by
        intro i hi
        have : i = 0 ∨ i = 1 ∨ i = 2 ∨ i = 3 ∨ i = 4 ∨ i = 5 ∨ i = 6 ∨ i = 7 ∨ i = 8 := by omega
        rcases this with rfl | rfl | rfl | rfl | rfl | rfl | rfl | rfl | rfl <;> rfl
      have HP1 : Hid (∀ (W : World) g, FldsAt W g c.flds → FldsAt ((W.setCell ⟨g, k * 9 + 3, none⟩ (.int .i64 A1)).setCell ⟨g, k * 9 + 3 + 1, none⟩ (.int .i64 A2)) g (c.flds.set k ((c.flds[k]).wideA A1 A2))) := Lib.hid (fun W g h => FldsAt.put2 (h.self hkl) hkl (by decide) HNEa)
      have HP2 : Hid (∀ (W : World) g, FldsAt W g (c.flds.set k ((c.flds[k]).wideA A1 A2)) → FldsAt ((W.setCell ⟨g, k * 9 + 5, none⟩ (.int .i64 B1)).setCell ⟨g, k * 9 + 5 + 1, none⟩ (.int .i64 B2)) g (c.flds.set k (((c.flds[k]).wideA A1 A2).wideB B1 B2))) := Lib.hid (fun W g h => FldsAt.put2 h hkl (by decide) HNEb)
      have HP3 : Hid (∀ (W : World) g, FldsAt W g (c.flds.set k (((c.flds[k]).wideA A1 A2).wideB B1 B2)) → FldsAt ((W.setCell ⟨g, k * 9 + 7, none⟩ (.int .i64 U1)).setCell ⟨g, k * 9 + 7 + 1, none⟩ (.int .i64 U2)) g (c.flds.set k ((((c.flds[k]).wideA A1 A2).wideB B1 B2).wideU U1 U2))) := Lib.hid (fun W g h => FldsAt.put2 h hkl (by decide) HNEu)
      have HT0 := Lib.hid (fun (W : World) g (h : FldsAt W g c.flds) => h.cells k hkl)
      have HT1 := Lib.hid (fun (W : World) g (h : FldsAt W g (c.flds.set k ((c.flds[k]).wideA A1 A2))) => h.at_set hkl)
      have HT2 := Lib.hid (fun (W : World) g (h : FldsAt W g (c.flds.set k (((c.flds[k]).wideA A1 A2).wideB B1 B2))) => h.at_set hkl)
      have HCA : Hid (∀ W, Ext w W → Calls Tryz.prog 18 #[.agg #[.slice a1 c.tars.length c1, .int .i64 c.day, .int .i64 c.fee, .slice a2 c.flds.length c2]] W fun e w' => ∃ v', e = .returned v' ∧ CasV w' v' c ∧ Ext W w') := Lib.hid (fun W hx => Case_any c _ W (hcv.ext hx) htt)
      have HCH : Hid (∀ W, Ext w W → Calls Tryz.prog 41 #[.agg #[.slice a1 c.tars.length c1, .int .i64 c.day, .int .i64 c.fee, .slice a2 c.flds.length c2]] W fun e w' => ∃ g q, e = .returned (.agg #[.slice a1 c.tars.length c1, .int .i64 c.day, .int .i64 c.fee, .slice (some ⟨g, 0, none⟩) c.flds.length q]) ∧ FldsAt w' g c.flds ∧ W.heap.size ≤ g ∧ c.flds.length ≤ q ∧ Ext W w') := Lib.hid (fun W hx => changedU_any c _ _ _ _ _ _ _ _ W (hcv.ext hx) rfl hn0 hn3)
      have HVX : ∀ f, ∀ g q W, FldsAt W g (c.flds.set k f) → c.flds.length ≤ q → Ext w W → CasV W (.agg #[.slice a1 c.tars.length c1, .int .i64 c.day, .int .i64 c.fee, .slice (some ⟨g, 0, none⟩) c.flds.length q]) (c.withF (c.flds.set k f)) := fun f g q W h hq hx => by
        have hl : (c.flds.set k f).length = c.flds.length := by simp
        have hs := h.slice (q := q) (by rw [hl]; exact hq) (by rw [hl]; omega)
        rw [hl] at hs
        exact CasV.with hcv hx hs
      generalize hfx : (((c.flds[k]).wideA A1 A2).wideB B1 B2).wideU U1 U2 = fx at *
      have HCX : Hid (∀ g q W, FldsAt W g (c.flds.set k fx) → c.flds.length ≤ q → Ext w W → Calls Tryz.prog 18 #[.agg #[.slice a1 c.tars.length c1, .int .i64 c.day, .int .i64 c.fee, .slice (some ⟨g, 0, none⟩) c.flds.length q]] W fun e w' => ∃ v', e = .returned v' ∧ CasV w' v' (c.withF (c.flds.set k fx)) ∧ Ext W w') := Lib.hid (fun g q W h hq hx => Case_any (c.withF (c.flds.set k fx)) _ W (HVX _ g q W h hq hx) htt)
      have HFX : Hid (∀ g q W, FldsAt W g (c.flds.set k fx) → c.flds.length ≤ q → Ext w W → Calls Tryz.prog 28 #[.agg #[.slice a1 c.tars.length c1, .int .i64 c.day, .int .i64 c.fee, .slice (some ⟨g, 0, none⟩) c.flds.length q]] W fun e w' => e = .returned (.int .i64 (caseE (c.withF (c.flds.set k fx)))) ∧ Ext W w') := Lib.hid (fun g q W h hq hx => faultU_any _ _ W (HVX _ g q W h hq hx))
      have hki : (k : Int) < (c.flds.length : Int) := by omega
      have hk0 : (0 : Int) ≤ (k : Int) := by omega
      have hn0i : ¬ (c.flds.length : Int) = 0 := by omega
      have hbe : ((c.flds.length : Int) == 0) = false := beq_eq_false_iff_ne.2 hn0i
      have hw1 : IntKind.i64.wrap wh = wh := IntWalk.i64_in _ (by omega)
      have hw3 : IntKind.i64.wrap by0 = by0 := IntWalk.i64_in _ (by omega)
      have hv1 : IntKind.i64.wrap (q2 : Int) = (q2 : Int) := IntWalk.i64_in _ (by omega)
      have hv2 : IntKind.i64.wrap (q3 : Int) = (q3 : Int) := IntWalk.i64_in _ (by omega)
      have hv3 : IntKind.i64.wrap (q4 : Int) = (q4 : Int) := IntWalk.i64_in _ (by omega)
      have hv4 : IntKind.i64.wrap (r5 : Int) = (r5 : Int) := IntWalk.i64_in _ (by omega)
      have hv5 : IntKind.i64.wrap (r6 : Int) = (r6 : Int) := IntWalk.i64_in _ (by omega)
      have HEQ : Hid (caseE (c.withF (c.flds.set k fx)) = 0 →
          (∀ v W, CasV W v (c.withF (c.flds.set k fx)) → Calls Tryz.prog 24 #[v] W fun e w' => e = .returned (.tuple #[.agg #[.int .i64 (bLo (c.withF (c.flds.set k fx)) 0), .int .i64 (bHi (c.withF (c.flds.set k fx)) 0)], .int .i64 0]) ∧ Ext W w') ∧
          (∀ v W, CasV W v (c.withF (c.flds.set k fx)) → Calls Tryz.prog 25 #[v] W fun e w' => e = .returned (.tuple #[.agg #[.int .i64 (bLo (c.withF (c.flds.set k fx)) 1), .int .i64 (bHi (c.withF (c.flds.set k fx)) 1)], .agg #[.int .i64 (bLo (c.withF (c.flds.set k fx)) 2), .int .i64 (bHi (c.withF (c.flds.set k fx)) 2)], .int .i64 0]) ∧ Ext W w') ∧
          (∀ v W, CasV W v (c.withF (c.flds.set k fx)) → Calls Tryz.prog 26 #[v] W fun e w' => e = .returned (.tuple #[.agg #[.int .i64 (bLo (c.withF (c.flds.set k fx)) 3), .int .i64 (bHi (c.withF (c.flds.set k fx)) 4)], .int .i64 0]) ∧ Ext W w') ∧
          (∀ v W, CasV W v (c.withF (c.flds.set k fx)) → Calls Tryz.prog 17 #[v, .int .i64 k] W fun e w' => ∃ r, e = .returned (.tuple #[r, .int .i64 0]) ∧ IntsV w' r (countsS fx) ∧ Ext W w') ∧
          (∀ q, bLo (c.withF (c.flds.set k fx)) q ≤ bLo c q ∧ bHi c q ≤ bHi (c.withF (c.flds.set k fx)) q)) := Lib.hid (fun hx => by
        have e1 : (c.withF (c.flds.set k fx)).flds.getD ((k : Int)).toNat default = fx := by simp [Cas.withF, hkl]
        have hask2 : askE (c.withF (c.flds.set k fx)) (k : Int) = 0 := by
          have e : inR (k : Int) 0 (((c.withF (c.flds.set k fx)).flds.length : Int) - 1) = true := inR_iff.2 (by simp only [Cas.withF, List.length_set]; omega)
          unfold askE askF
          rw [hx]
          simp [e]
        refine ⟨fun v W h => Award_good _ v W h hx, fun v W h => Fees_good _ v W h hx, fun v W h => Offers_good _ v W h hx, fun v W h => ?_, fun q => wider_bounds hok (caseE_zero hx) hwl q⟩
        have := Counts_good _ v (k : Int) W h hask2
        rw [e1] at this
        exact this)
      have hask : askE c (k : Int) = 0 := by
        have e : inR (k : Int) 0 ((c.flds.length : Int) - 1) = true := inR_iff.2 (by omega)
        unfold askE askF
        rw [hce]
        simp [e]
      have HA := Lib.hid (fun v W (h : CasV W v c) => Award_good c v W h hce)
      have HF := Lib.hid (fun v W (h : CasV W v c) => Fees_good c v W h hce)
      have HO := Lib.hid (fun v W (h : CasV W v c) => Offers_good c v W h hce)
      have HC := Lib.hid (fun v W (h : CasV W v c) => Counts_good c v (k : Int) W h hask)
      have e0 : c.flds.getD ((k : Int)).toNat default = c.flds[k] := by simp [hkl]
      rw [e0] at HC
      have HHS : Hid (∀ n, n ∈ countsS c.flds[k] → ∀ v W, IntsV W v (countsS fx) → Calls Tryz.prog 35 #[v, .int .i64 n] W fun e w' => e = .returned (.bool true) ∧ Ext W w') := Lib.hid (fun n hn v W h => decide_eq_true (wider_counts hwd hn) ▸ hasU_any v _ n W h)
      have HLU := Lib.hid (countsS_len c.flds[k])
      clear hA1 hA2 hB1 hB2 hU1 hU2 HNEa HNEb HNEu HVX hfo hwd hwl HV hr htc hce htt hcv hok hask e0
      generalize c.withF (c.flds.set k fx) = cx at *
      generalize c.flds.set k (((c.flds[k]).wideA A1 A2).wideB B1 B2) = fl2 at *
      generalize c.flds.set k ((c.flds[k]).wideA A1 A2) = fl1 at *
      generalize c.flds.set k fx = fl3 at *
      generalize countsS fx = lx at *
      generalize countsS c.flds[k] = lc at *
      clear hfx
      generalize c.flds[k] = f at *
      obtain ⟨cr, va, ne, al, ah, bl, bh, ul, uh⟩ := f
      simp only [Fld.c, Fld.wideA, Fld.wideB] at *
      generalize c.tars.length = n1 at *
      generalize hn2 : c.flds.length = n2 at *
      clear hn2
      generalize c.flds = fl at *
      generalize c.day = day at *
      generalize c.fee = fee at *
      go_enter Tryz.func11, Tryz.ntmps11
      go_wp2_with fail
      have X : Ext w (w.alloc (.cells #[.slice a1 n1 c1, .int .i64 day, .int .i64 fee, .slice a2 n2 c2] 25)) := by (repeat (first | exact Ext.refl _ | (with_reducible assumption) | (with_reducible refine Ext.drew ?_) | (with_reducible refine Ext.alloc ?_ _) | (with_reducible refine Ext.drewN ?_ _) | (with_reducible refine Ext.setCell ?_ (by omega) _) | (with_reducible refine Ext.trans ?_ (by with_reducible assumption))))
      have HS : Hid (∀ w', Ext (w.alloc (.cells #[.slice a1 n1 c1, .int .i64 day, .int .i64 fee, .slice a2 n2 c2] 25)) w' → (w'.cell? ⟨w.heap.size, 0, none⟩ = some (.slice a1 n1 c1) ∧ w'.cell? ⟨w.heap.size, 1, none⟩ = some (.int .i64 day) ∧ w'.cell? ⟨w.heap.size, 2, none⟩ = some (.int .i64 fee) ∧ w'.cell? ⟨w.heap.size, 3, none⟩ = some (.slice a2 n2 c2)) ∧ Ext (w.alloc (.cells #[.slice a1 n1 c1, .int .i64 day, .int .i64 fee, .slice a2 n2 c2] 25)) w') := Lib.hid (fun w' hx => ⟨⟨hx.keep (by simp [go_sem]), hx.keep (by simp [go_sem]), hx.keep (by simp [go_sem]), hx.keep (by simp [go_sem])⟩, hx⟩)
      have HSf : Hid (∀ w', Ext (w.alloc (.cells #[.slice a1 n1 c1, .int .i64 day, .int .i64 fee, .slice a2 n2 c2] 25)) w' → ∀ o, w'.frozen? ⟨w.heap.size, o, none⟩ = false) := Lib.hid (fun w' hx o => (hx.frozen (by simp)).trans (by simp [go_sem]))
      have HSz : w.heap.size + 1 ≤ (w.alloc (.cells #[.slice a1 n1 c1, .int .i64 day, .int .i64 fee, .slice a2 n2 c2] 25)).heap.size := by simp
      generalize (w.alloc (.cells #[.slice a1 n1 c1, .int .i64 day, .int .i64 fee, .slice a2 n2 c2] 25)) = W at *
      (with_reducible refine (HRD.out _ X).mono ?_)
      rintro e w1 ⟨rfl, hx1⟩
      obtain ⟨⟨p0, p1, p2, p3⟩, -⟩ := HS.out w1 hx1
      have X1 : Ext w w1 := by (repeat (first | exact Ext.refl _ | (with_reducible assumption) | (with_reducible refine Ext.drew ?_) | (with_reducible refine Ext.alloc ?_ _) | (with_reducible refine Ext.drewN ?_ _) | (with_reducible refine Ext.setCell ?_ (by omega) _) | (with_reducible refine Ext.trans ?_ (by with_reducible assumption))))
      have hT3 : w.heap.size < w1.heap.size := lt_of_cell p0
      clear HS HSf HSz hx1 X HRD
      go_wp2_with fail
      (with_reducible refine (HCH.out _ X1).mono ?_)
      rintro e w2 ⟨g, q, rfl, hfl, hg, hq, hx2⟩
      replace p0 := hx2.keep p0
      replace p1 := hx2.keep p1
      replace p2 := hx2.keep p2
      replace p3 := hx2.keep p3
      have X2 := X1.trans hx2
      have hgl := hfl.lt
      clear X1 hx2 HCH
      go_upto_region 6 with fail
      have XA : Ext w2 (w2.alloc (.cells #[.slice a1 n1 c1, .int .i64 day, .int .i64 fee, .slice (some ⟨g, 0, none⟩) n2 q] 25)) := by (repeat (first | exact Ext.refl _ | (with_reducible assumption) | (with_reducible refine Ext.drew ?_) | (with_reducible refine Ext.alloc ?_ _) | (with_reducible refine Ext.drewN ?_ _) | (with_reducible refine Ext.setCell ?_ (by omega) _) | (with_reducible refine Ext.trans ?_ (by with_reducible assumption))))
      have BA : BoxN w2 w2.heap.size [.slice a1 n1 c1, .int .i64 day, .int .i64 fee, .slice (some ⟨g, 0, none⟩) n2 q] (w2.alloc (.cells #[.slice a1 n1 c1, .int .i64 day, .int .i64 fee, .slice (some ⟨g, 0, none⟩) n2 q] 25)) := BoxN.made (Ext.refl _)
      generalize w2.alloc (.cells #[.slice a1 n1 c1, .int .i64 day, .int .i64 fee, .slice (some ⟨g, 0, none⟩) n2 q] 25) = w5 at *
      have X5 := X2.trans XA
      have HK : Hid (∀ W', KP (fun j => j = g) w5 W' → Ext w W' ∧ (W'.cell? ⟨w.heap.size, 0, none⟩ = some (.slice a1 n1 c1) ∧ W'.cell? ⟨w.heap.size, 1, none⟩ = some (.int .i64 day) ∧ W'.cell? ⟨w.heap.size, 2, none⟩ = some (.int .i64 fee) ∧ W'.cell? ⟨w.heap.size, 3, none⟩ = some (.slice a2 n2 c2)) ∧ W'.cell? ⟨w2.heap.size, 0, none⟩ = some (.slice a1 n1 c1) ∧ W'.cell? ⟨w2.heap.size, 1, none⟩ = some (.int .i64 day) ∧ W'.cell? ⟨w2.heap.size, 2, none⟩ = some (.int .i64 fee) ∧ W'.cell? ⟨w2.heap.size, 3, none⟩ = some (.slice (some ⟨g, 0, none⟩) n2 q)) := Lib.hid (fun W' hk => ⟨hk.toExt X5 (fun j hj => by omega), ⟨hk.keep (by omega) (XA.keep p0), hk.keep (by omega) (XA.keep p1), hk.keep (by omega) (XA.keep p2), hk.keep (by omega) (XA.keep p3)⟩, hk.keep (by omega) (BA.cells 0 _ rfl), hk.keep (by omega) (BA.cells 1 _ rfl), hk.keep (by omega) (BA.cells 2 _ rfl), hk.keep (by omega) (BA.cells 3 _ rfl)⟩)
      have H0 := Lib.hid (hfl.ext XA)
      clear p0 p1 p2 p3 BA hfl X2 XA X5
      go_upto_region 6 with fail
      go_cut [9] from 51 to 75 (fun s9 wx => s9 = .pointer (some ⟨g, k * 9, none⟩) ∧ Hid (FldsAt wx g fl1) ∧ KP (fun j => j = g) w5 wx)
      case first =>
        have hfz := H0.out
        obtain ⟨c0, c1', c2', c3, c4, c5, c6, c7, c8⟩ := HT0.out _ _ hfz
        have hfr := hfz.fr
        have HPX := Lib.hid (HP1.out _ _ hfz)
        have d3 : (w5.setCell ⟨g, k * 9 + 3, none⟩ (.int .i64 A1)).cell? ⟨g, k * 9 + 3 + 1, none⟩ = some (.int .i64 ah) := sc_ne' (.inr (by omega)) c4
        have hfs : ∀ o x, (w5.setCell ⟨g, k * 9 + 3, none⟩ x).frozen? ⟨g, o, none⟩ = false := fun o x => by rw [World.frozen?_setCell]; exact hfr o
        have HKK : Hid (KP (fun j => j = g) w5 ((w5.setCell ⟨g, k * 9 + 3, none⟩ (.int .i64 A1)).setCell ⟨g, k * 9 + 3 + 1, none⟩ (.int .i64 A2))) := Lib.hid ((KP.one _).trans (KP.one _))
        clear hfz HAW HCA HCX HFX HEQ HA HF HO HC HHS HLU HP1 HP2 HP3 HT0 HT1 HT2 HK hk1 hk2 hw1 c0 c1' c2'
        go_region
        all_goals
          go_wp2_with fail
          go_meet
          exact ⟨rfl, Lib.hid (HPX.out.ext (by (repeat (first | exact Ext.refl _ | (with_reducible assumption) | (with_reducible refine Ext.drew ?_) | (with_reducible refine Ext.alloc ?_ _) | (with_reducible refine Ext.drewN ?_ _) | (with_reducible refine Ext.setCell ?_ (by omega) _) | (with_reducible refine Ext.trans ?_ (by with_reducible assumption)))))), HKK.out.trans (Ext.kp (by (repeat (first | exact Ext.refl _ | (with_reducible assumption) | (with_reducible refine Ext.drew ?_) | (with_reducible refine Ext.alloc ?_ _) | (with_reducible refine Ext.drewN ?_ _) | (with_reducible refine Ext.setCell ?_ (by omega) _) | (with_reducible refine Ext.trans ?_ (by with_reducible assumption))))))⟩
      case rest =>
        obtain ⟨rfl, H1, hk6w⟩ := hcut
        obtain ⟨w6, rfl⟩ : ∃ x, x = wc := ⟨_, rfl⟩
        go_upto_region 7 with fail
        go_cut [9] from 76 to 101 (fun s9 wx => s9 = .pointer (some ⟨g, k * 9, none⟩) ∧ Hid (FldsAt wx g fl2) ∧ KP (fun j => j = g) w5 wx)
        case first =>
          have hfz := H1.out
          obtain ⟨c0, c1', c2', c3, c4, c5, c6, c7, c8⟩ := HT1.out _ _ hfz
          have hfr := hfz.fr
          have HPX := Lib.hid (HP2.out _ _ hfz)
          have d5 : (w6.setCell ⟨g, k * 9 + 5, none⟩ (.int .i64 B1)).cell? ⟨g, k * 9 + 5 + 1, none⟩ = some (.int .i64 bh) := sc_ne' (.inr (by omega)) c6
          have hfs : ∀ o x, (w6.setCell ⟨g, k * 9 + 5, none⟩ x).frozen? ⟨g, o, none⟩ = false := fun o x => by rw [World.frozen?_setCell]; exact hfr o
          have HKK : Hid (KP (fun j => j = g) w6 ((w6.setCell ⟨g, k * 9 + 5, none⟩ (.int .i64 B1)).setCell ⟨g, k * 9 + 5 + 1, none⟩ (.int .i64 B2))) := Lib.hid ((KP.one _).trans (KP.one _))
          clear hfz HAW HCA HCX HFX HEQ HA HF HO HC HHS HLU HP1 HP2 HP3 HT0 HT1 HT2 HK hk1 hk2 hw1 c0 c1' c2'
          go_region
          all_goals
            go_wp2_with fail
            go_meet
            exact ⟨rfl, Lib.hid (HPX.out.ext (by (repeat (first | exact Ext.refl _ | (with_reducible assumption) | (with_reducible refine Ext.drew ?_) | (with_reducible refine Ext.alloc ?_ _) | (with_reducible refine Ext.drewN ?_ _) | (with_reducible refine Ext.setCell ?_ (by omega) _) | (with_reducible refine Ext.trans ?_ (by with_reducible assumption)))))), hk6w.trans (HKK.out.trans (Ext.kp (by (repeat (first | exact Ext.refl _ | (with_reducible assumption) | (with_reducible refine Ext.drew ?_) | (with_reducible refine Ext.alloc ?_ _) | (with_reducible refine Ext.drewN ?_ _) | (with_reducible refine Ext.setCell ?_ (by omega) _) | (with_reducible refine Ext.trans ?_ (by with_reducible assumption)))))))⟩
        case rest =>
          obtain ⟨rfl, H2, hk7w⟩ := hcut
          obtain ⟨w7, rfl⟩ : ∃ x, x = wc := ⟨_, rfl⟩
          go_upto_region 8 with fail
          go_cut [9] from 102 to 126 (fun s9 wx => s9 = .pointer (some ⟨g, k * 9, none⟩) ∧ Hid (FldsAt wx g fl3) ∧ KP (fun j => j = g) w5 wx)
          case first =>
            have hfz := H2.out
            obtain ⟨c0, c1', c2', c3, c4, c5, c6, c7, c8⟩ := HT2.out _ _ hfz
            have hfr := hfz.fr
            have HPX := Lib.hid (HP3.out _ _ hfz)
            have d7 : (w7.setCell ⟨g, k * 9 + 7, none⟩ (.int .i64 U1)).cell? ⟨g, k * 9 + 7 + 1, none⟩ = some (.int .i64 uh) := sc_ne' (.inr (by omega)) c8
            have hfs : ∀ o x, (w7.setCell ⟨g, k * 9 + 7, none⟩ x).frozen? ⟨g, o, none⟩ = false := fun o x => by rw [World.frozen?_setCell]; exact hfr o
            have HKK : Hid (KP (fun j => j = g) w7 ((w7.setCell ⟨g, k * 9 + 7, none⟩ (.int .i64 U1)).setCell ⟨g, k * 9 + 7 + 1, none⟩ (.int .i64 U2))) := Lib.hid ((KP.one _).trans (KP.one _))
            clear hfz HAW HCA HCX HFX HEQ HA HF HO HC HHS HLU HP1 HP2 HP3 HT0 HT1 HT2 HK hk1 hk2 hw1 c0 c1' c2'
            go_region
            all_goals
              go_wp2_with fail
              go_meet
              exact ⟨rfl, Lib.hid (HPX.out.ext (by (repeat (first | exact Ext.refl _ | (with_reducible assumption) | (with_reducible refine Ext.drew ?_) | (with_reducible refine Ext.alloc ?_ _) | (with_reducible refine Ext.drewN ?_ _) | (with_reducible refine Ext.setCell ?_ (by omega) _) | (with_reducible refine Ext.trans ?_ (by with_reducible assumption)))))), hk7w.trans (HKK.out.trans (Ext.kp (by (repeat (first | exact Ext.refl _ | (with_reducible assumption) | (with_reducible refine Ext.drew ?_) | (with_reducible refine Ext.alloc ?_ _) | (with_reducible refine Ext.drewN ?_ _) | (with_reducible refine Ext.setCell ?_ (by omega) _) | (with_reducible refine Ext.trans ?_ (by with_reducible assumption)))))))⟩
          case rest =>
            obtain ⟨rfl, H3, hk8w⟩ := hcut
            obtain ⟨w8, rfl⟩ : ∃ x, x = wc := ⟨_, rfl⟩
            obtain ⟨X8, ⟨p0, p1, p2, p3⟩, b0, b1, b2, b3⟩ := HK.out _ hk8w
            have hfl3 := H3.out
            clear H0 H1 H2 H3 HP1 HP2 HP3 HT0 HT1 HT2 HK hk6w hk7w hk8w m1 m2 m3 m4 m5 m6 v1 v2 v3 v4 v5 v6 e1 e1' e2 e2' e3 e3' e4 e4' e5 e5' e6 e6' e7 e7' e8 e8' e9 e9' ea ea' hv1 hv2 hv3 hv4 hv5
            go_wp2_with fail
            (with_reducible refine (HFX.out _ _ _ hfl3 hq X8).mono ?_)
            rintro e w9 ⟨rfl, hx⟩
            have hy : Ext w8 w9 := by (repeat (first | exact Ext.refl _ | (with_reducible assumption) | (with_reducible refine Ext.drew ?_) | (with_reducible refine Ext.alloc ?_ _) | (with_reducible refine Ext.drewN ?_ _) | (with_reducible refine Ext.setCell ?_ (by omega) _) | (with_reducible refine Ext.trans ?_ (by with_reducible assumption))))
            replace X8 := X8.trans hy
            replace p0 := hy.keep p0
            replace p1 := hy.keep p1
            replace p2 := hy.keep p2
            replace p3 := hy.keep p3
            replace b0 := hy.keep b0
            replace b1 := hy.keep b1
            replace b2 := hy.keep b2
            replace b3 := hy.keep b3
            replace hfl3 := hfl3.ext hy
            clear hx hy
            by_cases hcx : caseE cx = 0
            · obtain ⟨HAX, HFEX, HOX, HCTX, HBD⟩ := HEQ.out hcx
              obtain ⟨HAX, HFEX, HOX, HCTX⟩ : Hid _ ∧ Hid _ ∧ Hid _ ∧ Hid _ := ⟨Lib.hid HAX, Lib.hid HFEX, Lib.hid HOX, Lib.hid HCTX⟩
              have hb0 : ((0 : Int) != 0) = false := rfl
              have D1 : decide (bLo cx 0 ≤ bLo c 0) = true := decide_eq_true (HBD 0).1
              have D2 : decide (bHi c 0 ≤ bHi cx 0) = true := decide_eq_true (HBD 0).2
              have D3 : decide (bLo cx 1 ≤ bLo c 1) = true := decide_eq_true (HBD 1).1
              have D4 : decide (bHi c 1 ≤ bHi cx 1) = true := decide_eq_true (HBD 1).2
              have D5 : decide (bLo cx 2 ≤ bLo c 2) = true := decide_eq_true (HBD 2).1
              have D6 : decide (bHi c 2 ≤ bHi cx 2) = true := decide_eq_true (HBD 2).2
              have D7 : decide (bLo cx 3 ≤ bLo c 3) = true := decide_eq_true (HBD 3).1
              have D8 : decide (bHi c 4 ≤ bHi cx 4) = true := decide_eq_true (HBD 4).2
              clear HBD HEQ HFX
              generalize caseE cx = ce at *
              subst hcx
              generalize bLo cx 0 = x0 at *
              generalize bLo cx 1 = x1 at *
              generalize bLo cx 2 = x2 at *
              generalize bLo cx 3 = x3 at *
              generalize bHi cx 0 = y0 at *
              generalize bHi cx 1 = y1 at *
              generalize bHi cx 2 = y2 at *
              generalize bHi cx 4 = y4 at *
              generalize bLo c 0 = u0 at *
              generalize bLo c 1 = u1 at *
              generalize bLo c 2 = u2 at *
              generalize bLo c 3 = u3 at *
              generalize bHi c 0 = t0 at *
              generalize bHi c 1 = t1 at *
              generalize bHi c 2 = t2 at *
              generalize bHi c 4 = t4 at *
              go_wp2_with fail
              (with_reducible refine (HCA.out _ X8).mono ?_)
              rintro e w10 ⟨v10, rfl, hv, hx⟩
              have hy : Ext w9 w10 := by (repeat (first | exact Ext.refl _ | (with_reducible assumption) | (with_reducible refine Ext.drew ?_) | (with_reducible refine Ext.alloc ?_ _) | (with_reducible refine Ext.drewN ?_ _) | (with_reducible refine Ext.setCell ?_ (by omega) _) | (with_reducible refine Ext.trans ?_ (by with_reducible assumption))))
              replace X8 := X8.trans hy
              replace p0 := hy.keep p0
              replace p1 := hy.keep p1
              replace p2 := hy.keep p2
              replace p3 := hy.keep p3
              replace b0 := hy.keep b0
              replace b1 := hy.keep b1
              replace b2 := hy.keep b2
              replace b3 := hy.keep b3
              replace hfl3 := hfl3.ext hy
              clear hx hy
              go_wp2_with fail
              (with_reducible refine (HA.out _ _ hv).mono ?_)
              rintro e w11 ⟨rfl, hx⟩
              have hy : Ext w10 w11 := by (repeat (first | exact Ext.refl _ | (with_reducible assumption) | (with_reducible refine Ext.drew ?_) | (with_reducible refine Ext.alloc ?_ _) | (with_reducible refine Ext.drewN ?_ _) | (with_reducible refine Ext.setCell ?_ (by omega) _) | (with_reducible refine Ext.trans ?_ (by with_reducible assumption))))
              replace X8 := X8.trans hy
              replace p0 := hy.keep p0
              replace p1 := hy.keep p1
              replace p2 := hy.keep p2
              replace p3 := hy.keep p3
              replace b0 := hy.keep b0
              try clear b0_a
              have b0_a := fun o => ((Ext.refl w11).alloc o).keep b0
              replace b1 := hy.keep b1
              try clear b1_a
              have b1_a := fun o => ((Ext.refl w11).alloc o).keep b1
              replace b2 := hy.keep b2
              try clear b2_a
              have b2_a := fun o => ((Ext.refl w11).alloc o).keep b2
              replace b3 := hy.keep b3
              try clear b3_a
              have b3_a := fun o => ((Ext.refl w11).alloc o).keep b3
              replace hfl3 := hfl3.ext hy
              clear hx hy
              clear hv
              go_wp2_with fail
              (with_reducible refine (HCX.out _ _ _ (hfl3.ext (by (repeat (first | exact Ext.refl _ | (with_reducible assumption) | (with_reducible refine Ext.drew ?_) | (with_reducible refine Ext.alloc ?_ _) | (with_reducible refine Ext.drewN ?_ _) | (with_reducible refine Ext.setCell ?_ (by omega) _) | (with_reducible refine Ext.trans ?_ (by with_reducible assumption)))))) hq (X8.trans (by (repeat (first | exact Ext.refl _ | (with_reducible assumption) | (with_reducible refine Ext.drew ?_) | (with_reducible refine Ext.alloc ?_ _) | (with_reducible refine Ext.drewN ?_ _) | (with_reducible refine Ext.setCell ?_ (by omega) _) | (with_reducible refine Ext.trans ?_ (by with_reducible assumption))))))).mono ?_)
              rintro e w12 ⟨v12, rfl, hv, hx⟩
              have hy : Ext w11 w12 := by (repeat (first | exact Ext.refl _ | (with_reducible assumption) | (with_reducible refine Ext.drew ?_) | (with_reducible refine Ext.alloc ?_ _) | (with_reducible refine Ext.drewN ?_ _) | (with_reducible refine Ext.setCell ?_ (by omega) _) | (with_reducible refine Ext.trans ?_ (by with_reducible assumption))))
              have c0 := hx.keep (k := w11.heap.size) (o := 0) (v := .int .i64 u0) (by simp [go_sem])
              have c1 := hx.keep (k := w11.heap.size) (o := 1) (v := .int .i64 t0) (by simp [go_sem])
              replace X8 := X8.trans hy
              replace p0 := hy.keep p0
              replace p1 := hy.keep p1
              replace p2 := hy.keep p2
              replace p3 := hy.keep p3
              replace b0 := hy.keep b0
              replace b1 := hy.keep b1
              replace b2 := hy.keep b2
              replace b3 := hy.keep b3
              replace hfl3 := hfl3.ext hy
              clear hx hy
              clear b0_a b1_a b2_a b3_a
              go_wp2_with fail
              (with_reducible refine (HAX.out _ _ hv).mono ?_)
              rintro e w13 ⟨rfl, hx⟩
              have hy : Ext w12 w13 := by (repeat (first | exact Ext.refl _ | (with_reducible assumption) | (with_reducible refine Ext.drew ?_) | (with_reducible refine Ext.alloc ?_ _) | (with_reducible refine Ext.drewN ?_ _) | (with_reducible refine Ext.setCell ?_ (by omega) _) | (with_reducible refine Ext.trans ?_ (by with_reducible assumption))))
              replace X8 := X8.trans hy
              replace p0 := hy.keep p0
              try clear p0_a
              have p0_a := fun o => ((Ext.refl w13).alloc o).keep p0
              replace p1 := hy.keep p1
              try clear p1_a
              have p1_a := fun o => ((Ext.refl w13).alloc o).keep p1
              replace p2 := hy.keep p2
              try clear p2_a
              have p2_a := fun o => ((Ext.refl w13).alloc o).keep p2
              replace p3 := hy.keep p3
              try clear p3_a
              have p3_a := fun o => ((Ext.refl w13).alloc o).keep p3
              replace b0 := hy.keep b0
              replace b1 := hy.keep b1
              replace b2 := hy.keep b2
              replace b3 := hy.keep b3
              replace hfl3 := hfl3.ext hy
              replace c0 := hy.keep c0
              replace c1 := hy.keep c1
              clear hx hy
              clear hv
              go_wp2_with fail
              (with_reducible refine (HCA.out _ (X8.trans (by (repeat (first | exact Ext.refl _ | (with_reducible assumption) | (with_reducible refine Ext.drew ?_) | (with_reducible refine Ext.alloc ?_ _) | (with_reducible refine Ext.drewN ?_ _) | (with_reducible refine Ext.setCell ?_ (by omega) _) | (with_reducible refine Ext.trans ?_ (by with_reducible assumption))))))).mono ?_)
              rintro e w14 ⟨v14, rfl, hv, hx⟩
              have hy : Ext w13 w14 := by (repeat (first | exact Ext.refl _ | (with_reducible assumption) | (with_reducible refine Ext.drew ?_) | (with_reducible refine Ext.alloc ?_ _) | (with_reducible refine Ext.drewN ?_ _) | (with_reducible refine Ext.setCell ?_ (by omega) _) | (with_reducible refine Ext.trans ?_ (by with_reducible assumption))))
              have d0 := hx.keep (k := w13.heap.size) (o := 0) (v := .int .i64 x0) (by simp [go_sem])
              have d1 := hx.keep (k := w13.heap.size) (o := 1) (v := .int .i64 y0) (by simp [go_sem])
              replace X8 := X8.trans hy
              replace p0 := hy.keep p0
              replace p1 := hy.keep p1
              replace p2 := hy.keep p2
              replace p3 := hy.keep p3
              replace b0 := hy.keep b0
              replace b1 := hy.keep b1
              replace b2 := hy.keep b2
              replace b3 := hy.keep b3
              replace hfl3 := hfl3.ext hy
              replace c0 := hy.keep c0
              replace c1 := hy.keep c1
              clear hx hy
              clear p0_a p1_a p2_a p3_a
              go_wp2_with fail
              (with_reducible refine (HF.out _ _ hv).mono ?_)
              rintro e w15 ⟨rfl, hx⟩
              have hy : Ext w14 w15 := by (repeat (first | exact Ext.refl _ | (with_reducible assumption) | (with_reducible refine Ext.drew ?_) | (with_reducible refine Ext.alloc ?_ _) | (with_reducible refine Ext.drewN ?_ _) | (with_reducible refine Ext.setCell ?_ (by omega) _) | (with_reducible refine Ext.trans ?_ (by with_reducible assumption))))
              replace X8 := X8.trans hy
              replace p0 := hy.keep p0
              replace p1 := hy.keep p1
              replace p2 := hy.keep p2
              replace p3 := hy.keep p3
              replace b0 := hy.keep b0
              try clear b0_a
              have b0_a := fun o => ((Ext.refl w15).alloc o).keep b0
              replace b1 := hy.keep b1
              try clear b1_a
              have b1_a := fun o => ((Ext.refl w15).alloc o).keep b1
              replace b2 := hy.keep b2
              try clear b2_a
              have b2_a := fun o => ((Ext.refl w15).alloc o).keep b2
              replace b3 := hy.keep b3
              try clear b3_a
              have b3_a := fun o => ((Ext.refl w15).alloc o).keep b3
              replace hfl3 := hfl3.ext hy
              replace c0 := hy.keep c0
              replace c1 := hy.keep c1
              replace d0 := hy.keep d0
              replace d1 := hy.keep d1
              clear hx hy
              clear hv
              have b0_b := fun o o' => (((Ext.refl w15).alloc o).alloc o').keep b0
              have b1_b := fun o o' => (((Ext.refl w15).alloc o).alloc o').keep b1
              have b2_b := fun o o' => (((Ext.refl w15).alloc o).alloc o').keep b2
              have b3_b := fun o o' => (((Ext.refl w15).alloc o).alloc o').keep b3
              go_wp2_with fail
              (with_reducible refine (HCX.out _ _ _ (hfl3.ext (by (repeat (first | exact Ext.refl _ | (with_reducible assumption) | (with_reducible refine Ext.drew ?_) | (with_reducible refine Ext.alloc ?_ _) | (with_reducible refine Ext.drewN ?_ _) | (with_reducible refine Ext.setCell ?_ (by omega) _) | (with_reducible refine Ext.trans ?_ (by with_reducible assumption)))))) hq (X8.trans (by (repeat (first | exact Ext.refl _ | (with_reducible assumption) | (with_reducible refine Ext.drew ?_) | (with_reducible refine Ext.alloc ?_ _) | (with_reducible refine Ext.drewN ?_ _) | (with_reducible refine Ext.setCell ?_ (by omega) _) | (with_reducible refine Ext.trans ?_ (by with_reducible assumption))))))).mono ?_)
              rintro e w16 ⟨v16, rfl, hv, hx⟩
              have hy : Ext w15 w16 := by (repeat (first | exact Ext.refl _ | (with_reducible assumption) | (with_reducible refine Ext.drew ?_) | (with_reducible refine Ext.alloc ?_ _) | (with_reducible refine Ext.drewN ?_ _) | (with_reducible refine Ext.setCell ?_ (by omega) _) | (with_reducible refine Ext.trans ?_ (by with_reducible assumption))))
              have e0 := hx.keep (k := w15.heap.size) (o := 0) (v := .int .i64 u1) (by simp [go_sem])
              have e1 := hx.keep (k := w15.heap.size) (o := 1) (v := .int .i64 t1) (by simp [go_sem])
              have f0 := hx.keep (k := w15.heap.size + 1) (o := 0) (v := .int .i64 u2) (by simp [go_sem])
              have f1 := hx.keep (k := w15.heap.size + 1) (o := 1) (v := .int .i64 t2) (by simp [go_sem])
              replace X8 := X8.trans hy
              replace p0 := hy.keep p0
              replace p1 := hy.keep p1
              replace p2 := hy.keep p2
              replace p3 := hy.keep p3
              replace b0 := hy.keep b0
              replace b1 := hy.keep b1
              replace b2 := hy.keep b2
              replace b3 := hy.keep b3
              replace hfl3 := hfl3.ext hy
              replace c0 := hy.keep c0
              replace c1 := hy.keep c1
              replace d0 := hy.keep d0
              replace d1 := hy.keep d1
              clear hx hy
              clear b0_a b1_a b2_a b3_a b0_b b1_b b2_b b3_b
              go_wp2_with fail
              (with_reducible refine (HFEX.out _ _ hv).mono ?_)
              rintro e w17 ⟨rfl, hx⟩
              have hy : Ext w16 w17 := by (repeat (first | exact Ext.refl _ | (with_reducible assumption) | (with_reducible refine Ext.drew ?_) | (with_reducible refine Ext.alloc ?_ _) | (with_reducible refine Ext.drewN ?_ _) | (with_reducible refine Ext.setCell ?_ (by omega) _) | (with_reducible refine Ext.trans ?_ (by with_reducible assumption))))
              replace X8 := X8.trans hy
              replace p0 := hy.keep p0
              try clear p0_a
              have p0_a := fun o => ((Ext.refl w17).alloc o).keep p0
              replace p1 := hy.keep p1
              try clear p1_a
              have p1_a := fun o => ((Ext.refl w17).alloc o).keep p1
              replace p2 := hy.keep p2
              try clear p2_a
              have p2_a := fun o => ((Ext.refl w17).alloc o).keep p2
              replace p3 := hy.keep p3
              try clear p3_a
              have p3_a := fun o => ((Ext.refl w17).alloc o).keep p3
              replace b0 := hy.keep b0
              replace b1 := hy.keep b1
              replace b2 := hy.keep b2
              replace b3 := hy.keep b3
              replace hfl3 := hfl3.ext hy
              replace c0 := hy.keep c0
              replace c1 := hy.keep c1
              replace d0 := hy.keep d0
              replace d1 := hy.keep d1
              replace e0 := hy.keep e0
              replace e1 := hy.keep e1
              replace f0 := hy.keep f0
              replace f1 := hy.keep f1
              clear hx hy
              clear hv
              have p0_b := fun o o' => (((Ext.refl w17).alloc o).alloc o').keep p0
              have p1_b := fun o o' => (((Ext.refl w17).alloc o).alloc o').keep p1
              have p2_b := fun o o' => (((Ext.refl w17).alloc o).alloc o').keep p2
              have p3_b := fun o o' => (((Ext.refl w17).alloc o).alloc o').keep p3
              go_wp2_with fail
              (with_reducible refine (HCA.out _ (X8.trans (by (repeat (first | exact Ext.refl _ | (with_reducible assumption) | (with_reducible refine Ext.drew ?_) | (with_reducible refine Ext.alloc ?_ _) | (with_reducible refine Ext.drewN ?_ _) | (with_reducible refine Ext.setCell ?_ (by omega) _) | (with_reducible refine Ext.trans ?_ (by with_reducible assumption))))))).mono ?_)
              rintro e w18 ⟨v18, rfl, hv, hx⟩
              have hy : Ext w17 w18 := by (repeat (first | exact Ext.refl _ | (with_reducible assumption) | (with_reducible refine Ext.drew ?_) | (with_reducible refine Ext.alloc ?_ _) | (with_reducible refine Ext.drewN ?_ _) | (with_reducible refine Ext.setCell ?_ (by omega) _) | (with_reducible refine Ext.trans ?_ (by with_reducible assumption))))
              have g0 := hx.keep (k := w17.heap.size) (o := 0) (v := .int .i64 x1) (by simp [go_sem])
              have g1 := hx.keep (k := w17.heap.size) (o := 1) (v := .int .i64 y1) (by simp [go_sem])
              have h0 := hx.keep (k := w17.heap.size + 1) (o := 0) (v := .int .i64 x2) (by simp [go_sem])
              have h1 := hx.keep (k := w17.heap.size + 1) (o := 1) (v := .int .i64 y2) (by simp [go_sem])
              replace X8 := X8.trans hy
              replace p0 := hy.keep p0
              replace p1 := hy.keep p1
              replace p2 := hy.keep p2
              replace p3 := hy.keep p3
              replace b0 := hy.keep b0
              replace b1 := hy.keep b1
              replace b2 := hy.keep b2
              replace b3 := hy.keep b3
              replace hfl3 := hfl3.ext hy
              replace c0 := hy.keep c0
              replace c1 := hy.keep c1
              replace d0 := hy.keep d0
              replace d1 := hy.keep d1
              replace e0 := hy.keep e0
              replace e1 := hy.keep e1
              replace f0 := hy.keep f0
              replace f1 := hy.keep f1
              clear hx hy
              clear p0_a p1_a p2_a p3_a p0_b p1_b p2_b p3_b
              go_wp2_with fail
              (with_reducible refine (HO.out _ _ hv).mono ?_)
              rintro e w19 ⟨rfl, hx⟩
              have hy : Ext w18 w19 := by (repeat (first | exact Ext.refl _ | (with_reducible assumption) | (with_reducible refine Ext.drew ?_) | (with_reducible refine Ext.alloc ?_ _) | (with_reducible refine Ext.drewN ?_ _) | (with_reducible refine Ext.setCell ?_ (by omega) _) | (with_reducible refine Ext.trans ?_ (by with_reducible assumption))))
              replace X8 := X8.trans hy
              replace p0 := hy.keep p0
              replace p1 := hy.keep p1
              replace p2 := hy.keep p2
              replace p3 := hy.keep p3
              replace b0 := hy.keep b0
              try clear b0_a
              have b0_a := fun o => ((Ext.refl w19).alloc o).keep b0
              replace b1 := hy.keep b1
              try clear b1_a
              have b1_a := fun o => ((Ext.refl w19).alloc o).keep b1
              replace b2 := hy.keep b2
              try clear b2_a
              have b2_a := fun o => ((Ext.refl w19).alloc o).keep b2
              replace b3 := hy.keep b3
              try clear b3_a
              have b3_a := fun o => ((Ext.refl w19).alloc o).keep b3
              replace hfl3 := hfl3.ext hy
              replace c0 := hy.keep c0
              replace c1 := hy.keep c1
              replace d0 := hy.keep d0
              replace d1 := hy.keep d1
              replace e0 := hy.keep e0
              replace e1 := hy.keep e1
              replace f0 := hy.keep f0
              replace f1 := hy.keep f1
              replace g0 := hy.keep g0
              replace g1 := hy.keep g1
              replace h0 := hy.keep h0
              replace h1 := hy.keep h1
              clear hx hy
              clear hv
              go_wp2_with fail
              (with_reducible refine (HCX.out _ _ _ (hfl3.ext (by (repeat (first | exact Ext.refl _ | (with_reducible assumption) | (with_reducible refine Ext.drew ?_) | (with_reducible refine Ext.alloc ?_ _) | (with_reducible refine Ext.drewN ?_ _) | (with_reducible refine Ext.setCell ?_ (by omega) _) | (with_reducible refine Ext.trans ?_ (by with_reducible assumption)))))) hq (X8.trans (by (repeat (first | exact Ext.refl _ | (with_reducible assumption) | (with_reducible refine Ext.drew ?_) | (with_reducible refine Ext.alloc ?_ _) | (with_reducible refine Ext.drewN ?_ _) | (with_reducible refine Ext.setCell ?_ (by omega) _) | (with_reducible refine Ext.trans ?_ (by with_reducible assumption))))))).mono ?_)
              rintro e w20 ⟨v20, rfl, hv, hx⟩
              have hy : Ext w19 w20 := by (repeat (first | exact Ext.refl _ | (with_reducible assumption) | (with_reducible refine Ext.drew ?_) | (with_reducible refine Ext.alloc ?_ _) | (with_reducible refine Ext.drewN ?_ _) | (with_reducible refine Ext.setCell ?_ (by omega) _) | (with_reducible refine Ext.trans ?_ (by with_reducible assumption))))
              have i0 := hx.keep (k := w19.heap.size) (o := 0) (v := .int .i64 u3) (by simp [go_sem])
              have i1 := hx.keep (k := w19.heap.size) (o := 1) (v := .int .i64 t4) (by simp [go_sem])
              replace X8 := X8.trans hy
              replace p0 := hy.keep p0
              replace p1 := hy.keep p1
              replace p2 := hy.keep p2
              replace p3 := hy.keep p3
              replace b0 := hy.keep b0
              replace b1 := hy.keep b1
              replace b2 := hy.keep b2
              replace b3 := hy.keep b3
              replace hfl3 := hfl3.ext hy
              replace c0 := hy.keep c0
              replace c1 := hy.keep c1
              replace d0 := hy.keep d0
              replace d1 := hy.keep d1
              replace e0 := hy.keep e0
              replace e1 := hy.keep e1
              replace f0 := hy.keep f0
              replace f1 := hy.keep f1
              replace g0 := hy.keep g0
              replace g1 := hy.keep g1
              replace h0 := hy.keep h0
              replace h1 := hy.keep h1
              clear hx hy
              clear b0_a b1_a b2_a b3_a
              go_wp2_with fail
              (with_reducible refine (HOX.out _ _ hv).mono ?_)
              rintro e w21 ⟨rfl, hx⟩
              have hy : Ext w20 w21 := by (repeat (first | exact Ext.refl _ | (with_reducible assumption) | (with_reducible refine Ext.drew ?_) | (with_reducible refine Ext.alloc ?_ _) | (with_reducible refine Ext.drewN ?_ _) | (with_reducible refine Ext.setCell ?_ (by omega) _) | (with_reducible refine Ext.trans ?_ (by with_reducible assumption))))
              replace X8 := X8.trans hy
              replace p0 := hy.keep p0
              try clear p0_a
              have p0_a := fun o => ((Ext.refl w21).alloc o).keep p0
              replace p1 := hy.keep p1
              try clear p1_a
              have p1_a := fun o => ((Ext.refl w21).alloc o).keep p1
              replace p2 := hy.keep p2
              try clear p2_a
              have p2_a := fun o => ((Ext.refl w21).alloc o).keep p2
              replace p3 := hy.keep p3
              try clear p3_a
              have p3_a := fun o => ((Ext.refl w21).alloc o).keep p3
              replace b0 := hy.keep b0
              replace b1 := hy.keep b1
              replace b2 := hy.keep b2
              replace b3 := hy.keep b3
              replace hfl3 := hfl3.ext hy
              replace c0 := hy.keep c0
              replace c1 := hy.keep c1
              replace d0 := hy.keep d0
              replace d1 := hy.keep d1
              replace e0 := hy.keep e0
              replace e1 := hy.keep e1
              replace f0 := hy.keep f0
              replace f1 := hy.keep f1
              replace g0 := hy.keep g0
              replace g1 := hy.keep g1
              replace h0 := hy.keep h0
              replace h1 := hy.keep h1
              replace i0 := hy.keep i0
              replace i1 := hy.keep i1
              clear hx hy
              clear hv
              go_wp2_with fail
              (with_reducible refine (HCA.out _ (X8.trans (by (repeat (first | exact Ext.refl _ | (with_reducible assumption) | (with_reducible refine Ext.drew ?_) | (with_reducible refine Ext.alloc ?_ _) | (with_reducible refine Ext.drewN ?_ _) | (with_reducible refine Ext.setCell ?_ (by omega) _) | (with_reducible refine Ext.trans ?_ (by with_reducible assumption))))))).mono ?_)
              rintro e w22 ⟨v22, rfl, hv, hx⟩
              have hy : Ext w21 w22 := by (repeat (first | exact Ext.refl _ | (with_reducible assumption) | (with_reducible refine Ext.drew ?_) | (with_reducible refine Ext.alloc ?_ _) | (with_reducible refine Ext.drewN ?_ _) | (with_reducible refine Ext.setCell ?_ (by omega) _) | (with_reducible refine Ext.trans ?_ (by with_reducible assumption))))
              have j0 := hx.keep (k := w21.heap.size) (o := 0) (v := .int .i64 x3) (by simp [go_sem])
              have j1 := hx.keep (k := w21.heap.size) (o := 1) (v := .int .i64 y4) (by simp [go_sem])
              replace X8 := X8.trans hy
              replace b0 := hy.keep b0
              replace b1 := hy.keep b1
              replace b2 := hy.keep b2
              replace b3 := hy.keep b3
              replace hfl3 := hfl3.ext hy
              replace c0 := hy.keep c0
              replace c1 := hy.keep c1
              replace d0 := hy.keep d0
              replace d1 := hy.keep d1
              replace e0 := hy.keep e0
              replace e1 := hy.keep e1
              replace f0 := hy.keep f0
              replace f1 := hy.keep f1
              replace g0 := hy.keep g0
              replace g1 := hy.keep g1
              replace h0 := hy.keep h0
              replace h1 := hy.keep h1
              replace i0 := hy.keep i0
              replace i1 := hy.keep i1
              clear hx hy
              clear p0_a p1_a p2_a p3_a p0 p1 p2 p3 HCA
              go_wp2_with fail
              (with_reducible refine (HC.out _ _ hv).mono ?_)
              rintro e w23 ⟨r23, rfl, hr23, hx⟩
              have hy : Ext w22 w23 := by (repeat (first | exact Ext.refl _ | (with_reducible assumption) | (with_reducible refine Ext.drew ?_) | (with_reducible refine Ext.alloc ?_ _) | (with_reducible refine Ext.drewN ?_ _) | (with_reducible refine Ext.setCell ?_ (by omega) _) | (with_reducible refine Ext.trans ?_ (by with_reducible assumption))))
              replace X8 := X8.trans hy
              replace b0 := hy.keep b0
              replace b1 := hy.keep b1
              replace b2 := hy.keep b2
              replace b3 := hy.keep b3
              replace hfl3 := hfl3.ext hy
              replace c0 := hy.keep c0
              replace c1 := hy.keep c1
              replace d0 := hy.keep d0
              replace d1 := hy.keep d1
              replace e0 := hy.keep e0
              replace e1 := hy.keep e1
              replace f0 := hy.keep f0
              replace f1 := hy.keep f1
              replace g0 := hy.keep g0
              replace g1 := hy.keep g1
              replace h0 := hy.keep h0
              replace h1 := hy.keep h1
              replace i0 := hy.keep i0
              replace i1 := hy.keep i1
              replace j0 := hy.keep j0
              replace j1 := hy.keep j1
              clear hx hy
              clear hv
              go_wp2_with fail
              (with_reducible refine (HCX.out _ _ _ hfl3 hq X8).mono ?_)
              rintro e w24 ⟨v24, rfl, hv, hx⟩
              have hy : Ext w23 w24 := by (repeat (first | exact Ext.refl _ | (with_reducible assumption) | (with_reducible refine Ext.drew ?_) | (with_reducible refine Ext.alloc ?_ _) | (with_reducible refine Ext.drewN ?_ _) | (with_reducible refine Ext.setCell ?_ (by omega) _) | (with_reducible refine Ext.trans ?_ (by with_reducible assumption))))
              replace X8 := X8.trans hy
              replace hr23 := hr23.ext hy
              replace c0 := hy.keep c0
              replace c1 := hy.keep c1
              replace d0 := hy.keep d0
              replace d1 := hy.keep d1
              replace e0 := hy.keep e0
              replace e1 := hy.keep e1
              replace f0 := hy.keep f0
              replace f1 := hy.keep f1
              replace g0 := hy.keep g0
              replace g1 := hy.keep g1
              replace h0 := hy.keep h0
              replace h1 := hy.keep h1
              replace i0 := hy.keep i0
              replace i1 := hy.keep i1
              replace j0 := hy.keep j0
              replace j1 := hy.keep j1
              clear hx hy
              clear b0 b1 b2 b3 hfl3 HCX HA HF HO HC HAX HFEX HOX
              go_wp2_with fail
              (with_reducible refine (HCTX.out _ _ hv).mono ?_)
              rintro e w25 ⟨r25, rfl, hr25, hx⟩
              have hy : Ext w24 w25 := by (repeat (first | exact Ext.refl _ | (with_reducible assumption) | (with_reducible refine Ext.drew ?_) | (with_reducible refine Ext.alloc ?_ _) | (with_reducible refine Ext.drewN ?_ _) | (with_reducible refine Ext.setCell ?_ (by omega) _) | (with_reducible refine Ext.trans ?_ (by with_reducible assumption))))
              replace X8 := X8.trans hy
              replace hr23 := hr23.ext hy
              replace c0 := hy.keep c0
              replace c1 := hy.keep c1
              replace d0 := hy.keep d0
              replace d1 := hy.keep d1
              replace e0 := hy.keep e0
              replace e1 := hy.keep e1
              replace f0 := hy.keep f0
              replace f1 := hy.keep f1
              replace g0 := hy.keep g0
              replace g1 := hy.keep g1
              replace h0 := hy.keep h0
              replace h1 := hy.keep h1
              replace i0 := hy.keep i0
              replace i1 := hy.keep i1
              replace j0 := hy.keep j0
              replace j1 := hy.keep j1
              clear hx hy
              clear hv HCTX
              obtain ⟨sa, cs, rfl, -, hls, hcls, -⟩ := hr23.cells
              have HCLS := Lib.hid hcls
              have HR25 := Lib.hid hr25
              have hll := HLU.out
              have HB : Hid (∀ W', Ext w25 W' → (W'.cell? ⟨w11.heap.size, 0, none⟩ = some (.int .i64 u0) ∧ W'.cell? ⟨w11.heap.size, 1, none⟩ = some (.int .i64 t0)) ∧ (W'.cell? ⟨w13.heap.size, 0, none⟩ = some (.int .i64 x0) ∧ W'.cell? ⟨w13.heap.size, 1, none⟩ = some (.int .i64 y0)) ∧ (W'.cell? ⟨w15.heap.size, 0, none⟩ = some (.int .i64 u1) ∧ W'.cell? ⟨w15.heap.size, 1, none⟩ = some (.int .i64 t1)) ∧ (W'.cell? ⟨w15.heap.size + 1, 0, none⟩ = some (.int .i64 u2) ∧ W'.cell? ⟨w15.heap.size + 1, 1, none⟩ = some (.int .i64 t2)) ∧ (W'.cell? ⟨w17.heap.size, 0, none⟩ = some (.int .i64 x1) ∧ W'.cell? ⟨w17.heap.size, 1, none⟩ = some (.int .i64 y1)) ∧ (W'.cell? ⟨w17.heap.size + 1, 0, none⟩ = some (.int .i64 x2) ∧ W'.cell? ⟨w17.heap.size + 1, 1, none⟩ = some (.int .i64 y2)) ∧ (W'.cell? ⟨w19.heap.size, 0, none⟩ = some (.int .i64 u3) ∧ W'.cell? ⟨w19.heap.size, 1, none⟩ = some (.int .i64 t4)) ∧ W'.cell? ⟨w21.heap.size, 0, none⟩ = some (.int .i64 x3) ∧ W'.cell? ⟨w21.heap.size, 1, none⟩ = some (.int .i64 y4)) := Lib.hid (fun W' hx => ⟨⟨hx.keep c0, hx.keep c1⟩, ⟨hx.keep d0, hx.keep d1⟩, ⟨hx.keep e0, hx.keep e1⟩, ⟨hx.keep f0, hx.keep f1⟩, ⟨hx.keep g0, hx.keep g1⟩, ⟨hx.keep h0, hx.keep h1⟩, ⟨hx.keep i0, hx.keep i1⟩, hx.keep j0, hx.keep j1⟩)
              clear hcls hr25 hr23 c0 c1 d0 d1 e0 e1 f0 f1 g0 g1 h0 h1 i0 i1 j0 j1 HLU
              go_wp2_with fail
              go_loopw [28] (fun s28 wr => ∃ i : Nat, i ≤ lc.length ∧ s28 = .int .i64 i ∧ Ext w25 wr) (fun s _ => lc.length - (intOf s).toNat)
              case atStart => exact ⟨0, Nat.zero_le _, rfl, Ext.refl _⟩
              case round =>
                obtain ⟨i, hi, rfl, hx⟩ := hrel
                obtain ⟨wo, rfl⟩ : ∃ x, x = wr := ⟨_, rfl⟩
                by_cases hlt : i < lc.length
                · obtain ⟨b, off, rfl, hc⟩ := HCLS.out i (by simpa using hlt)
                  have hc := hx.keep hc
                  have eq1 : (lc.map (Value.int .i64))[i]'(by simpa using hlt) = .int .i64 (lc[i]) := by simp
                  rw [eq1] at hc
                  have HH := Lib.hid (HHS.out _ (List.getElem_mem hlt))
                  generalize lc[i] = y at *
                  clear eq1 HCLS HHS HB
                  go_wp2_with fail
                  (with_reducible refine (HH.out _ _ (HR25.out.ext hx)).mono ?_)
                  rintro e w26 ⟨rfl, hx26⟩
                  go_wp2_with fail
                  go_roundw
                  case rel => exact ⟨i + 1, by omega, by go_num, hx.trans hx26⟩
                  case measure => simp [intOf]; omega
                · have ei : i = lc.length := by omega
                  obtain ⟨⟨c0, c1⟩, ⟨d0, d1⟩, ⟨e0, e1⟩, ⟨f0, f1⟩, ⟨g0, g1⟩, ⟨h0, h1⟩, ⟨i0, i1⟩, j0, j1⟩ := HB.out _ hx
                  have XO := X8.trans hx
                  clear HCLS HHS HB hx X8
                  subst ei
                  go_wp2_with fail
                  (with_reducible refine (HAW.out _).mono ?_)
                  rintro e w27 ⟨rfl, hx27⟩
                  go_wp2_with fail
                  go_ret
                  exact ⟨rfl, XO.trans hx27⟩
            · have hbx : (caseE cx != 0) = true := by rw [bne_iff_ne]; exact hcx
              clear HEQ HFX HCX HCA HA HF HO HC HHS hfl3
              generalize caseE cx = ce at *
              go_wp2_with fail
              (with_reducible refine (HAW.out _).mono ?_)
              rintro e w10 ⟨rfl, hx⟩
              have hy : Ext w9 w10 := by (repeat (first | exact Ext.refl _ | (with_reducible assumption) | (with_reducible refine Ext.drew ?_) | (with_reducible refine Ext.alloc ?_ _) | (with_reducible refine Ext.drewN ?_ _) | (with_reducible refine Ext.setCell ?_ (by omega) _) | (with_reducible refine Ext.trans ?_ (by with_reducible assumption))))
              replace X8 := X8.trans hy
              clear hx hy
              go_wp2_with fail
              go_ret
              exact ⟨rfl, X8⟩
end Go.Proofs.YtbmjnilcinfdiaaGreat
