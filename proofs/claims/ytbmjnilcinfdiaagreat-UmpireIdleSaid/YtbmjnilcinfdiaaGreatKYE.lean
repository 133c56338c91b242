/- The walk of UmpireIdle. -/
import Derived.Test.YtbmjnilcinfdiaaGreatKVT
import Derived.Test.YtbmjnilcinfdiaaGreatKYC
import Derived.Test.YtbmjnilcinfdiaaGreatKYD
import Derived.Test.YtbmjnilcinfdiaaGreatKXG
set_option linter.unusedSimpArgs false
set_option linter.unusedVariables false
namespace Go.Proofs.YtbmjnilcinfdiaaGreat
open Go.RowKit Go.Hs
attribute [local irreducible] World.setCell World.alloc

set_option maxRecDepth 100000 in
set_option maxHeartbeats 8000000 in
theorem walk_UmpireIdle (v : Value) (c : Cas) (wh how : Int) (w : World) (hv : CasW w v c) (hm1 : (Lit.int .u8 wh).wf = true) (hm2 : (Lit.int .u8 how).wf = true) :
    Calls Tryz.prog 10 #[v, .int .u8 wh, .int .u8 how] w fun e w' => e = .returned (.bool true) ∧ Ext w w' := by
  have HAW := Lib.hid awakeU_any
  have HRD : Hid (∀ W, Ext w W → Calls Tryz.prog 32 #[v] W fun e w' => e = .returned (.bool (readyB c)) ∧ Ext W w') := Lib.hid (fun W hx => readyU_any c v W (hv.ext hx))
  have HV := Lib.hid hv
  have hb1 := u8_in hm1
  have hb2 := u8_in hm2
  clear hm1 hm2
  obtain ⟨vt, vf, rfl, ht, hf, -, -⟩ := hv
  obtain ⟨a1, c1, rfl, -⟩ := id ht
  obtain ⟨a2, c2, rfl, -⟩ := id hf
  clear ht hf
  cases hr : readyB c with
  | false =>
    rw [hr] at HRD
    clear HV hr
    generalize c.tars.length = n1 at *
    generalize c.flds.length = n2 at *
    generalize c.day = day at *
    generalize c.fee = fee at *
    go_enter Tryz.func10, Tryz.ntmps10
    go_wp2_with fail
    (with_reducible refine (HRD.out _ (by (repeat (first | exact Ext.refl _ | (with_reducible assumption) | (with_reducible refine Ext.drew ?_) | (with_reducible refine Ext.alloc ?_ _) | (with_reducible refine Ext.drewN ?_ _) | (with_reducible refine Ext.setCell ?_ (by omega) _) | (with_reducible refine Ext.trans ?_ (by with_reducible assumption)))))).mono ?_)
    rintro e w1 ⟨rfl, hx1⟩
    go_wp2_with fail
    (with_reducible refine (HAW.out _).mono ?_)
    rintro e w2 ⟨rfl, hx2⟩
    go_wp2_with fail
    go_ret
    exact ⟨rfl, by (repeat (first | exact Ext.refl _ | (with_reducible assumption) | (with_reducible refine Ext.drew ?_) | (with_reducible refine Ext.alloc ?_ _) | (with_reducible refine Ext.drewN ?_ _) | (with_reducible refine Ext.setCell ?_ (by omega) _) | (with_reducible refine Ext.trans ?_ (by with_reducible assumption))))⟩
  | true =>
    rw [hr] at HRD
    obtain ⟨htc, hce⟩ := ready_true hr
    have htt := thinCas_tars htc
    have hcv := HV.out.toV htc
    have hok := caseE_zero hce
    have hn3 := hok.few
    by_cases hz : c.flds.length = 0
    · rw [hz] at HRD ⊢
      clear HV hr htc hce htt hcv hok hn3 hz
      generalize c.tars.length = n1 at *
      generalize c.day = day at *
      generalize c.fee = fee at *
      go_enter Tryz.func10, Tryz.ntmps10
      go_wp2_with fail
      (with_reducible refine (HRD.out _ (by (repeat (first | exact Ext.refl _ | (with_reducible assumption) | (with_reducible refine Ext.drew ?_) | (with_reducible refine Ext.alloc ?_ _) | (with_reducible refine Ext.drewN ?_ _) | (with_reducible refine Ext.setCell ?_ (by omega) _) | (with_reducible refine Ext.trans ?_ (by with_reducible assumption)))))).mono ?_)
      rintro e w1 ⟨rfl, hx1⟩
      have q3 := hx1.keep (k := w.heap.size) (o := 3) (v := .slice a2 0 c2) (by simp [go_sem])
      go_wp2_with fail
      (with_reducible refine (HAW.out _).mono ?_)
      rintro e w2 ⟨rfl, hx2⟩
      go_wp2_with fail
      go_ret
      exact ⟨rfl, by (repeat (first | exact Ext.refl _ | (with_reducible assumption) | (with_reducible refine Ext.drew ?_) | (with_reducible refine Ext.alloc ?_ _) | (with_reducible refine Ext.drewN ?_ _) | (with_reducible refine Ext.setCell ?_ (by omega) _) | (with_reducible refine Ext.trans ?_ (by with_reducible assumption))))⟩
    · have hn0 : 0 < c.flds.length := by omega
      obtain ⟨k, hk1, hk2, hkl⟩ := idx_mod hb1.1 hn0
      obtain ⟨m, hm1, hm2, hml⟩ := idx_mod (n := 3) hb2.1 (by decide)
      have hm1' : how.tmod 3 = (m : Int) := hm1
      have hm2' : how % 3 = (m : Int) := hm2
      clear hm1 hm2
      have hask : askE c (k : Int) = 0 := by
        have e : inR (k : Int) 0 ((c.flds.length : Int) - 1) = true := inR_iff.2 (by omega)
        unfold askE askF
        rw [hce]
        simp [e]
      have HCA : Hid (∀ W, Ext w W → Calls Tryz.prog 18 #[.agg #[.slice a1 c.tars.length c1, .int .i64 c.day, .int .i64 c.fee, .slice a2 c.flds.length c2]] W fun e w' => ∃ v', e = .returned v' ∧ CasV w' v' c ∧ Ext W w') := Lib.hid (fun W hx => Case_any c _ W (hcv.ext hx) htt)
      have HCH : Hid (∀ W, Ext w W → Calls Tryz.prog 41 #[.agg #[.slice a1 c.tars.length c1, .int .i64 c.day, .int .i64 c.fee, .slice a2 c.flds.length c2]] W fun e w' => ∃ g q, e = .returned (.agg #[.slice a1 c.tars.length c1, .int .i64 c.day, .int .i64 c.fee, .slice (some ⟨g, 0, none⟩) c.flds.length q]) ∧ FldsAt w' g c.flds ∧ W.heap.size ≤ g ∧ c.flds.length ≤ q ∧ Ext W w') := Lib.hid (fun W hx => changedU_any c _ _ _ _ _ _ _ _ W (hcv.ext hx) rfl hn0 hn3)
      have HCX : Hid (∀ f, FldOK c.tars f → ∀ g q W, FldsAt W g (c.flds.set k f) → c.flds.length ≤ q → Ext w W → Calls Tryz.prog 18 #[.agg #[.slice a1 c.tars.length c1, .int .i64 c.day, .int .i64 c.fee, .slice (some ⟨g, 0, none⟩) c.flds.length q]] W fun e w' => ∃ v', e = .returned v' ∧ CasV w' v' (c.withF (c.flds.set k f)) ∧ Ext W w') := Lib.hid (fun f hf g q W h hq hx => by
        have hl : (c.flds.set k f).length = c.flds.length := by simp
        have hs := h.slice (q := q) (by rw [hl]; exact hq) (by rw [hl]; omega)
        rw [hl] at hs
        exact Case_any (c.withF (c.flds.set k f)) _ W (CasV.with hcv hx hs) htt)
      have HM := Lib.hid (fun v W (h : CasV W v c) => Matters_good c v W h hce)
      have HMX := Lib.hid (fun f (hf : FldOK c.tars f) v W (h : CasV W v (c.withF (c.flds.set k f))) => Matters_good _ v W h (setF_E hce (k := k) hf))
      have HL := Lib.hid (fun v W (h : CasV W v c) => Called_good c v (k : Int) W h hask)
      have e0 : c.flds.getD ((k : Int)).toNat default = c.flds[k] := by simp [hkl]
      rw [e0] at HL
      have HHC : Hid (calledV c.flds[k] = 2 → ∀ v W, IntsV W v (mattersS c) → Calls Tryz.prog 35 #[v, .int .i64 k] W fun e w' => e = .returned (.bool false) ∧ Ext W w') := Lib.hid (fun hc v W h => decide_eq_false (idle_called hkl hc) ▸ hasU_any v _ (k : Int) W h)
      have HHX : Hid (∀ f, ¬ (k : Int) ∈ mattersS (c.withF (c.flds.set k f)) → ∀ v W, IntsV W v (mattersS (c.withF (c.flds.set k f))) → Calls Tryz.prog 35 #[v, .int .i64 k] W fun e w' => e = .returned (.bool false) ∧ Ext W w') := Lib.hid (fun f hn v W h => decide_eq_false hn ▸ hasU_any v _ (k : Int) W h)
      have hfo := hok.flds _ (List.getElem_mem hkl)
      have HPUT := Lib.hid (fun (W : World) g j f x (h : FldsAt W g c.flds) hj hf => h.put (f := f) (x := x) hkl (j := j) hj hf)
      have HAT := Lib.hid (fun (W : World) g (h : FldsAt W g c.flds) => h.cells k hkl)
      have hmc : m = 0 ∨ m = 1 ∨ m = 2 := by omega
      have hki : (k : Int) < (c.flds.length : Int) := by omega
      have hk0 : (0 : Int) ≤ (k : Int) := by omega
      have hn0i : ¬ (c.flds.length : Int) = 0 := by omega
      have hw1 : IntKind.i64.wrap wh = wh := IntWalk.i64_in _ (by omega)
      rcases hmc with rfl | rfl | rfl
      · have hfo2 := near_ok hfo (n := 100) (by omega)
        have hno := idle_near hok hkl
        have HCX2 := Lib.hid (HCX.out _ hfo2)
        have HMX2 := Lib.hid (HMX.out _ hfo2)
        have HHX2 := Lib.hid (HHX.out _ hno)
        have HNE : ∀ i, i < 9 → (c.flds[k].withNear 100).c.cs[i]? = if i = 2 then some (.int .i64 100) else (c.flds[k]).c.cs[i]? := by
          intro i hi
          have : i = 0 ∨ i = 1 ∨ i = 2 ∨ i = 3 ∨ i = 4 ∨ i = 5 ∨ i = 6 ∨ i = 7 ∨ i = 8 := by omega
          rcases this with rfl | rfl | rfl | rfl | rfl | rfl | rfl | rfl | rfl <;> rfl
        have HPUT2 : Hid (∀ (W : World) g, FldsAt W g c.flds → FldsAt (W.setCell ⟨g, k * 9 + 2, none⟩ (.int .i64 100)) g (c.flds.set k (c.flds[k].withNear 100))) := Lib.hid (fun W g h => HPUT.out W g _ _ _ h (by decide) HNE)
        clear HCX HMX HHX hfo2 hno HNE HPUT hfo HV hr htc hce htt hcv hok hask e0
        generalize mattersS (c.withF (c.flds.set k (c.flds[k].withNear 100))) = mx at *
        generalize c.withF (c.flds.set k (c.flds[k].withNear 100)) = cx at *
        generalize mattersS c = mc at *
        generalize c.flds.set k (c.flds[k].withNear 100) = flx at *
        generalize calledV c.flds[k] = cv at *
        generalize c.flds[k] = f at *
        obtain ⟨cr, va, ne, al, ah, bl, bh, ul, uh⟩ := f
        simp only [Fld.c] at *
        generalize c.tars.length = n1 at *
        generalize hn2 : c.flds.length = n2 at *
        clear hn2
        generalize c.flds = fl at *
        generalize c.day = day at *
        generalize c.fee = fee at *
        go_enter Tryz.func10, Tryz.ntmps10
        go_wp2_with fail
        have X : Ext w (w.alloc (.cells #[.slice a1 n1 c1, .int .i64 day, .int .i64 fee, .slice a2 n2 c2] 25)) := by (repeat (first | exact Ext.refl _ | (with_reducible assumption) | (with_reducible refine Ext.drew ?_) | (with_reducible refine Ext.alloc ?_ _) | (with_reducible refine Ext.drewN ?_ _) | (with_reducible refine Ext.setCell ?_ (by omega) _) | (with_reducible refine Ext.trans ?_ (by with_reducible assumption))))
        have HS : Hid (∀ w', Ext (w.alloc (.cells #[.slice a1 n1 c1, .int .i64 day, .int .i64 fee, .slice a2 n2 c2] 25)) w' → (w'.cell? ⟨w.heap.size, 0, none⟩ = some (.slice a1 n1 c1) ∧ w'.cell? ⟨w.heap.size, 1, none⟩ = some (.int .i64 day) ∧ w'.cell? ⟨w.heap.size, 2, none⟩ = some (.int .i64 fee) ∧ w'.cell? ⟨w.heap.size, 3, none⟩ = some (.slice a2 n2 c2)) ∧ Ext (w.alloc (.cells #[.slice a1 n1 c1, .int .i64 day, .int .i64 fee, .slice a2 n2 c2] 25)) w') := Lib.hid (fun w' hx => ⟨⟨hx.keep (by simp [go_sem]), hx.keep (by simp [go_sem]), hx.keep (by simp [go_sem]), hx.keep (by simp [go_sem])⟩, hx⟩)
        have HSf : Hid (∀ w', Ext (w.alloc (.cells #[.slice a1 n1 c1, .int .i64 day, .int .i64 fee, .slice a2 n2 c2] 25)) w' → ∀ o, w'.frozen? ⟨w.heap.size, o, none⟩ = false) := Lib.hid (fun w' hx o => (hx.frozen (by simp)).trans (by simp [go_sem]))
        have HSz : w.heap.size + 1 ≤ (w.alloc (.cells #[.slice a1 n1 c1, .int .i64 day, .int .i64 fee, .slice a2 n2 c2] 25)).heap.size := by simp
        generalize (w.alloc (.cells #[.slice a1 n1 c1, .int .i64 day, .int .i64 fee, .slice a2 n2 c2] 25)) = W at *
        (with_reducible refine (HRD.out _ X).mono ?_)
        rintro e w1 ⟨rfl, hx1⟩
        obtain ⟨⟨q0, q1, q2, q3⟩, -⟩ := HS.out w1 hx1
        have X1 : Ext w w1 := by (repeat (first | exact Ext.refl _ | (with_reducible assumption) | (with_reducible refine Ext.drew ?_) | (with_reducible refine Ext.alloc ?_ _) | (with_reducible refine Ext.drewN ?_ _) | (with_reducible refine Ext.setCell ?_ (by omega) _) | (with_reducible refine Ext.trans ?_ (by with_reducible assumption))))
        have hT3 : w.heap.size < w1.heap.size := lt_of_cell q0
        clear HS HSf HSz hx1 X HRD
        go_wp2_with fail
        (with_reducible refine (HCH.out _ X1).mono ?_)
        rintro e w2 ⟨g, q, rfl, hfl, hg, hq, hx2⟩
        replace q0 := hx2.keep q0
        replace q1 := hx2.keep q1
        replace q2 := hx2.keep q2
        replace q3 := hx2.keep q3
        have X2 := X1.trans hx2
        have hgl := hfl.lt
        clear X1 hx2 HCH
        go_upto_region 6 with fail
        have b0 : (w2.alloc (.cells #[.slice a1 n1 c1, .int .i64 day, .int .i64 fee, .slice (some ⟨g, 0, none⟩) n2 q] 25)).cell? ⟨w2.heap.size, 0, none⟩ = some (.slice a1 n1 c1) := by simp [go_sem]
        have b1 : (w2.alloc (.cells #[.slice a1 n1 c1, .int .i64 day, .int .i64 fee, .slice (some ⟨g, 0, none⟩) n2 q] 25)).cell? ⟨w2.heap.size, 1, none⟩ = some (.int .i64 day) := by simp [go_sem]
        have b2 : (w2.alloc (.cells #[.slice a1 n1 c1, .int .i64 day, .int .i64 fee, .slice (some ⟨g, 0, none⟩) n2 q] 25)).cell? ⟨w2.heap.size, 2, none⟩ = some (.int .i64 fee) := by simp [go_sem]
        have b3 : (w2.alloc (.cells #[.slice a1 n1 c1, .int .i64 day, .int .i64 fee, .slice (some ⟨g, 0, none⟩) n2 q] 25)).cell? ⟨w2.heap.size, 3, none⟩ = some (.slice (some ⟨g, 0, none⟩) n2 q) := by simp [go_sem]
        have XA : Ext w2 (w2.alloc (.cells #[.slice a1 n1 c1, .int .i64 day, .int .i64 fee, .slice (some ⟨g, 0, none⟩) n2 q] 25)) := by (repeat (first | exact Ext.refl _ | (with_reducible assumption) | (with_reducible refine Ext.drew ?_) | (with_reducible refine Ext.alloc ?_ _) | (with_reducible refine Ext.drewN ?_ _) | (with_reducible refine Ext.setCell ?_ (by omega) _) | (with_reducible refine Ext.trans ?_ (by with_reducible assumption))))
        generalize w2.alloc (.cells #[.slice a1 n1 c1, .int .i64 day, .int .i64 fee, .slice (some ⟨g, 0, none⟩) n2 q] 25) = w5 at *
        replace q0 := XA.keep q0
        replace q1 := XA.keep q1
        replace q2 := XA.keep q2
        replace q3 := XA.keep q3
        have hfl5 := hfl.ext XA
        have X5 := X2.trans XA
        obtain ⟨m0, m1, m2, m3, m4, m5, m6, m7, m8⟩ := HAT.out _ _ hfl5
        have hfr := hfl5.fr
        have hgb : w2.heap.size ≠ g := by omega
        have hgq : w.heap.size ≠ g := by omega
        have HF6 := Lib.hid (HPUT2.out _ _ hfl5)
        have r0 := sc_ne' (i := 0) (b' := g) (i' := k * 9 + 2) (v := .int .i64 100) (.inl hgb) b0
        have r1 := sc_ne' (i := 1) (b' := g) (i' := k * 9 + 2) (v := .int .i64 100) (.inl hgb) b1
        have r2 := sc_ne' (i := 2) (b' := g) (i' := k * 9 + 2) (v := .int .i64 100) (.inl hgb) b2
        have r3 := sc_ne' (i := 3) (b' := g) (i' := k * 9 + 2) (v := .int .i64 100) (.inl hgb) b3
        have s0 := sc_ne' (i := 0) (b' := g) (i' := k * 9 + 2) (v := .int .i64 100) (.inl hgq) q0
        have s1 := sc_ne' (i := 1) (b' := g) (i' := k * 9 + 2) (v := .int .i64 100) (.inl hgq) q1
        have s2 := sc_ne' (i := 2) (b' := g) (i' := k * 9 + 2) (v := .int .i64 100) (.inl hgq) q2
        have s3 := sc_ne' (i := 3) (b' := g) (i' := k * 9 + 2) (v := .int .i64 100) (.inl hgq) q3
        have X6 : Ext w (w5.setCell ⟨g, k * 9 + 2, none⟩ (.int .i64 100)) := X5.setCell (by omega) _
        clear q0 q1 q2 q3 b0 b1 b2 b3 XA X2 hfl hfl5 HPUT2 HAT
        go_upto_region 12 with fail
        generalize w5.setCell ⟨g, k * 9 + 2, none⟩ (.int .i64 100) = w6 at *
        clear m0 m1 m2 m3 m4 m5 m6 m7 m8 hfr X5
        go_wp2_with fail
        (with_reducible refine (HCX2.out _ _ _ HF6.out hq X6).mono ?_)
        rintro e w7 ⟨v7, rfl, hv, hx⟩
        have hy : Ext w6 w7 := by (repeat (first | exact Ext.refl _ | (with_reducible assumption) | (with_reducible refine Ext.drew ?_) | (with_reducible refine Ext.alloc ?_ _) | (with_reducible refine Ext.drewN ?_ _) | (with_reducible refine Ext.setCell ?_ (by omega) _) | (with_reducible refine Ext.trans ?_ (by with_reducible assumption))))
        replace X6 := X6.trans hy
        replace s0 := hy.keep s0
        replace s1 := hy.keep s1
        replace s2 := hy.keep s2
        replace s3 := hy.keep s3
        clear hx hy
        clear HF6 r0 r1 r2 r3
        go_wp2_with fail
        (with_reducible refine (HMX2.out _ _ hv).mono ?_)
        rintro e w8 ⟨r8, rfl, hr8, hx⟩
        have hy : Ext w7 w8 := by (repeat (first | exact Ext.refl _ | (with_reducible assumption) | (with_reducible refine Ext.drew ?_) | (with_reducible refine Ext.alloc ?_ _) | (with_reducible refine Ext.drewN ?_ _) | (with_reducible refine Ext.setCell ?_ (by omega) _) | (with_reducible refine Ext.trans ?_ (by with_reducible assumption))))
        replace X6 := X6.trans hy
        replace s0 := hy.keep s0
        replace s1 := hy.keep s1
        replace s2 := hy.keep s2
        replace s3 := hy.keep s3
        clear hx hy
        clear hv
        go_wp2_with fail
        (with_reducible refine (HCA.out _ X6).mono ?_)
        rintro e w9 ⟨v9, rfl, hv, hx⟩
        have hy : Ext w8 w9 := by (repeat (first | exact Ext.refl _ | (with_reducible assumption) | (with_reducible refine Ext.drew ?_) | (with_reducible refine Ext.alloc ?_ _) | (with_reducible refine Ext.drewN ?_ _) | (with_reducible refine Ext.setCell ?_ (by omega) _) | (with_reducible refine Ext.trans ?_ (by with_reducible assumption))))
        replace X6 := X6.trans hy
        replace s0 := hy.keep s0
        replace s1 := hy.keep s1
        replace s2 := hy.keep s2
        replace s3 := hy.keep s3
        replace hr8 := hr8.ext hy
        clear hx hy
        go_wp2_with fail
        (with_reducible refine (HM.out _ _ hv).mono ?_)
        rintro e w10 ⟨r10, rfl, hr10, hx⟩
        have hy : Ext w9 w10 := by (repeat (first | exact Ext.refl _ | (with_reducible assumption) | (with_reducible refine Ext.drew ?_) | (with_reducible refine Ext.alloc ?_ _) | (with_reducible refine Ext.drewN ?_ _) | (with_reducible refine Ext.setCell ?_ (by omega) _) | (with_reducible refine Ext.trans ?_ (by with_reducible assumption))))
        replace X6 := X6.trans hy
        replace s0 := hy.keep s0
        replace s1 := hy.keep s1
        replace s2 := hy.keep s2
        replace s3 := hy.keep s3
        replace hr8 := hr8.ext hy
        clear hx hy
        clear hv
        go_wp2_with fail
        (with_reducible refine (HCA.out _ X6).mono ?_)
        rintro e w11 ⟨v11, rfl, hv, hx⟩
        have hy : Ext w10 w11 := by (repeat (first | exact Ext.refl _ | (with_reducible assumption) | (with_reducible refine Ext.drew ?_) | (with_reducible refine Ext.alloc ?_ _) | (with_reducible refine Ext.drewN ?_ _) | (with_reducible refine Ext.setCell ?_ (by omega) _) | (with_reducible refine Ext.trans ?_ (by with_reducible assumption))))
        replace X6 := X6.trans hy
        replace s0 := hy.keep s0
        replace s1 := hy.keep s1
        replace s2 := hy.keep s2
        replace s3 := hy.keep s3
        replace hr8 := hr8.ext hy
        replace hr10 := hr10.ext hy
        clear hx hy
        go_wp2_with fail
        (with_reducible refine (HL.out _ _ hv).mono ?_)
        rintro e w12 ⟨rfl, hx⟩
        have hy : Ext w11 w12 := by (repeat (first | exact Ext.refl _ | (with_reducible assumption) | (with_reducible refine Ext.drew ?_) | (with_reducible refine Ext.alloc ?_ _) | (with_reducible refine Ext.drewN ?_ _) | (with_reducible refine Ext.setCell ?_ (by omega) _) | (with_reducible refine Ext.trans ?_ (by with_reducible assumption))))
        replace X6 := X6.trans hy
        replace hr8 := hr8.ext hy
        replace hr10 := hr10.ext hy
        clear hx hy
        clear hv s0 s1 s2 s3
        go_wp2_with fail
        (with_reducible refine (HHX2.out _ _ hr8).mono ?_)
        rintro e w13 ⟨rfl, hx⟩
        have hy : Ext w12 w13 := by (repeat (first | exact Ext.refl _ | (with_reducible assumption) | (with_reducible refine Ext.drew ?_) | (with_reducible refine Ext.alloc ?_ _) | (with_reducible refine Ext.drewN ?_ _) | (with_reducible refine Ext.setCell ?_ (by omega) _) | (with_reducible refine Ext.trans ?_ (by with_reducible assumption))))
        replace X6 := X6.trans hy
        replace hr10 := hr10.ext hy
        clear hx hy
        clear hr8
        by_cases hc2 : cv = 2
        · have HH := Lib.hid (HHC.out hc2)
          subst hc2
          go_wp2_with fail
          (with_reducible refine (HH.out _ _ hr10).mono ?_)
          rintro e w14 ⟨rfl, hx⟩
          have hy : Ext w13 w14 := by (repeat (first | exact Ext.refl _ | (with_reducible assumption) | (with_reducible refine Ext.drew ?_) | (with_reducible refine Ext.alloc ?_ _) | (with_reducible refine Ext.drewN ?_ _) | (with_reducible refine Ext.setCell ?_ (by omega) _) | (with_reducible refine Ext.trans ?_ (by with_reducible assumption))))
          replace X6 := X6.trans hy
          clear hx hy
          go_wp2_with fail
          (with_reducible refine (HAW.out _).mono ?_)
          rintro e w15 ⟨rfl, hx⟩
          have hy : Ext w14 w15 := by (repeat (first | exact Ext.refl _ | (with_reducible assumption) | (with_reducible refine Ext.drew ?_) | (with_reducible refine Ext.alloc ?_ _) | (with_reducible refine Ext.drewN ?_ _) | (with_reducible refine Ext.setCell ?_ (by omega) _) | (with_reducible refine Ext.trans ?_ (by with_reducible assumption))))
          replace X6 := X6.trans hy
          clear hx hy
          go_wp2_with fail
          go_ret
          exact ⟨rfl, X6⟩
        · have hb : (cv != 2) = true := by rw [bne_iff_ne]; exact hc2
          clear hc2 HHC hr10
          go_wp2_with fail
          (with_reducible refine (HAW.out _).mono ?_)
          rintro e w14 ⟨rfl, hx⟩
          have hy : Ext w13 w14 := by (repeat (first | exact Ext.refl _ | (with_reducible assumption) | (with_reducible refine Ext.drew ?_) | (with_reducible refine Ext.alloc ?_ _) | (with_reducible refine Ext.drewN ?_ _) | (with_reducible refine Ext.setCell ?_ (by omega) _) | (with_reducible refine Ext.trans ?_ (by with_reducible assumption))))
          replace X6 := X6.trans hy
          clear hx hy
          go_wp2_with fail
          go_ret
          exact ⟨rfl, X6⟩
      · have hfo2 := known_ok hfo
        have hno := idle_known hkl
        have HCX2 := Lib.hid (HCX.out _ hfo2)
        have HMX2 := Lib.hid (HMX.out _ hfo2)
        have HHX2 := Lib.hid (HHX.out _ hno)
        have HNE : ∀ i, i < 9 → (c.flds[k].known).c.cs[i]? = if i = 8 then some (.int .i64 (c.flds[k]).ulo) else (c.flds[k]).c.cs[i]? := by
          intro i hi
          have : i = 0 ∨ i = 1 ∨ i = 2 ∨ i = 3 ∨ i = 4 ∨ i = 5 ∨ i = 6 ∨ i = 7 ∨ i = 8 := by omega
          rcases this with rfl | rfl | rfl | rfl | rfl | rfl | rfl | rfl | rfl <;> rfl
        have HPUT2 : Hid (∀ (W : World) g, FldsAt W g c.flds → FldsAt (W.setCell ⟨g, k * 9 + 8, none⟩ (.int .i64 (c.flds[k]).ulo)) g (c.flds.set k (c.flds[k].known))) := Lib.hid (fun W g h => HPUT.out W g _ _ _ h (by decide) HNE)
        clear HCX HMX HHX hfo2 hno HNE HPUT hfo HV hr htc hce htt hcv hok hask e0
        generalize mattersS (c.withF (c.flds.set k (c.flds[k].known))) = mx at *
        generalize c.withF (c.flds.set k (c.flds[k].known)) = cx at *
        generalize mattersS c = mc at *
        generalize c.flds.set k (c.flds[k].known) = flx at *
        generalize calledV c.flds[k] = cv at *
        generalize c.flds[k] = f at *
        obtain ⟨cr, va, ne, al, ah, bl, bh, ul, uh⟩ := f
        simp only [Fld.c] at *
        generalize c.tars.length = n1 at *
        generalize hn2 : c.flds.length = n2 at *
        clear hn2
        generalize c.flds = fl at *
        generalize c.day = day at *
        generalize c.fee = fee at *
        go_enter Tryz.func10, Tryz.ntmps10
        go_wp2_with fail
        have X : Ext w (w.alloc (.cells #[.slice a1 n1 c1, .int .i64 day, .int .i64 fee, .slice a2 n2 c2] 25)) := by (repeat (first | exact Ext.refl _ | (with_reducible assumption) | (with_reducible refine Ext.drew ?_) | (with_reducible refine Ext.alloc ?_ _) | (with_reducible refine Ext.drewN ?_ _) | (with_reducible refine Ext.setCell ?_ (by omega) _) | (with_reducible refine Ext.trans ?_ (by with_reducible assumption))))
        have HS : Hid (∀ w', Ext (w.alloc (.cells #[.slice a1 n1 c1, .int .i64 day, .int .i64 fee, .slice a2 n2 c2] 25)) w' → (w'.cell? ⟨w.heap.size, 0, none⟩ = some (.slice a1 n1 c1) ∧ w'.cell? ⟨w.heap.size, 1, none⟩ = some (.int .i64 day) ∧ w'.cell? ⟨w.heap.size, 2, none⟩ = some (.int .i64 fee) ∧ w'.cell? ⟨w.heap.size, 3, none⟩ = some (.slice a2 n2 c2)) ∧ Ext (w.alloc (.cells #[.slice a1 n1 c1, .int .i64 day, .int .i64 fee, .slice a2 n2 c2] 25)) w') := Lib.hid (fun w' hx => ⟨⟨hx.keep (by simp [go_sem]), hx.keep (by simp [go_sem]), hx.keep (by simp [go_sem]), hx.keep (by simp [go_sem])⟩, hx⟩)
        have HSf : Hid (∀ w', Ext (w.alloc (.cells #[.slice a1 n1 c1, .int .i64 day, .int .i64 fee, .slice a2 n2 c2] 25)) w' → ∀ o, w'.frozen? ⟨w.heap.size, o, none⟩ = false) := Lib.hid (fun w' hx o => (hx.frozen (by simp)).trans (by simp [go_sem]))
        have HSz : w.heap.size + 1 ≤ (w.alloc (.cells #[.slice a1 n1 c1, .int .i64 day, .int .i64 fee, .slice a2 n2 c2] 25)).heap.size := by simp
        generalize (w.alloc (.cells #[.slice a1 n1 c1, .int .i64 day, .int .i64 fee, .slice a2 n2 c2] 25)) = W at *
        (with_reducible refine (HRD.out _ X).mono ?_)
        rintro e w1 ⟨rfl, hx1⟩
        obtain ⟨⟨q0, q1, q2, q3⟩, -⟩ := HS.out w1 hx1
        have X1 : Ext w w1 := by (repeat (first | exact Ext.refl _ | (with_reducible assumption) | (with_reducible refine Ext.drew ?_) | (with_reducible refine Ext.alloc ?_ _) | (with_reducible refine Ext.drewN ?_ _) | (with_reducible refine Ext.setCell ?_ (by omega) _) | (with_reducible refine Ext.trans ?_ (by with_reducible assumption))))
        have hT3 : w.heap.size < w1.heap.size := lt_of_cell q0
        clear HS HSf HSz hx1 X HRD
        go_wp2_with fail
        (with_reducible refine (HCH.out _ X1).mono ?_)
        rintro e w2 ⟨g, q, rfl, hfl, hg, hq, hx2⟩
        replace q0 := hx2.keep q0
        replace q1 := hx2.keep q1
        replace q2 := hx2.keep q2
        replace q3 := hx2.keep q3
        have X2 := X1.trans hx2
        have hgl := hfl.lt
        clear X1 hx2 HCH
        go_upto_region 6 with fail
        have b0 : (w2.alloc (.cells #[.slice a1 n1 c1, .int .i64 day, .int .i64 fee, .slice (some ⟨g, 0, none⟩) n2 q] 25)).cell? ⟨w2.heap.size, 0, none⟩ = some (.slice a1 n1 c1) := by simp [go_sem]
        have b1 : (w2.alloc (.cells #[.slice a1 n1 c1, .int .i64 day, .int .i64 fee, .slice (some ⟨g, 0, none⟩) n2 q] 25)).cell? ⟨w2.heap.size, 1, none⟩ = some (.int .i64 day) := by simp [go_sem]
        have b2 : (w2.alloc (.cells #[.slice a1 n1 c1, .int .i64 day, .int .i64 fee, .slice (some ⟨g, 0, none⟩) n2 q] 25)).cell? ⟨w2.heap.size, 2, none⟩ = some (.int .i64 fee) := by simp [go_sem]
        have b3 : (w2.alloc (.cells #[.slice a1 n1 c1, .int .i64 day, .int .i64 fee, .slice (some ⟨g, 0, none⟩) n2 q] 25)).cell? ⟨w2.heap.size, 3, none⟩ = some (.slice (some ⟨g, 0, none⟩) n2 q) := by simp [go_sem]
        have XA : Ext w2 (w2.alloc (.cells #[.slice a1 n1 c1, .int .i64 day, .int .i64 fee, .slice (some ⟨g, 0, none⟩) n2 q] 25)) := by (repeat (first | exact Ext.refl _ | (with_reducible assumption) | (with_reducible refine Ext.drew ?_) | (with_reducible refine Ext.alloc ?_ _) | (with_reducible refine Ext.drewN ?_ _) | (with_reducible refine Ext.setCell ?_ (by omega) _) | (with_reducible refine Ext.trans ?_ (by with_reducible assumption))))
        generalize w2.alloc (.cells #[.slice a1 n1 c1, .int .i64 day, .int .i64 fee, .slice (some ⟨g, 0, none⟩) n2 q] 25) = w5 at *
        replace q0 := XA.keep q0
        replace q1 := XA.keep q1
        replace q2 := XA.keep q2
        replace q3 := XA.keep q3
        have hfl5 := hfl.ext XA
        have X5 := X2.trans XA
        obtain ⟨m0, m1, m2, m3, m4, m5, m6, m7, m8⟩ := HAT.out _ _ hfl5
        have hfr := hfl5.fr
        have hgb : w2.heap.size ≠ g := by omega
        have hgq : w.heap.size ≠ g := by omega
        have HF6 := Lib.hid (HPUT2.out _ _ hfl5)
        have r0 := sc_ne' (i := 0) (b' := g) (i' := k * 9 + 8) (v := .int .i64 ul) (.inl hgb) b0
        have r1 := sc_ne' (i := 1) (b' := g) (i' := k * 9 + 8) (v := .int .i64 ul) (.inl hgb) b1
        have r2 := sc_ne' (i := 2) (b' := g) (i' := k * 9 + 8) (v := .int .i64 ul) (.inl hgb) b2
        have r3 := sc_ne' (i := 3) (b' := g) (i' := k * 9 + 8) (v := .int .i64 ul) (.inl hgb) b3
        have s0 := sc_ne' (i := 0) (b' := g) (i' := k * 9 + 8) (v := .int .i64 ul) (.inl hgq) q0
        have s1 := sc_ne' (i := 1) (b' := g) (i' := k * 9 + 8) (v := .int .i64 ul) (.inl hgq) q1
        have s2 := sc_ne' (i := 2) (b' := g) (i' := k * 9 + 8) (v := .int .i64 ul) (.inl hgq) q2
        have s3 := sc_ne' (i := 3) (b' := g) (i' := k * 9 + 8) (v := .int .i64 ul) (.inl hgq) q3
        have X6 : Ext w (w5.setCell ⟨g, k * 9 + 8, none⟩ (.int .i64 ul)) := X5.setCell (by omega) _
        clear q0 q1 q2 q3 b0 b1 b2 b3 XA X2 hfl hfl5 HPUT2 HAT
        go_upto_region 12 with fail
        generalize w5.setCell ⟨g, k * 9 + 8, none⟩ (.int .i64 ul) = w6 at *
        clear m0 m1 m2 m3 m4 m5 m6 m7 m8 hfr X5
        go_wp2_with fail
        (with_reducible refine (HCX2.out _ _ _ HF6.out hq X6).mono ?_)
        rintro e w7 ⟨v7, rfl, hv, hx⟩
        have hy : Ext w6 w7 := by (repeat (first | exact Ext.refl _ | (with_reducible assumption) | (with_reducible refine Ext.drew ?_) | (with_reducible refine Ext.alloc ?_ _) | (with_reducible refine Ext.drewN ?_ _) | (with_reducible refine Ext.setCell ?_ (by omega) _) | (with_reducible refine Ext.trans ?_ (by with_reducible assumption))))
        replace X6 := X6.trans hy
        replace s0 := hy.keep s0
        replace s1 := hy.keep s1
        replace s2 := hy.keep s2
        replace s3 := hy.keep s3
        clear hx hy
        clear HF6 r0 r1 r2 r3
        go_wp2_with fail
        (with_reducible refine (HMX2.out _ _ hv).mono ?_)
        rintro e w8 ⟨r8, rfl, hr8, hx⟩
        have hy : Ext w7 w8 := by (repeat (first | exact Ext.refl _ | (with_reducible assumption) | (with_reducible refine Ext.drew ?_) | (with_reducible refine Ext.alloc ?_ _) | (with_reducible refine Ext.drewN ?_ _) | (with_reducible refine Ext.setCell ?_ (by omega) _) | (with_reducible refine Ext.trans ?_ (by with_reducible assumption))))
        replace X6 := X6.trans hy
        replace s0 := hy.keep s0
        replace s1 := hy.keep s1
        replace s2 := hy.keep s2
        replace s3 := hy.keep s3
        clear hx hy
        clear hv
        go_wp2_with fail
        (with_reducible refine (HCA.out _ X6).mono ?_)
        rintro e w9 ⟨v9, rfl, hv, hx⟩
        have hy : Ext w8 w9 := by (repeat (first | exact Ext.refl _ | (with_reducible assumption) | (with_reducible refine Ext.drew ?_) | (with_reducible refine Ext.alloc ?_ _) | (with_reducible refine Ext.drewN ?_ _) | (with_reducible refine Ext.setCell ?_ (by omega) _) | (with_reducible refine Ext.trans ?_ (by with_reducible assumption))))
        replace X6 := X6.trans hy
        replace s0 := hy.keep s0
        replace s1 := hy.keep s1
        replace s2 := hy.keep s2
        replace s3 := hy.keep s3
        replace hr8 := hr8.ext hy
        clear hx hy
        go_wp2_with fail
        (with_reducible refine (HM.out _ _ hv).mono ?_)
        rintro e w10 ⟨r10, rfl, hr10, hx⟩
        have hy : Ext w9 w10 := by (repeat (first | exact Ext.refl _ | (with_reducible assumption) | (with_reducible refine Ext.drew ?_) | (with_reducible refine Ext.alloc ?_ _) | (with_reducible refine Ext.drewN ?_ _) | (with_reducible refine Ext.setCell ?_ (by omega) _) | (with_reducible refine Ext.trans ?_ (by with_reducible assumption))))
        replace X6 := X6.trans hy
        replace s0 := hy.keep s0
        replace s1 := hy.keep s1
        replace s2 := hy.keep s2
        replace s3 := hy.keep s3
        replace hr8 := hr8.ext hy
        clear hx hy
        clear hv
        go_wp2_with fail
        (with_reducible refine (HCA.out _ X6).mono ?_)
        rintro e w11 ⟨v11, rfl, hv, hx⟩
        have hy : Ext w10 w11 := by (repeat (first | exact Ext.refl _ | (with_reducible assumption) | (with_reducible refine Ext.drew ?_) | (with_reducible refine Ext.alloc ?_ _) | (with_reducible refine Ext.drewN ?_ _) | (with_reducible refine Ext.setCell ?_ (by omega) _) | (with_reducible refine Ext.trans ?_ (by with_reducible assumption))))
        replace X6 := X6.trans hy
        replace s0 := hy.keep s0
        replace s1 := hy.keep s1
        replace s2 := hy.keep s2
        replace s3 := hy.keep s3
        replace hr8 := hr8.ext hy
        replace hr10 := hr10.ext hy
        clear hx hy
        go_wp2_with fail
        (with_reducible refine (HL.out _ _ hv).mono ?_)
        rintro e w12 ⟨rfl, hx⟩
        have hy : Ext w11 w12 := by (repeat (first | exact Ext.refl _ | (with_reducible assumption) | (with_reducible refine Ext.drew ?_) | (with_reducible refine Ext.alloc ?_ _) | (with_reducible refine Ext.drewN ?_ _) | (with_reducible refine Ext.setCell ?_ (by omega) _) | (with_reducible refine Ext.trans ?_ (by with_reducible assumption))))
        replace X6 := X6.trans hy
        replace hr8 := hr8.ext hy
        replace hr10 := hr10.ext hy
        clear hx hy
        clear hv s0 s1 s2 s3
        go_wp2_with fail
        (with_reducible refine (HHX2.out _ _ hr8).mono ?_)
        rintro e w13 ⟨rfl, hx⟩
        have hy : Ext w12 w13 := by (repeat (first | exact Ext.refl _ | (with_reducible assumption) | (with_reducible refine Ext.drew ?_) | (with_reducible refine Ext.alloc ?_ _) | (with_reducible refine Ext.drewN ?_ _) | (with_reducible refine Ext.setCell ?_ (by omega) _) | (with_reducible refine Ext.trans ?_ (by with_reducible assumption))))
        replace X6 := X6.trans hy
        replace hr10 := hr10.ext hy
        clear hx hy
        clear hr8
        by_cases hc2 : cv = 2
        · have HH := Lib.hid (HHC.out hc2)
          subst hc2
          go_wp2_with fail
          (with_reducible refine (HH.out _ _ hr10).mono ?_)
          rintro e w14 ⟨rfl, hx⟩
          have hy : Ext w13 w14 := by (repeat (first | exact Ext.refl _ | (with_reducible assumption) | (with_reducible refine Ext.drew ?_) | (with_reducible refine Ext.alloc ?_ _) | (with_reducible refine Ext.drewN ?_ _) | (with_reducible refine Ext.setCell ?_ (by omega) _) | (with_reducible refine Ext.trans ?_ (by with_reducible assumption))))
          replace X6 := X6.trans hy
          clear hx hy
          go_wp2_with fail
          (with_reducible refine (HAW.out _).mono ?_)
          rintro e w15 ⟨rfl, hx⟩
          have hy : Ext w14 w15 := by (repeat (first | exact Ext.refl _ | (with_reducible assumption) | (with_reducible refine Ext.drew ?_) | (with_reducible refine Ext.alloc ?_ _) | (with_reducible refine Ext.drewN ?_ _) | (with_reducible refine Ext.setCell ?_ (by omega) _) | (with_reducible refine Ext.trans ?_ (by with_reducible assumption))))
          replace X6 := X6.trans hy
          clear hx hy
          go_wp2_with fail
          go_ret
          exact ⟨rfl, X6⟩
        · have hb : (cv != 2) = true := by rw [bne_iff_ne]; exact hc2
          clear hc2 HHC hr10
          go_wp2_with fail
          (with_reducible refine (HAW.out _).mono ?_)
          rintro e w14 ⟨rfl, hx⟩
          have hy : Ext w13 w14 := by (repeat (first | exact Ext.refl _ | (with_reducible assumption) | (with_reducible refine Ext.drew ?_) | (with_reducible refine Ext.alloc ?_ _) | (with_reducible refine Ext.drewN ?_ _) | (with_reducible refine Ext.setCell ?_ (by omega) _) | (with_reducible refine Ext.trans ?_ (by with_reducible assumption))))
          replace X6 := X6.trans hy
          clear hx hy
          go_wp2_with fail
          go_ret
          exact ⟨rfl, X6⟩
      · have hfo2 := free_ok hfo
        have hno := idle_free hce hkl
        have HCX2 := Lib.hid (HCX.out _ hfo2)
        have HMX2 := Lib.hid (HMX.out _ hfo2)
        have HHX2 := Lib.hid (HHX.out _ hno)
        have HNE : ∀ i, i < 9 → (c.flds[k].free).c.cs[i]? = if i = 1 then some (.int .i64 0) else (c.flds[k]).c.cs[i]? := by
          intro i hi
          have : i = 0 ∨ i = 1 ∨ i = 2 ∨ i = 3 ∨ i = 4 ∨ i = 5 ∨ i = 6 ∨ i = 7 ∨ i = 8 := by omega
          rcases this with rfl | rfl | rfl | rfl | rfl | rfl | rfl | rfl | rfl <;> rfl
        have HPUT2 : Hid (∀ (W : World) g, FldsAt W g c.flds → FldsAt (W.setCell ⟨g, k * 9 + 1, none⟩ (.int .i64 0)) g (c.flds.set k (c.flds[k].free))) := Lib.hid (fun W g h => HPUT.out W g _ _ _ h (by decide) HNE)
        clear HCX HMX HHX hfo2 hno HNE HPUT hfo HV hr htc hce htt hcv hok hask e0
        generalize mattersS (c.withF (c.flds.set k (c.flds[k].free))) = mx at *
        generalize c.withF (c.flds.set k (c.flds[k].free)) = cx at *
        generalize mattersS c = mc at *
        generalize c.flds.set k (c.flds[k].free) = flx at *
        generalize calledV c.flds[k] = cv at *
        generalize c.flds[k] = f at *
        obtain ⟨cr, va, ne, al, ah, bl, bh, ul, uh⟩ := f
        simp only [Fld.c] at *
        generalize c.tars.length = n1 at *
        generalize hn2 : c.flds.length = n2 at *
        clear hn2
        generalize c.flds = fl at *
        generalize c.day = day at *
        generalize c.fee = fee at *
        go_enter Tryz.func10, Tryz.ntmps10
        go_wp2_with fail
        have X : Ext w (w.alloc (.cells #[.slice a1 n1 c1, .int .i64 day, .int .i64 fee, .slice a2 n2 c2] 25)) := by (repeat (first | exact Ext.refl _ | (with_reducible assumption) | (with_reducible refine Ext.drew ?_) | (with_reducible refine Ext.alloc ?_ _) | (with_reducible refine Ext.drewN ?_ _) | (with_reducible refine Ext.setCell ?_ (by omega) _) | (with_reducible refine Ext.trans ?_ (by with_reducible assumption))))
        have HS : Hid (∀ w', Ext (w.alloc (.cells #[.slice a1 n1 c1, .int .i64 day, .int .i64 fee, .slice a2 n2 c2] 25)) w' → (w'.cell? ⟨w.heap.size, 0, none⟩ = some (.slice a1 n1 c1) ∧ w'.cell? ⟨w.heap.size, 1, none⟩ = some (.int .i64 day) ∧ w'.cell? ⟨w.heap.size, 2, none⟩ = some (.int .i64 fee) ∧ w'.cell? ⟨w.heap.size, 3, none⟩ = some (.slice a2 n2 c2)) ∧ Ext (w.alloc (.cells #[.slice a1 n1 c1, .int .i64 day, .int .i64 fee, .slice a2 n2 c2] 25)) w') := Lib.hid (fun w' hx => ⟨⟨hx.keep (by simp [go_sem]), hx.keep (by simp [go_sem]), hx.keep (by simp [go_sem]), hx.keep (by simp [go_sem])⟩, hx⟩)
        have HSf : Hid (∀ w', Ext (w.alloc (.cells #[.slice a1 n1 c1, .int .i64 day, .int .i64 fee, .slice a2 n2 c2] 25)) w' → ∀ o, w'.frozen? ⟨w.heap.size, o, none⟩ = false) := Lib.hid (fun w' hx o => (hx.frozen (by simp)).trans (by simp [go_sem]))
        have HSz : w.heap.size + 1 ≤ (w.alloc (.cells #[.slice a1 n1 c1, .int .i64 day, .int .i64 fee, .slice a2 n2 c2] 25)).heap.size := by simp
        generalize (w.alloc (.cells #[.slice a1 n1 c1, .int .i64 day, .int .i64 fee, .slice a2 n2 c2] 25)) = W at *
        (with_reducible refine (HRD.out _ X).mono ?_)
        rintro e w1 ⟨rfl, hx1⟩
        obtain ⟨⟨q0, q1, q2, q3⟩, -⟩ := HS.out w1 hx1
        have X1 : Ext w w1 := by (repeat (first | exact Ext.refl _ | (with_reducible assumption) | (with_reducible refine Ext.drew ?_) | (with_reducible refine Ext.alloc ?_ _) | (with_reducible refine Ext.drewN ?_ _) | (with_reducible refine Ext.setCell ?_ (by omega) _) | (with_reducible refine Ext.trans ?_ (by with_reducible assumption))))
        have hT3 : w.heap.size < w1.heap.size := lt_of_cell q0
        clear HS HSf HSz hx1 X HRD
        go_wp2_with fail
        (with_reducible refine (HCH.out _ X1).mono ?_)
        rintro e w2 ⟨g, q, rfl, hfl, hg, hq, hx2⟩
        replace q0 := hx2.keep q0
        replace q1 := hx2.keep q1
        replace q2 := hx2.keep q2
        replace q3 := hx2.keep q3
        have X2 := X1.trans hx2
        have hgl := hfl.lt
        clear X1 hx2 HCH
        go_upto_region 6 with fail
        have b0 : (w2.alloc (.cells #[.slice a1 n1 c1, .int .i64 day, .int .i64 fee, .slice (some ⟨g, 0, none⟩) n2 q] 25)).cell? ⟨w2.heap.size, 0, none⟩ = some (.slice a1 n1 c1) := by simp [go_sem]
        have b1 : (w2.alloc (.cells #[.slice a1 n1 c1, .int .i64 day, .int .i64 fee, .slice (some ⟨g, 0, none⟩) n2 q] 25)).cell? ⟨w2.heap.size, 1, none⟩ = some (.int .i64 day) := by simp [go_sem]
        have b2 : (w2.alloc (.cells #[.slice a1 n1 c1, .int .i64 day, .int .i64 fee, .slice (some ⟨g, 0, none⟩) n2 q] 25)).cell? ⟨w2.heap.size, 2, none⟩ = some (.int .i64 fee) := by simp [go_sem]
        have b3 : (w2.alloc (.cells #[.slice a1 n1 c1, .int .i64 day, .int .i64 fee, .slice (some ⟨g, 0, none⟩) n2 q] 25)).cell? ⟨w2.heap.size, 3, none⟩ = some (.slice (some ⟨g, 0, none⟩) n2 q) := by simp [go_sem]
        have XA : Ext w2 (w2.alloc (.cells #[.slice a1 n1 c1, .int .i64 day, .int .i64 fee, .slice (some ⟨g, 0, none⟩) n2 q] 25)) := by (repeat (first | exact Ext.refl _ | (with_reducible assumption) | (with_reducible refine Ext.drew ?_) | (with_reducible refine Ext.alloc ?_ _) | (with_reducible refine Ext.drewN ?_ _) | (with_reducible refine Ext.setCell ?_ (by omega) _) | (with_reducible refine Ext.trans ?_ (by with_reducible assumption))))
        generalize w2.alloc (.cells #[.slice a1 n1 c1, .int .i64 day, .int .i64 fee, .slice (some ⟨g, 0, none⟩) n2 q] 25) = w5 at *
        replace q0 := XA.keep q0
        replace q1 := XA.keep q1
        replace q2 := XA.keep q2
        replace q3 := XA.keep q3
        have hfl5 := hfl.ext XA
        have X5 := X2.trans XA
        obtain ⟨m0, m1, m2, m3, m4, m5, m6, m7, m8⟩ := HAT.out _ _ hfl5
        have hfr := hfl5.fr
        have hgb : w2.heap.size ≠ g := by omega
        have hgq : w.heap.size ≠ g := by omega
        have HF6 := Lib.hid (HPUT2.out _ _ hfl5)
        have r0 := sc_ne' (i := 0) (b' := g) (i' := k * 9 + 1) (v := .int .i64 0) (.inl hgb) b0
        have r1 := sc_ne' (i := 1) (b' := g) (i' := k * 9 + 1) (v := .int .i64 0) (.inl hgb) b1
        have r2 := sc_ne' (i := 2) (b' := g) (i' := k * 9 + 1) (v := .int .i64 0) (.inl hgb) b2
        have r3 := sc_ne' (i := 3) (b' := g) (i' := k * 9 + 1) (v := .int .i64 0) (.inl hgb) b3
        have s0 := sc_ne' (i := 0) (b' := g) (i' := k * 9 + 1) (v := .int .i64 0) (.inl hgq) q0
        have s1 := sc_ne' (i := 1) (b' := g) (i' := k * 9 + 1) (v := .int .i64 0) (.inl hgq) q1
        have s2 := sc_ne' (i := 2) (b' := g) (i' := k * 9 + 1) (v := .int .i64 0) (.inl hgq) q2
        have s3 := sc_ne' (i := 3) (b' := g) (i' := k * 9 + 1) (v := .int .i64 0) (.inl hgq) q3
        have X6 : Ext w (w5.setCell ⟨g, k * 9 + 1, none⟩ (.int .i64 0)) := X5.setCell (by omega) _
        clear q0 q1 q2 q3 b0 b1 b2 b3 XA X2 hfl hfl5 HPUT2 HAT
        go_upto_region 12 with fail
        generalize w5.setCell ⟨g, k * 9 + 1, none⟩ (.int .i64 0) = w6 at *
        clear m0 m1 m2 m3 m4 m5 m6 m7 m8 hfr X5
        go_wp2_with fail
        (with_reducible refine (HCX2.out _ _ _ HF6.out hq X6).mono ?_)
        rintro e w7 ⟨v7, rfl, hv, hx⟩
        have hy : Ext w6 w7 := by (repeat (first | exact Ext.refl _ | (with_reducible assumption) | (with_reducible refine Ext.drew ?_) | (with_reducible refine Ext.alloc ?_ _) | (with_reducible refine Ext.drewN ?_ _) | (with_reducible refine Ext.setCell ?_ (by omega) _) | (with_reducible refine Ext.trans ?_ (by with_reducible assumption))))
        replace X6 := X6.trans hy
        replace s0 := hy.keep s0
        replace s1 := hy.keep s1
        replace s2 := hy.keep s2
        replace s3 := hy.keep s3
        clear hx hy
        clear HF6 r0 r1 r2 r3
        go_wp2_with fail
        (with_reducible refine (HMX2.out _ _ hv).mono ?_)
        rintro e w8 ⟨r8, rfl, hr8, hx⟩
        have hy : Ext w7 w8 := by (repeat (first | exact Ext.refl _ | (with_reducible assumption) | (with_reducible refine Ext.drew ?_) | (with_reducible refine Ext.alloc ?_ _) | (with_reducible refine Ext.drewN ?_ _) | (with_reducible refine Ext.setCell ?_ (by omega) _) | (with_reducible refine Ext.trans ?_ (by with_reducible assumption))))
        replace X6 := X6.trans hy
        replace s0 := hy.keep s0
        replace s1 := hy.keep s1
        replace s2 := hy.keep s2
        replace s3 := hy.keep s3
        clear hx hy
        clear hv
        go_wp2_with fail
        (with_reducible refine (HCA.out _ X6).mono ?_)
        rintro e w9 ⟨v9, rfl, hv, hx⟩
        have hy : Ext w8 w9 := by (repeat (first | exact Ext.refl _ | (with_reducible assumption) | (with_reducible refine Ext.drew ?_) | (with_reducible refine Ext.alloc ?_ _) | (with_reducible refine Ext.drewN ?_ _) | (with_reducible refine Ext.setCell ?_ (by omega) _) | (with_reducible refine Ext.trans ?_ (by with_reducible assumption))))
        replace X6 := X6.trans hy
        replace s0 := hy.keep s0
        replace s1 := hy.keep s1
        replace s2 := hy.keep s2
        replace s3 := hy.keep s3
        replace hr8 := hr8.ext hy
        clear hx hy
        go_wp2_with fail
        (with_reducible refine (HM.out _ _ hv).mono ?_)
        rintro e w10 ⟨r10, rfl, hr10, hx⟩
        have hy : Ext w9 w10 := by (repeat (first | exact Ext.refl _ | (with_reducible assumption) | (with_reducible refine Ext.drew ?_) | (with_reducible refine Ext.alloc ?_ _) | (with_reducible refine Ext.drewN ?_ _) | (with_reducible refine Ext.setCell ?_ (by omega) _) | (with_reducible refine Ext.trans ?_ (by with_reducible assumption))))
        replace X6 := X6.trans hy
        replace s0 := hy.keep s0
        replace s1 := hy.keep s1
        replace s2 := hy.keep s2
        replace s3 := hy.keep s3
        replace hr8 := hr8.ext hy
        clear hx hy
        clear hv
        go_wp2_with fail
        (with_reducible refine (HCA.out _ X6).mono ?_)
        rintro e w11 ⟨v11, rfl, hv, hx⟩
        have hy : Ext w10 w11 := by (repeat (first | exact Ext.refl _ | (with_reducible assumption) | (with_reducible refine Ext.drew ?_) | (with_reducible refine Ext.alloc ?_ _) | (with_reducible refine Ext.drewN ?_ _) | (with_reducible refine Ext.setCell ?_ (by omega) _) | (with_reducible refine Ext.trans ?_ (by with_reducible assumption))))
        replace X6 := X6.trans hy
        replace s0 := hy.keep s0
        replace s1 := hy.keep s1
        replace s2 := hy.keep s2
        replace s3 := hy.keep s3
        replace hr8 := hr8.ext hy
        replace hr10 := hr10.ext hy
        clear hx hy
        go_wp2_with fail
        (with_reducible refine (HL.out _ _ hv).mono ?_)
        rintro e w12 ⟨rfl, hx⟩
        have hy : Ext w11 w12 := by (repeat (first | exact Ext.refl _ | (with_reducible assumption) | (with_reducible refine Ext.drew ?_) | (with_reducible refine Ext.alloc ?_ _) | (with_reducible refine Ext.drewN ?_ _) | (with_reducible refine Ext.setCell ?_ (by omega) _) | (with_reducible refine Ext.trans ?_ (by with_reducible assumption))))
        replace X6 := X6.trans hy
        replace hr8 := hr8.ext hy
        replace hr10 := hr10.ext hy
        clear hx hy
        clear hv s0 s1 s2 s3
        go_wp2_with fail
        (with_reducible refine (HHX2.out _ _ hr8).mono ?_)
        rintro e w13 ⟨rfl, hx⟩
        have hy : Ext w12 w13 := by (repeat (first | exact Ext.refl _ | (with_reducible assumption) | (with_reducible refine Ext.drew ?_) | (with_reducible refine Ext.alloc ?_ _) | (with_reducible refine Ext.drewN ?_ _) | (with_reducible refine Ext.setCell ?_ (by omega) _) | (with_reducible refine Ext.trans ?_ (by with_reducible assumption))))
        replace X6 := X6.trans hy
        replace hr10 := hr10.ext hy
        clear hx hy
        clear hr8
        by_cases hc2 : cv = 2
        · have HH := Lib.hid (HHC.out hc2)
          subst hc2
          go_wp2_with fail
          (with_reducible refine (HH.out _ _ hr10).mono ?_)
          rintro e w14 ⟨rfl, hx⟩
          have hy : Ext w13 w14 := by (repeat (first | exact Ext.refl _ | (with_reducible assumption) | (with_reducible refine Ext.drew ?_) | (with_reducible refine Ext.alloc ?_ _) | (with_reducible refine Ext.drewN ?_ _) | (with_reducible refine Ext.setCell ?_ (by omega) _) | (with_reducible refine Ext.trans ?_ (by with_reducible assumption))))
          replace X6 := X6.trans hy
          clear hx hy
          go_wp2_with fail
          (with_reducible refine (HAW.out _).mono ?_)
          rintro e w15 ⟨rfl, hx⟩
          have hy : Ext w14 w15 := by (repeat (first | exact Ext.refl _ | (with_reducible assumption) | (with_reducible refine Ext.drew ?_) | (with_reducible refine Ext.alloc ?_ _) | (with_reducible refine Ext.drewN ?_ _) | (with_reducible refine Ext.setCell ?_ (by omega) _) | (with_reducible refine Ext.trans ?_ (by with_reducible assumption))))
          replace X6 := X6.trans hy
          clear hx hy
          go_wp2_with fail
          go_ret
          exact ⟨rfl, X6⟩
        · have hb : (cv != 2) = true := by rw [bne_iff_ne]; exact hc2
          clear hc2 HHC hr10
          go_wp2_with fail
          (with_reducible refine (HAW.out _).mono ?_)
          rintro e w14 ⟨rfl, hx⟩
          have hy : Ext w13 w14 := by (repeat (first | exact Ext.refl _ | (with_reducible assumption) | (with_reducible refine Ext.drew ?_) | (with_reducible refine Ext.alloc ?_ _) | (with_reducible refine Ext.drewN ?_ _) | (with_reducible refine Ext.setCell ?_ (by omega) _) | (with_reducible refine Ext.trans ?_ (by with_reducible assumption))))
          replace X6 := X6.trans hy
          clear hx hy
          go_wp2_with fail
          go_ret
          exact ⟨rfl, X6⟩
end Go.Proofs.YtbmjnilcinfdiaaGreat
