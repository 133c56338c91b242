/- The walk of UmpireNear. -/
import Derived.Test.YtbmjnilcinfdiaaGreatKVT
import Derived.Test.YtbmjnilcinfdiaaGreatKYC
import Derived.Test.YtbmjnilcinfdiaaGreatKXR
import Derived.Test.YtbmjnilcinfdiaaGreatKXG
set_option linter.unusedSimpArgs false
set_option linter.unusedVariables false
namespace Go.Proofs.YtbmjnilcinfdiaaGreat
open Go.RowKit Go.Hs
attribute [local irreducible] World.setCell World.alloc

set_option maxRecDepth 100000 in
set_option maxHeartbeats 16000000 in
theorem walk_UmpireNear (v : Value) (c : Cas) (more wh : Int) (w : World) (hv : CasW w v c) (hm1 : (Lit.int .u8 more).wf = true) (hm2 : (Lit.int .u8 wh).wf = true) :
    Calls Tryz.prog 7 #[v, .int .u8 more, .int .u8 wh] w fun e w' => e = .returned (.bool true) ∧ Ext w w' := by
  have HAW := Lib.hid awakeU_any
  have HRD : Hid (∀ W, Ext w W → Calls Tryz.prog 32 #[v] W fun e w' => e = .returned (.bool (readyB c)) ∧ Ext W w') := Lib.hid (fun W hx => readyU_any c v W (hv.ext hx))
  have HV := Lib.hid hv
  have hb1 := u8_in hm1
  have hb2 := u8_in hm2
  clear hm1 hm2
  obtain ⟨vt, vf, rfl, ht, hf, -, -⟩ := hv
  obtain ⟨a1, c1, rfl, -⟩ := id ht
  obtain ⟨a2, c2, rfl, -⟩ := id hf
  clear ht hf
  cases hr : readyB c with
  | false =>
    rw [hr] at HRD
    clear HV hr
    generalize c.tars.length = n1 at *
    generalize c.flds.length = n2 at *
    generalize c.day = day at *
    generalize c.fee = fee at *
    go_enter Tryz.func7, Tryz.ntmps7
    go_wp2_with fail
    (with_reducible refine (HRD.out _ (by (repeat (first | exact Ext.refl _ | (with_reducible assumption) | (with_reducible refine Ext.drew ?_) | (with_reducible refine Ext.alloc ?_ _) | (with_reducible refine Ext.drewN ?_ _) | (with_reducible refine Ext.setCell ?_ (by omega) _) | (with_reducible refine Ext.trans ?_ (by with_reducible assumption)))))).mono ?_)
    rintro e w1 ⟨rfl, hx1⟩
    go_wp2_with fail
    (with_reducible refine (HAW.out _).mono ?_)
    rintro e w2 ⟨rfl, hx2⟩
    go_wp2_with fail
    go_ret
    exact ⟨rfl, by (repeat (first | exact Ext.refl _ | (with_reducible assumption) | (with_reducible refine Ext.drew ?_) | (with_reducible refine Ext.alloc ?_ _) | (with_reducible refine Ext.drewN ?_ _) | (with_reducible refine Ext.setCell ?_ (by omega) _) | (with_reducible refine Ext.trans ?_ (by with_reducible assumption))))⟩
  | true =>
    rw [hr] at HRD
    obtain ⟨htc, hce⟩ := ready_true hr
    have htt := thinCas_tars htc
    have hcv := HV.out.toV htc
    have hok := caseE_zero hce
    have hn3 := hok.few
    by_cases hz : c.flds.length = 0
    · rw [hz] at HRD ⊢
      clear HV hr htc hce htt hcv hok hn3 hz
      generalize c.tars.length = n1 at *
      generalize c.day = day at *
      generalize c.fee = fee at *
      go_enter Tryz.func7, Tryz.ntmps7
      go_wp2_with fail
      (with_reducible refine (HRD.out _ (by (repeat (first | exact Ext.refl _ | (with_reducible assumption) | (with_reducible refine Ext.drew ?_) | (with_reducible refine Ext.alloc ?_ _) | (with_reducible refine Ext.drewN ?_ _) | (with_reducible refine Ext.setCell ?_ (by omega) _) | (with_reducible refine Ext.trans ?_ (by with_reducible assumption)))))).mono ?_)
      rintro e w1 ⟨rfl, hx1⟩
      have q3 := hx1.keep (k := w.heap.size) (o := 3) (v := .slice a2 0 c2) (by simp [go_sem])
      go_wp2_with fail
      (with_reducible refine (HAW.out _).mono ?_)
      rintro e w2 ⟨rfl, hx2⟩
      go_wp2_with fail
      go_ret
      exact ⟨rfl, by (repeat (first | exact Ext.refl _ | (with_reducible assumption) | (with_reducible refine Ext.drew ?_) | (with_reducible refine Ext.alloc ?_ _) | (with_reducible refine Ext.drewN ?_ _) | (with_reducible refine Ext.setCell ?_ (by omega) _) | (with_reducible refine Ext.trans ?_ (by with_reducible assumption))))⟩
    · have hn0 : 0 < c.flds.length := by omega
      obtain ⟨k, hk1, hk2, hkl⟩ := idx_mod hb2.1 hn0
      obtain ⟨r, hm1, hm2, hml⟩ := idx_mod (n := 9) hb1.1 (by decide)
      have hm1' : more.tmod 9 = (r : Int) := hm1
      have hm2' : more % 9 = (r : Int) := hm2
      clear hm1 hm2
      have hask : askE c (k : Int) = 0 := by
        have e : inR (k : Int) 0 ((c.flds.length : Int) - 1) = true := inR_iff.2 (by omega)
        unfold askE askF
        rw [hce]
        simp [e]
      have hfo := hok.flds _ (List.getElem_mem hkl)
      have hnr := hfo.near
      obtain ⟨nx, hnx⟩ : ∃ nx, nx = min 100 ((c.flds[k]).near + (r : Int)) := ⟨_, rfl⟩
      have hnx1 : 0 ≤ nx ∧ nx ≤ 100 := by omega
      have hnx2 : (c.flds[k]).near ≤ nx := by omega
      have hmin : ∀ w, (Builtin.min_ #[3, 3] 3 #[.int .i64 100, .int .i64 ((c.flds[k]).near + (r : Int))]).run Tryz.prog w = .ok (.int .i64 nx) w := fun w => run_min_i64 (by rw [hnx]; omega) _ _ w
      have hw2 : IntKind.i64.wrap ((c.flds[k]).near + (r : Int)) = (c.flds[k]).near + (r : Int) := IntWalk.i64_in _ (by omega)
      have HCA : Hid (∀ W, Ext w W → Calls Tryz.prog 18 #[.agg #[.slice a1 c.tars.length c1, .int .i64 c.day, .int .i64 c.fee, .slice a2 c.flds.length c2]] W fun e w' => ∃ v', e = .returned v' ∧ CasV w' v' c ∧ Ext W w') := Lib.hid (fun W hx => Case_any c _ W (hcv.ext hx) htt)
      have HCH : Hid (∀ W, Ext w W → Calls Tryz.prog 41 #[.agg #[.slice a1 c.tars.length c1, .int .i64 c.day, .int .i64 c.fee, .slice a2 c.flds.length c2]] W fun e w' => ∃ g q, e = .returned (.agg #[.slice a1 c.tars.length c1, .int .i64 c.day, .int .i64 c.fee, .slice (some ⟨g, 0, none⟩) c.flds.length q]) ∧ FldsAt w' g c.flds ∧ W.heap.size ≤ g ∧ c.flds.length ≤ q ∧ Ext W w') := Lib.hid (fun W hx => changedU_any c _ _ _ _ _ _ _ _ W (hcv.ext hx) rfl hn0 hn3)
      have HCX : Hid (∀ f, FldOK c.tars f → ∀ g q W, FldsAt W g (c.flds.set k f) → c.flds.length ≤ q → Ext w W → Calls Tryz.prog 18 #[.agg #[.slice a1 c.tars.length c1, .int .i64 c.day, .int .i64 c.fee, .slice (some ⟨g, 0, none⟩) c.flds.length q]] W fun e w' => ∃ v', e = .returned v' ∧ CasV w' v' (c.withF (c.flds.set k f)) ∧ Ext W w') := Lib.hid (fun f hf g q W h hq hx => by
        have hl : (c.flds.set k f).length = c.flds.length := by simp
        have hs := h.slice (q := q) (by rw [hl]; exact hq) (by rw [hl]; omega)
        rw [hl] at hs
        exact Case_any (c.withF (c.flds.set k f)) _ W (CasV.with hcv hx hs) htt)
      have HL := Lib.hid (fun v W (h : CasV W v c) => Called_good c v (k : Int) W h hask)
      have e0 : c.flds.getD ((k : Int)).toNat default = c.flds[k] := by simp [hkl]
      rw [e0] at HL
      have HLX : Hid (∀ f, FldOK c.tars f → ∀ v W, CasV W v (c.withF (c.flds.set k f)) → Calls Tryz.prog 19 #[v, .int .i64 (k : Int)] W fun e w' => e = .returned (.tuple #[.int .i64 (calledV f), .int .i64 0]) ∧ Ext W w') := Lib.hid (fun f hf v W h => by
        have hx := setF_E hce (k := k) hf
        have hask2 : askE (c.withF (c.flds.set k f)) (k : Int) = 0 := by
          have e : inR (k : Int) 0 (((c.withF (c.flds.set k f)).flds.length : Int) - 1) = true := inR_iff.2 (by simp only [Cas.withF, List.length_set]; omega)
          unfold askE askF
          rw [hx]
          simp [e]
        have e1 : (c.withF (c.flds.set k f)).flds.getD ((k : Int)).toNat default = f := by simp [Cas.withF, hkl]
        have := Called_good _ v (k : Int) W h hask2
        rw [e1] at this
        exact this)
      have HPUT := Lib.hid (fun (W : World) g j f x (h : FldsAt W g c.flds) hj hf => h.put (f := f) (x := x) hkl (j := j) hj hf)
      have HNE : ∀ n i, i < 9 → ((c.flds[k]).withNear n).c.cs[i]? = if i = 2 then some (.int .i64 n) else (c.flds[k]).c.cs[i]? := by
        intro n i hi
        have : i = 0 ∨ i = 1 ∨ i = 2 ∨ i = 3 ∨ i = 4 ∨ i = 5 ∨ i = 6 ∨ i = 7 ∨ i = 8 := by omega
        rcases this with rfl | rfl | rfl | rfl | rfl | rfl | rfl | rfl | rfl <;> rfl
      have HPX : Hid (∀ (W : World) g, FldsAt W g c.flds → FldsAt (W.setCell ⟨g, k * 9 + 2, none⟩ (.int .i64 nx)) g (c.flds.set k ((c.flds[k]).withNear nx))) := Lib.hid (fun W g h => HPUT.out W g _ _ _ h (by decide) (HNE nx))
      have HPY : Hid (∀ (W : World) g, FldsAt W g c.flds → FldsAt (W.setCell ⟨g, k * 9 + 2, none⟩ (.int .i64 100)) g (c.flds.set k ((c.flds[k]).withNear 100))) := Lib.hid (fun W g h => HPUT.out W g _ _ _ h (by decide) (HNE 100))
      have HAT := Lib.hid (fun (W : World) g (h : FldsAt W g c.flds) => h.cells k hkl)
      have HCX1 := Lib.hid (HCX.out _ (near_ok hfo hnx1))
      have HCY1 := Lib.hid (HCX.out _ (near_ok hfo (n := 100) (by omega)))
      have HLX1 := Lib.hid (HLX.out _ (near_ok hfo hnx1))
      have HLY1 := Lib.hid (HLX.out _ (near_ok hfo (n := 100) (by omega)))
      rw [near_never hfo] at HLY1
      have HST : Hid (calledV c.flds[k] = 2 → calledV ((c.flds[k]).withNear nx) = 2) := Lib.hid (near_still hnx2)
      have HBE : Hid (calledV ((c.flds[k]).withNear nx) = 1 → calledV c.flds[k] = 1) := Lib.hid (near_before hnx2)
      have HV1 := Lib.hid (calledV_in c.flds[k])
      have HV2 := Lib.hid (calledV_in ((c.flds[k]).withNear nx))
      obtain ⟨b, off, rfl, hce9⟩ := hcv.fld_at hkl
      have hm9 := hce9.2.2.1
      have hki : (k : Int) < (c.flds.length : Int) := by omega
      have hk0 : (0 : Int) ≤ (k : Int) := by omega
      have hn0i : ¬ (c.flds.length : Int) = 0 := by omega
      have hbe : ((c.flds.length : Int) == 0) = false := beq_eq_false_iff_ne.2 hn0i
      have hw1 : IntKind.i64.wrap wh = wh := IntWalk.i64_in _ (by omega)
      have hw3 : IntKind.i64.wrap more = more := IntWalk.i64_in _ (by omega)
      clear HCX HLX HPUT hfo HNE HV hr htc hce htt hcv hok hask e0 hnx hnx1 hnx2 hce9 hnr
      generalize calledV ((c.flds[k]).withNear nx) = cvx at *
      generalize c.withF (c.flds.set k ((c.flds[k]).withNear nx)) = cx at *
      generalize c.withF (c.flds.set k ((c.flds[k]).withNear 100)) = cy at *
      generalize c.flds.set k ((c.flds[k]).withNear nx) = flx at *
      generalize c.flds.set k ((c.flds[k]).withNear 100) = fly at *
      generalize calledV c.flds[k] = cv at *
      generalize c.flds[k] = f at *
      obtain ⟨cr, va, ne, al, ah, bl, bh, ul, uh⟩ := f
      simp only [Fld.c] at *
      generalize c.tars.length = n1 at *
      generalize hn2 : c.flds.length = n2 at *
      clear hn2
      generalize c.flds = fl at *
      generalize c.day = day at *
      generalize c.fee = fee at *
      go_enter Tryz.func7, Tryz.ntmps7
      go_wp2_with fail
      have X : Ext w (w.alloc (.cells #[.slice a1 n1 c1, .int .i64 day, .int .i64 fee, .slice (some ⟨b, off, none⟩) n2 c2] 25)) := by (repeat (first | exact Ext.refl _ | (with_reducible assumption) | (with_reducible refine Ext.drew ?_) | (with_reducible refine Ext.alloc ?_ _) | (with_reducible refine Ext.drewN ?_ _) | (with_reducible refine Ext.setCell ?_ (by omega) _) | (with_reducible refine Ext.trans ?_ (by with_reducible assumption))))
      have HS : Hid (∀ w', Ext (w.alloc (.cells #[.slice a1 n1 c1, .int .i64 day, .int .i64 fee, .slice (some ⟨b, off, none⟩) n2 c2] 25)) w' → (w'.cell? ⟨w.heap.size, 0, none⟩ = some (.slice a1 n1 c1) ∧ w'.cell? ⟨w.heap.size, 1, none⟩ = some (.int .i64 day) ∧ w'.cell? ⟨w.heap.size, 2, none⟩ = some (.int .i64 fee) ∧ w'.cell? ⟨w.heap.size, 3, none⟩ = some (.slice (some ⟨b, off, none⟩) n2 c2)) ∧ Ext (w.alloc (.cells #[.slice a1 n1 c1, .int .i64 day, .int .i64 fee, .slice (some ⟨b, off, none⟩) n2 c2] 25)) w') := Lib.hid (fun w' hx => ⟨⟨hx.keep (by simp [go_sem]), hx.keep (by simp [go_sem]), hx.keep (by simp [go_sem]), hx.keep (by simp [go_sem])⟩, hx⟩)
      have HSf : Hid (∀ w', Ext (w.alloc (.cells #[.slice a1 n1 c1, .int .i64 day, .int .i64 fee, .slice (some ⟨b, off, none⟩) n2 c2] 25)) w' → ∀ o, w'.frozen? ⟨w.heap.size, o, none⟩ = false) := Lib.hid (fun w' hx o => (hx.frozen (by simp)).trans (by simp [go_sem]))
      have HSz : w.heap.size + 1 ≤ (w.alloc (.cells #[.slice a1 n1 c1, .int .i64 day, .int .i64 fee, .slice (some ⟨b, off, none⟩) n2 c2] 25)).heap.size := by simp
      generalize (w.alloc (.cells #[.slice a1 n1 c1, .int .i64 day, .int .i64 fee, .slice (some ⟨b, off, none⟩) n2 c2] 25)) = W at *
      (with_reducible refine (HRD.out _ X).mono ?_)
      rintro e w1 ⟨rfl, hx1⟩
      obtain ⟨⟨q0, q1, q2, q3⟩, -⟩ := HS.out w1 hx1
      have X1 : Ext w w1 := by (repeat (first | exact Ext.refl _ | (with_reducible assumption) | (with_reducible refine Ext.drew ?_) | (with_reducible refine Ext.alloc ?_ _) | (with_reducible refine Ext.drewN ?_ _) | (with_reducible refine Ext.setCell ?_ (by omega) _) | (with_reducible refine Ext.trans ?_ (by with_reducible assumption))))
      have hT3 : w.heap.size < w1.heap.size := lt_of_cell q0
      have HS1 : Hid (∀ w', Ext w1 w' → (w'.cell? ⟨w.heap.size, 0, none⟩ = some (.slice a1 n1 c1) ∧ w'.cell? ⟨w.heap.size, 1, none⟩ = some (.int .i64 day) ∧ w'.cell? ⟨w.heap.size, 2, none⟩ = some (.int .i64 fee) ∧ w'.cell? ⟨w.heap.size, 3, none⟩ = some (.slice (some ⟨b, off, none⟩) n2 c2)) ∧ Ext w1 w') := Lib.hid (fun w' hx => ⟨⟨hx.keep q0, hx.keep q1, hx.keep q2, hx.keep q3⟩, hx⟩)
      clear HS HSf HSz hx1 X HRD
      go_upto_region 4 with fail
      go_cut [8, 9] from 32 to 35 (fun sA sB wx => ∃ A B gA qA gB qB, sA = .pointer (some ⟨A, 0, none⟩) ∧ sB = .pointer (some ⟨B, 0, none⟩) ∧ TwoC w1 (.slice a1 n1 c1) (.int .i64 day) (.int .i64 fee) n2 fl fl A B gA qA gB qB wx)
      case first =>
        clear HAW HCA HL HPX HPY HAT HCX1 HCY1 HLX1 HLY1 HST HBE HV1 HV2 hmin hw1 hw2 hw3 hm9 hk1 hk2 hm1' hm2' q0 q1 q2 q3
        refine wp_region_held_drew (S := (fun w' => (w'.cell? ⟨w.heap.size, 0, none⟩ = some (.slice a1 n1 c1) ∧ w'.cell? ⟨w.heap.size, 1, none⟩ = some (.int .i64 day) ∧ w'.cell? ⟨w.heap.size, 2, none⟩ = some (.int .i64 fee) ∧ w'.cell? ⟨w.heap.size, 3, none⟩ = some (.slice (some ⟨b, off, none⟩) n2 c2)) ∧ Ext w1 w')) (by kernel_rfl) ?_ (fun hHeld => ?_)
        focus ((try dsimp only); (refine HS1.out _ ?_; (repeat (first | exact Ext.refl _ | (with_reducible assumption) | (with_reducible refine Ext.drew ?_) | (with_reducible refine Ext.alloc ?_ _) | (with_reducible refine Ext.drewN ?_ _) | (with_reducible refine Ext.setCell ?_ (by omega) _) | (with_reducible refine Ext.trans ?_ (by with_reducible assumption))))))
        refine wpAnyH_take (i := 0) (v := ?_) rfl (by kernel_rfl) (by decide +kernel) (by decide +kernel) (fun _ _ _ h => h) (Or.inl ⟨by rfl, ?_⟩) (by assumption) ?_
        rotate_left
        focus (intro w hSw; (try dsimp only at hSw); go_simp; try (with_reducible rfl))
        (try simp only [Act.put, List.getElem_toArray, List.getElem_cons_succ, List.getElem_cons_zero, List.setIfInBounds_toArray, List.set_cons_zero, List.set_cons_succ])
        refine wpAnyH_take (i := 2) (v := ?_) rfl (by kernel_rfl) (by decide +kernel) (by decide +kernel) (fun _ _ _ h => h) (Or.inl ⟨by rfl, ?_⟩) (by assumption) ?_
        rotate_left
        focus (intro w hSw; (try dsimp only at hSw); go_simp; try (with_reducible rfl))
        (try simp only [Act.put, List.getElem_toArray, List.getElem_cons_succ, List.getElem_cons_zero, List.setIfInBounds_toArray, List.set_cons_zero, List.set_cons_succ])
        repeat' (first
          | (refine wpAnyH_ready (rs := [1, 4, 5]) (by decide +kernel) (by simp) ?_
             refine AllReadyH.cons rfl (fun K hK => ?_) ?_
             focus
               (go_simp; ((with_reducible refine (HCH.out _ (X1.trans (by (repeat (first | exact Ext.refl _ | (with_reducible assumption) | (with_reducible refine Ext.drew ?_) | (with_reducible refine Ext.alloc ?_ _) | (with_reducible refine Ext.drewN ?_ _) | (with_reducible refine Ext.setCell ?_ (by omega) _) | (with_reducible refine Ext.trans ?_ (by with_reducible assumption))))))).mono ?_); rintro e w3 ⟨gA, qA, rfl, hflA, hgA, hqA, hx3⟩; have hs3 := hx3.size; (try simp at hs3); (try simp at hgA)); go_wp2_with fail)
               refine hK.out _ _ ?_ (fun hNew => ?_)
               focus ((try dsimp only); (refine HS1.out _ ?_; (repeat (first | exact Ext.refl _ | (with_reducible assumption) | (with_reducible refine Ext.drew ?_) | (with_reducible refine Ext.alloc ?_ _) | (with_reducible refine Ext.drewN ?_ _) | (with_reducible refine Ext.setCell ?_ (by omega) _) | (with_reducible refine Ext.trans ?_ (by with_reducible assumption))))))
               clear hK K hHeld
               have hHeld := hNew
               clear hNew
               (try simp only [Act.put, List.getElem_toArray, List.getElem_cons_succ, List.getElem_cons_zero, List.setIfInBounds_toArray, List.set_cons_zero, List.set_cons_succ])
             rotate_left
             refine AllReadyH.cons rfl (fun K hK => ?_) ?_
             focus
               (go_simp; (first | refine alloc_gen (F := K _) ?_ | refine alloc_gend (F := K _) ?_); intro wA hxA hbA; have hsA := hxA.size; have hlA := hbA.lt; (try simp at hsA); (try simp at hlA))
               refine hK.out _ _ ?_ (fun hNew => ?_)
               focus ((try dsimp only); (refine HS1.out _ ?_; (repeat (first | exact Ext.refl _ | (with_reducible assumption) | (with_reducible refine Ext.drew ?_) | (with_reducible refine Ext.alloc ?_ _) | (with_reducible refine Ext.drewN ?_ _) | (with_reducible refine Ext.setCell ?_ (by omega) _) | (with_reducible refine Ext.trans ?_ (by with_reducible assumption))))))
               clear hK K hHeld
               have hHeld := hNew
               clear hNew
               (try simp only [Act.put, List.getElem_toArray, List.getElem_cons_succ, List.getElem_cons_zero, List.setIfInBounds_toArray, List.set_cons_zero, List.set_cons_succ])
             rotate_left
             refine AllReadyH.cons rfl (fun K hK => ?_) ?_
             focus
               (go_simp; (first | refine alloc_gen (F := K _) ?_ | refine alloc_gend (F := K _) ?_); intro wB hxB hbB; have hsB := hxB.size; have hlB := hbB.lt; (try simp at hsB); (try simp at hlB))
               refine hK.out _ _ ?_ (fun hNew => ?_)
               focus ((try dsimp only); (refine HS1.out _ ?_; (repeat (first | exact Ext.refl _ | (with_reducible assumption) | (with_reducible refine Ext.drew ?_) | (with_reducible refine Ext.alloc ?_ _) | (with_reducible refine Ext.drewN ?_ _) | (with_reducible refine Ext.setCell ?_ (by omega) _) | (with_reducible refine Ext.trans ?_ (by with_reducible assumption))))))
               clear hK K hHeld
               have hHeld := hNew
               clear hNew
               (try simp only [Act.put, List.getElem_toArray, List.getElem_cons_succ, List.getElem_cons_zero, List.setIfInBounds_toArray, List.set_cons_zero, List.set_cons_succ])
             rotate_left
             exact AllReadyH.nil)
          | (refine wpAnyH_ready (rs := [1, 4]) (by decide +kernel) (by simp) ?_
             refine AllReadyH.cons rfl (fun K hK => ?_) ?_
             focus
               (go_simp; ((with_reducible refine (HCH.out _ (X1.trans (by (repeat (first | exact Ext.refl _ | (with_reducible assumption) | (with_reducible refine Ext.drew ?_) | (with_reducible refine Ext.alloc ?_ _) | (with_reducible refine Ext.drewN ?_ _) | (with_reducible refine Ext.setCell ?_ (by omega) _) | (with_reducible refine Ext.trans ?_ (by with_reducible assumption))))))).mono ?_); rintro e w3 ⟨gA, qA, rfl, hflA, hgA, hqA, hx3⟩; have hs3 := hx3.size; (try simp at hs3); (try simp at hgA)); go_wp2_with fail)
               refine hK.out _ _ ?_ (fun hNew => ?_)
               focus ((try dsimp only); (refine HS1.out _ ?_; (repeat (first | exact Ext.refl _ | (with_reducible assumption) | (with_reducible refine Ext.drew ?_) | (with_reducible refine Ext.alloc ?_ _) | (with_reducible refine Ext.drewN ?_ _) | (with_reducible refine Ext.setCell ?_ (by omega) _) | (with_reducible refine Ext.trans ?_ (by with_reducible assumption))))))
               clear hK K hHeld
               have hHeld := hNew
               clear hNew
               (try simp only [Act.put, List.getElem_toArray, List.getElem_cons_succ, List.getElem_cons_zero, List.setIfInBounds_toArray, List.set_cons_zero, List.set_cons_succ])
             rotate_left
             refine AllReadyH.cons rfl (fun K hK => ?_) ?_
             focus
               (go_simp; (first | refine alloc_gen (F := K _) ?_ | refine alloc_gend (F := K _) ?_); intro wA hxA hbA; have hsA := hxA.size; have hlA := hbA.lt; (try simp at hsA); (try simp at hlA))
               refine hK.out _ _ ?_ (fun hNew => ?_)
               focus ((try dsimp only); (refine HS1.out _ ?_; (repeat (first | exact Ext.refl _ | (with_reducible assumption) | (with_reducible refine Ext.drew ?_) | (with_reducible refine Ext.alloc ?_ _) | (with_reducible refine Ext.drewN ?_ _) | (with_reducible refine Ext.setCell ?_ (by omega) _) | (with_reducible refine Ext.trans ?_ (by with_reducible assumption))))))
               clear hK K hHeld
               have hHeld := hNew
               clear hNew
               (try simp only [Act.put, List.getElem_toArray, List.getElem_cons_succ, List.getElem_cons_zero, List.setIfInBounds_toArray, List.set_cons_zero, List.set_cons_succ])
             rotate_left
             exact AllReadyH.nil)
          | (refine wpAnyH_ready (rs := [1, 5]) (by decide +kernel) (by simp) ?_
             refine AllReadyH.cons rfl (fun K hK => ?_) ?_
             focus
               (go_simp; ((with_reducible refine (HCH.out _ (X1.trans (by (repeat (first | exact Ext.refl _ | (with_reducible assumption) | (with_reducible refine Ext.drew ?_) | (with_reducible refine Ext.alloc ?_ _) | (with_reducible refine Ext.drewN ?_ _) | (with_reducible refine Ext.setCell ?_ (by omega) _) | (with_reducible refine Ext.trans ?_ (by with_reducible assumption))))))).mono ?_); rintro e w3 ⟨gA, qA, rfl, hflA, hgA, hqA, hx3⟩; have hs3 := hx3.size; (try simp at hs3); (try simp at hgA)); go_wp2_with fail)
               refine hK.out _ _ ?_ (fun hNew => ?_)
               focus ((try dsimp only); (refine HS1.out _ ?_; (repeat (first | exact Ext.refl _ | (with_reducible assumption) | (with_reducible refine Ext.drew ?_) | (with_reducible refine Ext.alloc ?_ _) | (with_reducible refine Ext.drewN ?_ _) | (with_reducible refine Ext.setCell ?_ (by omega) _) | (with_reducible refine Ext.trans ?_ (by with_reducible assumption))))))
               clear hK K hHeld
               have hHeld := hNew
               clear hNew
               (try simp only [Act.put, List.getElem_toArray, List.getElem_cons_succ, List.getElem_cons_zero, List.setIfInBounds_toArray, List.set_cons_zero, List.set_cons_succ])
             rotate_left
             refine AllReadyH.cons rfl (fun K hK => ?_) ?_
             focus
               (go_simp; (first | refine alloc_gen (F := K _) ?_ | refine alloc_gend (F := K _) ?_); intro wB hxB hbB; have hsB := hxB.size; have hlB := hbB.lt; (try simp at hsB); (try simp at hlB))
               refine hK.out _ _ ?_ (fun hNew => ?_)
               focus ((try dsimp only); (refine HS1.out _ ?_; (repeat (first | exact Ext.refl _ | (with_reducible assumption) | (with_reducible refine Ext.drew ?_) | (with_reducible refine Ext.alloc ?_ _) | (with_reducible refine Ext.drewN ?_ _) | (with_reducible refine Ext.setCell ?_ (by omega) _) | (with_reducible refine Ext.trans ?_ (by with_reducible assumption))))))
               clear hK K hHeld
               have hHeld := hNew
               clear hNew
               (try simp only [Act.put, List.getElem_toArray, List.getElem_cons_succ, List.getElem_cons_zero, List.setIfInBounds_toArray, List.set_cons_zero, List.set_cons_succ])
             rotate_left
             exact AllReadyH.nil)
          | (refine wpAnyH_ready (rs := [1]) (by decide +kernel) (by simp) ?_
             refine AllReadyH.cons rfl (fun K hK => ?_) ?_
             focus
               (go_simp; ((with_reducible refine (HCH.out _ (X1.trans (by (repeat (first | exact Ext.refl _ | (with_reducible assumption) | (with_reducible refine Ext.drew ?_) | (with_reducible refine Ext.alloc ?_ _) | (with_reducible refine Ext.drewN ?_ _) | (with_reducible refine Ext.setCell ?_ (by omega) _) | (with_reducible refine Ext.trans ?_ (by with_reducible assumption))))))).mono ?_); rintro e w3 ⟨gA, qA, rfl, hflA, hgA, hqA, hx3⟩; have hs3 := hx3.size; (try simp at hs3); (try simp at hgA)); go_wp2_with fail)
               refine hK.out _ _ ?_ (fun hNew => ?_)
               focus ((try dsimp only); (refine HS1.out _ ?_; (repeat (first | exact Ext.refl _ | (with_reducible assumption) | (with_reducible refine Ext.drew ?_) | (with_reducible refine Ext.alloc ?_ _) | (with_reducible refine Ext.drewN ?_ _) | (with_reducible refine Ext.setCell ?_ (by omega) _) | (with_reducible refine Ext.trans ?_ (by with_reducible assumption))))))
               clear hK K hHeld
               have hHeld := hNew
               clear hNew
               (try simp only [Act.put, List.getElem_toArray, List.getElem_cons_succ, List.getElem_cons_zero, List.setIfInBounds_toArray, List.set_cons_zero, List.set_cons_succ])
             rotate_left
             exact AllReadyH.nil)
          | (refine wpAnyH_ready (rs := [3, 4, 5]) (by decide +kernel) (by simp) ?_
             refine AllReadyH.cons rfl (fun K hK => ?_) ?_
             focus
               (go_simp; ((with_reducible refine (HCH.out _ (X1.trans (by (repeat (first | exact Ext.refl _ | (with_reducible assumption) | (with_reducible refine Ext.drew ?_) | (with_reducible refine Ext.alloc ?_ _) | (with_reducible refine Ext.drewN ?_ _) | (with_reducible refine Ext.setCell ?_ (by omega) _) | (with_reducible refine Ext.trans ?_ (by with_reducible assumption))))))).mono ?_); rintro e w4 ⟨gB, qB, rfl, hflB, hgB, hqB, hx4⟩; have hs4 := hx4.size; (try simp at hs4); (try simp at hgB)); go_wp2_with fail)
               refine hK.out _ _ ?_ (fun hNew => ?_)
               focus ((try dsimp only); (refine HS1.out _ ?_; (repeat (first | exact Ext.refl _ | (with_reducible assumption) | (with_reducible refine Ext.drew ?_) | (with_reducible refine Ext.alloc ?_ _) | (with_reducible refine Ext.drewN ?_ _) | (with_reducible refine Ext.setCell ?_ (by omega) _) | (with_reducible refine Ext.trans ?_ (by with_reducible assumption))))))
               clear hK K hHeld
               have hHeld := hNew
               clear hNew
               (try simp only [Act.put, List.getElem_toArray, List.getElem_cons_succ, List.getElem_cons_zero, List.setIfInBounds_toArray, List.set_cons_zero, List.set_cons_succ])
             rotate_left
             refine AllReadyH.cons rfl (fun K hK => ?_) ?_
             focus
               (go_simp; (first | refine alloc_gen (F := K _) ?_ | refine alloc_gend (F := K _) ?_); intro wA hxA hbA; have hsA := hxA.size; have hlA := hbA.lt; (try simp at hsA); (try simp at hlA))
               refine hK.out _ _ ?_ (fun hNew => ?_)
               focus ((try dsimp only); (refine HS1.out _ ?_; (repeat (first | exact Ext.refl _ | (with_reducible assumption) | (with_reducible refine Ext.drew ?_) | (with_reducible refine Ext.alloc ?_ _) | (with_reducible refine Ext.drewN ?_ _) | (with_reducible refine Ext.setCell ?_ (by omega) _) | (with_reducible refine Ext.trans ?_ (by with_reducible assumption))))))
               clear hK K hHeld
               have hHeld := hNew
               clear hNew
               (try simp only [Act.put, List.getElem_toArray, List.getElem_cons_succ, List.getElem_cons_zero, List.setIfInBounds_toArray, List.set_cons_zero, List.set_cons_succ])
             rotate_left
             refine AllReadyH.cons rfl (fun K hK => ?_) ?_
             focus
               (go_simp; (first | refine alloc_gen (F := K _) ?_ | refine alloc_gend (F := K _) ?_); intro wB hxB hbB; have hsB := hxB.size; have hlB := hbB.lt; (try simp at hsB); (try simp at hlB))
               refine hK.out _ _ ?_ (fun hNew => ?_)
               focus ((try dsimp only); (refine HS1.out _ ?_; (repeat (first | exact Ext.refl _ | (with_reducible assumption) | (with_reducible refine Ext.drew ?_) | (with_reducible refine Ext.alloc ?_ _) | (with_reducible refine Ext.drewN ?_ _) | (with_reducible refine Ext.setCell ?_ (by omega) _) | (with_reducible refine Ext.trans ?_ (by with_reducible assumption))))))
               clear hK K hHeld
               have hHeld := hNew
               clear hNew
               (try simp only [Act.put, List.getElem_toArray, List.getElem_cons_succ, List.getElem_cons_zero, List.setIfInBounds_toArray, List.set_cons_zero, List.set_cons_succ])
             rotate_left
             exact AllReadyH.nil)
          | (refine wpAnyH_ready (rs := [3, 4]) (by decide +kernel) (by simp) ?_
             refine AllReadyH.cons rfl (fun K hK => ?_) ?_
             focus
               (go_simp; ((with_reducible refine (HCH.out _ (X1.trans (by (repeat (first | exact Ext.refl _ | (with_reducible assumption) | (with_reducible refine Ext.drew ?_) | (with_reducible refine Ext.alloc ?_ _) | (with_reducible refine Ext.drewN ?_ _) | (with_reducible refine Ext.setCell ?_ (by omega) _) | (with_reducible refine Ext.trans ?_ (by with_reducible assumption))))))).mono ?_); rintro e w4 ⟨gB, qB, rfl, hflB, hgB, hqB, hx4⟩; have hs4 := hx4.size; (try simp at hs4); (try simp at hgB)); go_wp2_with fail)
               refine hK.out _ _ ?_ (fun hNew => ?_)
               focus ((try dsimp only); (refine HS1.out _ ?_; (repeat (first | exact Ext.refl _ | (with_reducible assumption) | (with_reducible refine Ext.drew ?_) | (with_reducible refine Ext.alloc ?_ _) | (with_reducible refine Ext.drewN ?_ _) | (with_reducible refine Ext.setCell ?_ (by omega) _) | (with_reducible refine Ext.trans ?_ (by with_reducible assumption))))))
               clear hK K hHeld
               have hHeld := hNew
               clear hNew
               (try simp only [Act.put, List.getElem_toArray, List.getElem_cons_succ, List.getElem_cons_zero, List.setIfInBounds_toArray, List.set_cons_zero, List.set_cons_succ])
             rotate_left
             refine AllReadyH.cons rfl (fun K hK => ?_) ?_
             focus
               (go_simp; (first | refine alloc_gen (F := K _) ?_ | refine alloc_gend (F := K _) ?_); intro wA hxA hbA; have hsA := hxA.size; have hlA := hbA.lt; (try simp at hsA); (try simp at hlA))
               refine hK.out _ _ ?_ (fun hNew => ?_)
               focus ((try dsimp only); (refine HS1.out _ ?_; (repeat (first | exact Ext.refl _ | (with_reducible assumption) | (with_reducible refine Ext.drew ?_) | (with_reducible refine Ext.alloc ?_ _) | (with_reducible refine Ext.drewN ?_ _) | (with_reducible refine Ext.setCell ?_ (by omega) _) | (with_reducible refine Ext.trans ?_ (by with_reducible assumption))))))
               clear hK K hHeld
               have hHeld := hNew
               clear hNew
               (try simp only [Act.put, List.getElem_toArray, List.getElem_cons_succ, List.getElem_cons_zero, List.setIfInBounds_toArray, List.set_cons_zero, List.set_cons_succ])
             rotate_left
             exact AllReadyH.nil)
          | (refine wpAnyH_ready (rs := [3, 5]) (by decide +kernel) (by simp) ?_
             refine AllReadyH.cons rfl (fun K hK => ?_) ?_
             focus
               (go_simp; ((with_reducible refine (HCH.out _ (X1.trans (by (repeat (first | exact Ext.refl _ | (with_reducible assumption) | (with_reducible refine Ext.drew ?_) | (with_reducible refine Ext.alloc ?_ _) | (with_reducible refine Ext.drewN ?_ _) | (with_reducible refine Ext.setCell ?_ (by omega) _) | (with_reducible refine Ext.trans ?_ (by with_reducible assumption))))))).mono ?_); rintro e w4 ⟨gB, qB, rfl, hflB, hgB, hqB, hx4⟩; have hs4 := hx4.size; (try simp at hs4); (try simp at hgB)); go_wp2_with fail)
               refine hK.out _ _ ?_ (fun hNew => ?_)
               focus ((try dsimp only); (refine HS1.out _ ?_; (repeat (first | exact Ext.refl _ | (with_reducible assumption) | (with_reducible refine Ext.drew ?_) | (with_reducible refine Ext.alloc ?_ _) | (with_reducible refine Ext.drewN ?_ _) | (with_reducible refine Ext.setCell ?_ (by omega) _) | (with_reducible refine Ext.trans ?_ (by with_reducible assumption))))))
               clear hK K hHeld
               have hHeld := hNew
               clear hNew
               (try simp only [Act.put, List.getElem_toArray, List.getElem_cons_succ, List.getElem_cons_zero, List.setIfInBounds_toArray, List.set_cons_zero, List.set_cons_succ])
             rotate_left
             refine AllReadyH.cons rfl (fun K hK => ?_) ?_
             focus
               (go_simp; (first | refine alloc_gen (F := K _) ?_ | refine alloc_gend (F := K _) ?_); intro wB hxB hbB; have hsB := hxB.size; have hlB := hbB.lt; (try simp at hsB); (try simp at hlB))
               refine hK.out _ _ ?_ (fun hNew => ?_)
               focus ((try dsimp only); (refine HS1.out _ ?_; (repeat (first | exact Ext.refl _ | (with_reducible assumption) | (with_reducible refine Ext.drew ?_) | (with_reducible refine Ext.alloc ?_ _) | (with_reducible refine Ext.drewN ?_ _) | (with_reducible refine Ext.setCell ?_ (by omega) _) | (with_reducible refine Ext.trans ?_ (by with_reducible assumption))))))
               clear hK K hHeld
               have hHeld := hNew
               clear hNew
               (try simp only [Act.put, List.getElem_toArray, List.getElem_cons_succ, List.getElem_cons_zero, List.setIfInBounds_toArray, List.set_cons_zero, List.set_cons_succ])
             rotate_left
             exact AllReadyH.nil)
          | (refine wpAnyH_ready (rs := [3]) (by decide +kernel) (by simp) ?_
             refine AllReadyH.cons rfl (fun K hK => ?_) ?_
             focus
               (go_simp; ((with_reducible refine (HCH.out _ (X1.trans (by (repeat (first | exact Ext.refl _ | (with_reducible assumption) | (with_reducible refine Ext.drew ?_) | (with_reducible refine Ext.alloc ?_ _) | (with_reducible refine Ext.drewN ?_ _) | (with_reducible refine Ext.setCell ?_ (by omega) _) | (with_reducible refine Ext.trans ?_ (by with_reducible assumption))))))).mono ?_); rintro e w4 ⟨gB, qB, rfl, hflB, hgB, hqB, hx4⟩; have hs4 := hx4.size; (try simp at hs4); (try simp at hgB)); go_wp2_with fail)
               refine hK.out _ _ ?_ (fun hNew => ?_)
               focus ((try dsimp only); (refine HS1.out _ ?_; (repeat (first | exact Ext.refl _ | (with_reducible assumption) | (with_reducible refine Ext.drew ?_) | (with_reducible refine Ext.alloc ?_ _) | (with_reducible refine Ext.drewN ?_ _) | (with_reducible refine Ext.setCell ?_ (by omega) _) | (with_reducible refine Ext.trans ?_ (by with_reducible assumption))))))
               clear hK K hHeld
               have hHeld := hNew
               clear hNew
               (try simp only [Act.put, List.getElem_toArray, List.getElem_cons_succ, List.getElem_cons_zero, List.setIfInBounds_toArray, List.set_cons_zero, List.set_cons_succ])
             rotate_left
             exact AllReadyH.nil)
          | (refine wpAnyH_ready (rs := [4, 5]) (by decide +kernel) (by simp) ?_
             refine AllReadyH.cons rfl (fun K hK => ?_) ?_
             focus
               (go_simp; (first | refine alloc_gen (F := K _) ?_ | refine alloc_gend (F := K _) ?_); intro wA hxA hbA; have hsA := hxA.size; have hlA := hbA.lt; (try simp at hsA); (try simp at hlA))
               refine hK.out _ _ ?_ (fun hNew => ?_)
               focus ((try dsimp only); (refine HS1.out _ ?_; (repeat (first | exact Ext.refl _ | (with_reducible assumption) | (with_reducible refine Ext.drew ?_) | (with_reducible refine Ext.alloc ?_ _) | (with_reducible refine Ext.drewN ?_ _) | (with_reducible refine Ext.setCell ?_ (by omega) _) | (with_reducible refine Ext.trans ?_ (by with_reducible assumption))))))
               clear hK K hHeld
               have hHeld := hNew
               clear hNew
               (try simp only [Act.put, List.getElem_toArray, List.getElem_cons_succ, List.getElem_cons_zero, List.setIfInBounds_toArray, List.set_cons_zero, List.set_cons_succ])
             rotate_left
             refine AllReadyH.cons rfl (fun K hK => ?_) ?_
             focus
               (go_simp; (first | refine alloc_gen (F := K _) ?_ | refine alloc_gend (F := K _) ?_); intro wB hxB hbB; have hsB := hxB.size; have hlB := hbB.lt; (try simp at hsB); (try simp at hlB))
               refine hK.out _ _ ?_ (fun hNew => ?_)
               focus ((try dsimp only); (refine HS1.out _ ?_; (repeat (first | exact Ext.refl _ | (with_reducible assumption) | (with_reducible refine Ext.drew ?_) | (with_reducible refine Ext.alloc ?_ _) | (with_reducible refine Ext.drewN ?_ _) | (with_reducible refine Ext.setCell ?_ (by omega) _) | (with_reducible refine Ext.trans ?_ (by with_reducible assumption))))))
               clear hK K hHeld
               have hHeld := hNew
               clear hNew
               (try simp only [Act.put, List.getElem_toArray, List.getElem_cons_succ, List.getElem_cons_zero, List.setIfInBounds_toArray, List.set_cons_zero, List.set_cons_succ])
             rotate_left
             exact AllReadyH.nil)
          | (refine wpAnyH_ready (rs := [4]) (by decide +kernel) (by simp) ?_
             refine AllReadyH.cons rfl (fun K hK => ?_) ?_
             focus
               (go_simp; (first | refine alloc_gen (F := K _) ?_ | refine alloc_gend (F := K _) ?_); intro wA hxA hbA; have hsA := hxA.size; have hlA := hbA.lt; (try simp at hsA); (try simp at hlA))
               refine hK.out _ _ ?_ (fun hNew => ?_)
               focus ((try dsimp only); (refine HS1.out _ ?_; (repeat (first | exact Ext.refl _ | (with_reducible assumption) | (with_reducible refine Ext.drew ?_) | (with_reducible refine Ext.alloc ?_ _) | (with_reducible refine Ext.drewN ?_ _) | (with_reducible refine Ext.setCell ?_ (by omega) _) | (with_reducible refine Ext.trans ?_ (by with_reducible assumption))))))
               clear hK K hHeld
               have hHeld := hNew
               clear hNew
               (try simp only [Act.put, List.getElem_toArray, List.getElem_cons_succ, List.getElem_cons_zero, List.setIfInBounds_toArray, List.set_cons_zero, List.set_cons_succ])
             rotate_left
             exact AllReadyH.nil)
          | (refine wpAnyH_ready (rs := [5]) (by decide +kernel) (by simp) ?_
             refine AllReadyH.cons rfl (fun K hK => ?_) ?_
             focus
               (go_simp; (first | refine alloc_gen (F := K _) ?_ | refine alloc_gend (F := K _) ?_); intro wB hxB hbB; have hsB := hxB.size; have hlB := hbB.lt; (try simp at hsB); (try simp at hlB))
               refine hK.out _ _ ?_ (fun hNew => ?_)
               focus ((try dsimp only); (refine HS1.out _ ?_; (repeat (first | exact Ext.refl _ | (with_reducible assumption) | (with_reducible refine Ext.drew ?_) | (with_reducible refine Ext.alloc ?_ _) | (with_reducible refine Ext.drewN ?_ _) | (with_reducible refine Ext.setCell ?_ (by omega) _) | (with_reducible refine Ext.trans ?_ (by with_reducible assumption))))))
               clear hK K hHeld
               have hHeld := hNew
               clear hNew
               (try simp only [Act.put, List.getElem_toArray, List.getElem_cons_succ, List.getElem_cons_zero, List.setIfInBounds_toArray, List.set_cons_zero, List.set_cons_succ])
             rotate_left
             exact AllReadyH.nil)
          | (refine wpAnyH_ready (rs := [6]) (by decide +kernel) (by simp) ?_
             refine AllReadyH.cons rfl (fun K hK => ?_) ?_
             focus
               (have hcur := Lib.hid hHeld.2; have hszc := hcur.out.size; have hgAl := hflA.lt; have hgBl := hflB.lt; have hbz := (BoxN.keepTo hcur hbA (by (repeat (first | exact Ext.refl _ | (with_reducible assumption) | (with_reducible refine Ext.drew ?_) | (with_reducible refine Ext.alloc ?_ _) | (with_reducible refine Ext.drewN ?_ _) | (with_reducible refine Ext.setCell ?_ (by omega) _) | (with_reducible refine Ext.trans ?_ (by with_reducible assumption)))))).to hcur.out (by omega); have hbw := (BoxN.keepTo hcur hbB (by (repeat (first | exact Ext.refl _ | (with_reducible assumption) | (with_reducible refine Ext.drew ?_) | (with_reducible refine Ext.alloc ?_ _) | (with_reducible refine Ext.drewN ?_ _) | (with_reducible refine Ext.setCell ?_ (by omega) _) | (with_reducible refine Ext.trans ?_ (by with_reducible assumption)))))).to hcur.out (by omega); have hfz := FldsAt.keepTo hcur hflA (by (repeat (first | exact Ext.refl _ | (with_reducible assumption) | (with_reducible refine Ext.drew ?_) | (with_reducible refine Ext.alloc ?_ _) | (with_reducible refine Ext.drewN ?_ _) | (with_reducible refine Ext.setCell ?_ (by omega) _) | (with_reducible refine Ext.trans ?_ (by with_reducible assumption))))); have hfw := FldsAt.keepTo hcur hflB (by (repeat (first | exact Ext.refl _ | (with_reducible assumption) | (with_reducible refine Ext.drew ?_) | (with_reducible refine Ext.alloc ?_ _) | (with_reducible refine Ext.drewN ?_ _) | (with_reducible refine Ext.setCell ?_ (by omega) _) | (with_reducible refine Ext.trans ?_ (by with_reducible assumption))))); have z0 := hbz.cells 0 _ rfl; have z1 := hbz.cells 1 _ rfl; have z2 := hbz.cells 2 _ rfl; have z3 := hbz.cells 3 _ rfl; have zf := hbz.fr; go_simp; refine store4_gen (F := K _) hbz ?_; intro w6 hb6 hk6; have hx6 := hk6.toExt hcur.out (fun j hj => by omega); have hbw6 := hbw.kp hk6 (by omega) (fun j hj => by omega); have hfz6 := hfz.kp hk6 (by omega); have hfw6 := hfw.kp hk6 (by omega); have hb6' := hb6; clear z0 z1 z2 z3 zf hbz hbw hfz hfw)
               refine hK.out _ _ ?_ (fun hNew => ?_)
               focus ((try dsimp only); (refine HS1.out _ ?_; (repeat (first | exact Ext.refl _ | (with_reducible assumption) | (with_reducible refine Ext.drew ?_) | (with_reducible refine Ext.alloc ?_ _) | (with_reducible refine Ext.drewN ?_ _) | (with_reducible refine Ext.setCell ?_ (by omega) _) | (with_reducible refine Ext.trans ?_ (by with_reducible assumption))))))
               clear hK K hHeld
               have hHeld := hNew
               clear hNew
               (try simp only [Act.put, List.getElem_toArray, List.getElem_cons_succ, List.getElem_cons_zero, List.setIfInBounds_toArray, List.set_cons_zero, List.set_cons_succ])
             rotate_left
             exact AllReadyH.nil)
          | (refine wpAnyH_ready (rs := [7]) (by decide +kernel) (by simp) ?_
             refine AllReadyH.cons rfl (fun K hK => ?_) ?_
             focus
               (have z0 := hbw6.cells 0 _ rfl; have z1 := hbw6.cells 1 _ rfl; have z2 := hbw6.cells 2 _ rfl; have z3 := hbw6.cells 3 _ rfl; have zf := hbw6.fr; go_simp; refine store4_gen (F := K _) hbw6 ?_; intro w7 hb7 hk7; have hx7 := hk7.toExt hx6 (fun j hj => by omega); have hb7' := hb7; have hbA7 := hb6'.kp hk7 (by omega) (fun j hj => by omega); have hfA7 := hfz6.kp hk7 (by omega); have hfB7 := hfw6.kp hk7 (by omega); clear z0 z1 z2 z3 zf)
               refine hK.out _ _ ?_ (fun hNew => ?_)
               focus ((try dsimp only); (refine HS1.out _ ?_; (repeat (first | exact Ext.refl _ | (with_reducible assumption) | (with_reducible refine Ext.drew ?_) | (with_reducible refine Ext.alloc ?_ _) | (with_reducible refine Ext.drewN ?_ _) | (with_reducible refine Ext.setCell ?_ (by omega) _) | (with_reducible refine Ext.trans ?_ (by with_reducible assumption))))))
               clear hK K hHeld
               have hHeld := hNew
               clear hNew
               (try simp only [Act.put, List.getElem_toArray, List.getElem_cons_succ, List.getElem_cons_zero, List.setIfInBounds_toArray, List.set_cons_zero, List.set_cons_succ])
             rotate_left
             exact AllReadyH.nil)
          | (refine wpAnyH_done (by decide +kernel) ?_ _)
          | fail)
        all_goals
          have HT7 := Lib.hid (TwoC.mk hbA7 hb7' hfA7 hfB7 (by omega) (by omega) (by omega) (by omega) (by omega) (by omega) (by omega) (by omega) hqA hqB hx7)
          clear hbA7 hb7' hfA7 hfB7
          go_wp2_with fail
          go_meet
          exact ⟨_, _, _, _, _, _, rfl, rfl, HT7.out⟩
      case rest =>
        obtain ⟨A, B, gA, qA, gB, qB, rfl, rfl, h2⟩ := hcut
        obtain ⟨w5, rfl⟩ : ∃ x, x = wc := ⟨_, rfl⟩
        have X5 : Ext w w5 := X1.trans h2.ext
        obtain ⟨⟨p0, p1, p2, p3⟩, -⟩ := HS1.out w5 h2.ext
        have hHA := Lib.hid h2.fA
        have hHB := Lib.hid h2.fB
        have a0 := h2.bA.cells 0 _ rfl
        have a1' := h2.bA.cells 1 _ rfl
        have a2' := h2.bA.cells 2 _ rfl
        have a3 := h2.bA.cells 3 _ rfl
        have b0 := h2.bB.cells 0 _ rfl
        have b1 := h2.bB.cells 1 _ rfl
        have b2 := h2.bB.cells 2 _ rfl
        have b3 := h2.bB.cells 3 _ rfl
        have m9 := X5.keep hm9
        have d1 := h2.aA; have d2 := h2.aB; have d3 := h2.bA'; have d4 := h2.bB'; have d5 := h2.gg; have d6 := h2.wA; have d7 := h2.wB
        have hqA := h2.nA; have hqB := h2.nB
        have hlb : b < w.heap.size := lt_of_cell hm9
        have hlw : w.heap.size ≤ w1.heap.size := by omega
        have HS5 : Hid (∀ w', KP (fun j => j = gA ∨ j = gB) w5 w' → (w'.cell? ⟨w.heap.size, 3, none⟩ = some (.slice (some ⟨b, off, none⟩) n2 c2) ∧ w'.cell? ⟨A, 3, none⟩ = some (.slice (some ⟨gA, 0, none⟩) n2 qA) ∧ w'.cell? ⟨B, 3, none⟩ = some (.slice (some ⟨gB, 0, none⟩) n2 qB) ∧ w'.cell? ⟨b, off + k * 9 + 2, none⟩ = some (.int .i64 ne)) ∧ KP (fun j => j = gA ∨ j = gB) w5 w') := Lib.hid (fun w' hk => ⟨⟨hk.keep (by omega) p3, hk.keep (by omega) a3, hk.keep (by omega) b3, hk.keep (by omega) m9⟩, hk⟩)
        have HR5 : Hid (∀ w', KP (fun j => j = gA ∨ j = gB) w5 w' → Ext w w' ∧ (w'.cell? ⟨w.heap.size, 0, none⟩ = some (.slice a1 n1 c1) ∧ w'.cell? ⟨w.heap.size, 1, none⟩ = some (.int .i64 day) ∧ w'.cell? ⟨w.heap.size, 2, none⟩ = some (.int .i64 fee) ∧ w'.cell? ⟨w.heap.size, 3, none⟩ = some (.slice (some ⟨b, off, none⟩) n2 c2)) ∧ (w'.cell? ⟨A, 0, none⟩ = some (.slice a1 n1 c1) ∧ w'.cell? ⟨A, 1, none⟩ = some (.int .i64 day) ∧ w'.cell? ⟨A, 2, none⟩ = some (.int .i64 fee) ∧ w'.cell? ⟨A, 3, none⟩ = some (.slice (some ⟨gA, 0, none⟩) n2 qA)) ∧ w'.cell? ⟨B, 0, none⟩ = some (.slice a1 n1 c1) ∧ w'.cell? ⟨B, 1, none⟩ = some (.int .i64 day) ∧ w'.cell? ⟨B, 2, none⟩ = some (.int .i64 fee) ∧ w'.cell? ⟨B, 3, none⟩ = some (.slice (some ⟨gB, 0, none⟩) n2 qB)) := Lib.hid (fun w' hk => ⟨hk.toExt X5 (fun j hj => by omega), ⟨hk.keep (by omega) p0, hk.keep (by omega) p1, hk.keep (by omega) p2, hk.keep (by omega) p3⟩, ⟨hk.keep (by omega) a0, hk.keep (by omega) a1', hk.keep (by omega) a2', hk.keep (by omega) a3⟩, hk.keep (by omega) b0, hk.keep (by omega) b1, hk.keep (by omega) b2, hk.keep (by omega) b3⟩)
        clear h2 p0 p1 p2 p3 a0 a1' a2' a3 b0 b1 b2 b3 m9 HS1 X5 q0 q1 q2 q3 HCH X1
        go_wp2_with fail
        refine wp_region_held_drew (S := (fun w' => (w'.cell? ⟨w.heap.size, 3, none⟩ = some (.slice (some ⟨b, off, none⟩) n2 c2) ∧ w'.cell? ⟨A, 3, none⟩ = some (.slice (some ⟨gA, 0, none⟩) n2 qA) ∧ w'.cell? ⟨B, 3, none⟩ = some (.slice (some ⟨gB, 0, none⟩) n2 qB) ∧ w'.cell? ⟨b, off + k * 9 + 2, none⟩ = some (.int .i64 ne)) ∧ KP (fun j => j = gA ∨ j = gB) w5 w')) (by kernel_rfl) ?_ (fun hHeld => ?_)
        focus ((try dsimp only); (refine HS5.out _ ?_; (first | with_reducible assumption | exact (KP.refl _).drew)))
        refine wpAnyH_take (i := 0) (v := ?_) rfl (by kernel_rfl) (by decide +kernel) (by decide +kernel) (fun _ _ _ h => h) (Or.inl ⟨by rfl, ?_⟩) (by assumption) ?_
        rotate_left
        focus (intro w hSw; (try dsimp only at hSw); go_simp; try (with_reducible rfl))
        (try simp only [Act.put, List.getElem_toArray, List.getElem_cons_succ, List.getElem_cons_zero, List.setIfInBounds_toArray, List.set_cons_zero, List.set_cons_succ])
        refine wpAnyH_take (i := 1) (v := ?_) rfl (by kernel_rfl) (by decide +kernel) (by decide +kernel) (fun _ _ _ h => h) (Or.inl ⟨by rfl, ?_⟩) (by assumption) ?_
        rotate_left
        focus (intro w hSw; (try dsimp only at hSw); go_simp; try (with_reducible rfl))
        (try simp only [Act.put, List.getElem_toArray, List.getElem_cons_succ, List.getElem_cons_zero, List.setIfInBounds_toArray, List.set_cons_zero, List.set_cons_succ])
        refine wpAnyH_take (i := 2) (v := ?_) rfl (by kernel_rfl) (by decide +kernel) (by decide +kernel) (fun _ _ _ h => h) (Or.inl ⟨by rfl, ?_⟩) (by assumption) ?_
        rotate_left
        focus (intro w hSw; (try dsimp only at hSw); go_simp; try (with_reducible rfl))
        (try simp only [Act.put, List.getElem_toArray, List.getElem_cons_succ, List.getElem_cons_zero, List.setIfInBounds_toArray, List.set_cons_zero, List.set_cons_succ])
        refine wpAnyH_take (i := 3) (v := ?_) rfl (by kernel_rfl) (by decide +kernel) (by decide +kernel) (fun _ _ _ h => h) (Or.inl ⟨by rfl, ?_⟩) (by assumption) ?_
        rotate_left
        focus (intro w hSw; (try dsimp only at hSw); go_simp; try (with_reducible rfl))
        (try simp only [Act.put, List.getElem_toArray, List.getElem_cons_succ, List.getElem_cons_zero, List.setIfInBounds_toArray, List.set_cons_zero, List.set_cons_succ])
        refine wpAnyH_take (i := 4) (v := ?_) rfl (by kernel_rfl) (by decide +kernel) (by decide +kernel) (fun _ _ _ h => h) (Or.inl ⟨by rfl, ?_⟩) (by assumption) ?_
        rotate_left
        focus (intro w hSw; (try dsimp only at hSw); go_simp; try (with_reducible rfl))
        (try simp only [Act.put, List.getElem_toArray, List.getElem_cons_succ, List.getElem_cons_zero, List.setIfInBounds_toArray, List.set_cons_zero, List.set_cons_succ])
        refine wpAnyH_take (i := 5) (v := ?_) rfl (by kernel_rfl) (by decide +kernel) (by decide +kernel) (fun _ _ _ h => h) (Or.inl ⟨by rfl, ?_⟩) (by assumption) ?_
        rotate_left
        focus (intro w hSw; (try dsimp only at hSw); go_simp; try (with_reducible rfl))
        (try simp only [Act.put, List.getElem_toArray, List.getElem_cons_succ, List.getElem_cons_zero, List.setIfInBounds_toArray, List.set_cons_zero, List.set_cons_succ])
        refine wpAnyH_take (i := 6) (v := ?_) rfl (by kernel_rfl) (by decide +kernel) (by decide +kernel) (fun _ _ _ h => h) (Or.inl ⟨by rfl, ?_⟩) (by assumption) ?_
        rotate_left
        focus (intro w hSw; (try dsimp only at hSw); go_simp; try (with_reducible rfl))
        (try simp only [Act.put, List.getElem_toArray, List.getElem_cons_succ, List.getElem_cons_zero, List.setIfInBounds_toArray, List.set_cons_zero, List.set_cons_succ])
        refine wpAnyH_take (i := 7) (v := ?_) rfl (by kernel_rfl) (by decide +kernel) (by decide +kernel) (fun _ _ _ h => h) (Or.inl ⟨by rfl, ?_⟩) (by assumption) ?_
        rotate_left
        focus (intro w hSw; (try dsimp only at hSw); go_simp; try (with_reducible rfl))
        (try simp only [Act.put, List.getElem_toArray, List.getElem_cons_succ, List.getElem_cons_zero, List.setIfInBounds_toArray, List.set_cons_zero, List.set_cons_succ])
        refine wpAnyH_take (i := 8) (v := ?_) rfl (by kernel_rfl) (by decide +kernel) (by decide +kernel) (fun _ _ _ h => h) (Or.inl ⟨by rfl, ?_⟩) (by assumption) ?_
        rotate_left
        focus (intro w hSw; (try dsimp only at hSw); go_simp; try (with_reducible rfl))
        (try simp only [Act.put, List.getElem_toArray, List.getElem_cons_succ, List.getElem_cons_zero, List.setIfInBounds_toArray, List.set_cons_zero, List.set_cons_succ])
        refine wpAnyH_take (i := 9) (v := ?_) rfl (by kernel_rfl) (by decide +kernel) (by decide +kernel) (fun _ _ _ h => h) (Or.inl ⟨by rfl, ?_⟩) (by assumption) ?_
        rotate_left
        focus (intro w hSw; (try dsimp only at hSw); go_simp; try (with_reducible rfl))
        (try simp only [Act.put, List.getElem_toArray, List.getElem_cons_succ, List.getElem_cons_zero, List.setIfInBounds_toArray, List.set_cons_zero, List.set_cons_succ])
        refine wpAnyH_take (i := 10) (v := ?_) rfl (by kernel_rfl) (by decide +kernel) (by decide +kernel) (fun _ _ _ h => h) (Or.inl ⟨by rfl, ?_⟩) (by assumption) ?_
        rotate_left
        focus (intro w hSw; (try dsimp only at hSw); go_simp; try (with_reducible rfl))
        (try simp only [Act.put, List.getElem_toArray, List.getElem_cons_succ, List.getElem_cons_zero, List.setIfInBounds_toArray, List.set_cons_zero, List.set_cons_succ])
        refine wpAnyH_take (i := 11) (v := ?_) rfl (by kernel_rfl) (by decide +kernel) (by decide +kernel) (fun _ _ _ h => h) (Or.inl ⟨by rfl, ?_⟩) (by assumption) ?_
        rotate_left
        focus (intro w hSw; (try dsimp only at hSw); go_simp; try (with_reducible rfl))
        (try simp only [Act.put, List.getElem_toArray, List.getElem_cons_succ, List.getElem_cons_zero, List.setIfInBounds_toArray, List.set_cons_zero, List.set_cons_succ])
        refine wpAnyH_take (i := 12) (v := ?_) rfl (by kernel_rfl) (by decide +kernel) (by decide +kernel) (fun _ _ _ h => h) (Or.inl ⟨by rfl, ?_⟩) (by assumption) ?_
        rotate_left
        focus (intro w hSw; (try dsimp only at hSw); go_simp; try (with_reducible rfl))
        (try simp only [Act.put, List.getElem_toArray, List.getElem_cons_succ, List.getElem_cons_zero, List.setIfInBounds_toArray, List.set_cons_zero, List.set_cons_succ])
        refine wpAnyH_take (i := 13) (v := ?_) rfl (by kernel_rfl) (by decide +kernel) (by decide +kernel) (fun _ _ _ h => h) (Or.inl ⟨by rfl, ?_⟩) (by assumption) ?_
        rotate_left
        focus (intro w hSw; (try dsimp only at hSw); go_simp; try (with_reducible rfl))
        (try simp only [Act.put, List.getElem_toArray, List.getElem_cons_succ, List.getElem_cons_zero, List.setIfInBounds_toArray, List.set_cons_zero, List.set_cons_succ])
        refine wpAnyH_take (i := 14) (v := ?_) rfl (by kernel_rfl) (by decide +kernel) (by decide +kernel) (fun _ _ _ h => h) (Or.inl ⟨by rfl, ?_⟩) (by assumption) ?_
        rotate_left
        focus (intro w hSw; (try dsimp only at hSw); go_simp; try (with_reducible rfl))
        (try simp only [Act.put, List.getElem_toArray, List.getElem_cons_succ, List.getElem_cons_zero, List.setIfInBounds_toArray, List.set_cons_zero, List.set_cons_succ])
        refine wpAnyH_take (i := 15) (v := ?_) rfl (by kernel_rfl) (by decide +kernel) (by decide +kernel) (fun _ _ _ h => h) (Or.inl ⟨by rfl, ?_⟩) (by assumption) ?_
        rotate_left
        focus (intro w hSw; (try dsimp only at hSw); go_simp; try (with_reducible rfl))
        (try simp only [Act.put, List.getElem_toArray, List.getElem_cons_succ, List.getElem_cons_zero, List.setIfInBounds_toArray, List.set_cons_zero, List.set_cons_succ])
        repeat' (first
          | (refine wpAnyH_take (i := 17) (v := ?_) rfl (by kernel_rfl) (by decide +kernel) (by decide +kernel) (fun _ _ _ h => h) (Or.inl ⟨by rfl, ?_⟩) (by assumption) ?_
             rotate_left
             focus (intro w hSw; (try dsimp only at hSw); go_simp; try (with_reducible rfl))
             (try simp only [Act.put, List.getElem_toArray, List.getElem_cons_succ, List.getElem_cons_zero, List.setIfInBounds_toArray, List.set_cons_zero, List.set_cons_succ]))
          | (refine wpAnyH_take (i := 18) (v := ?_) rfl (by kernel_rfl) (by decide +kernel) (by decide +kernel) (fun _ _ _ h => h) (Or.inl ⟨by rfl, ?_⟩) (by assumption) ?_
             rotate_left
             focus (intro w hSw; (try dsimp only at hSw); go_simp; try (with_reducible rfl))
             (try simp only [Act.put, List.getElem_toArray, List.getElem_cons_succ, List.getElem_cons_zero, List.setIfInBounds_toArray, List.set_cons_zero, List.set_cons_succ]))
          | (refine wpAnyH_take (i := 20) (v := ?_) rfl (by kernel_rfl) (by decide +kernel) (by decide +kernel) (fun _ _ _ h => h) (Or.inl ⟨by rfl, ?_⟩) (by assumption) ?_
             rotate_left
             focus (intro w hSw; (try dsimp only at hSw); go_simp; try (with_reducible rfl))
             (try simp only [Act.put, List.getElem_toArray, List.getElem_cons_succ, List.getElem_cons_zero, List.setIfInBounds_toArray, List.set_cons_zero, List.set_cons_succ]))
          | (refine wpAnyH_take (i := 21) (v := ?_) rfl (by kernel_rfl) (by decide +kernel) (by decide +kernel) (fun _ _ _ h => h) (Or.inl ⟨by rfl, ?_⟩) (by assumption) ?_
             rotate_left
             focus (intro w hSw; (try dsimp only at hSw); go_simp; try (with_reducible rfl))
             (try simp only [Act.put, List.getElem_toArray, List.getElem_cons_succ, List.getElem_cons_zero, List.setIfInBounds_toArray, List.set_cons_zero, List.set_cons_succ]))
          | (refine wpAnyH_ready (rs := [16]) (by decide +kernel) (by simp) ?_
             refine AllReadyH.cons rfl (fun K hK => ?_) ?_
             focus
               go_simp
               refine hK.out _ _ ?_ (fun hNew => ?_)
               focus ((try dsimp only); (refine HS5.out _ ?_; (first | with_reducible assumption | exact (KP.refl _).drew)))
               clear hK K hHeld
               have hHeld := hNew
               clear hNew
               (try simp only [Act.put, List.getElem_toArray, List.getElem_cons_succ, List.getElem_cons_zero, List.setIfInBounds_toArray, List.set_cons_zero, List.set_cons_succ])
             rotate_left
             exact AllReadyH.nil)
          | (refine wpAnyH_ready (rs := [19]) (by decide +kernel) (by simp) ?_
             refine AllReadyH.cons rfl (fun K hK => ?_) ?_
             focus
               (have hfd := hHA.out; obtain ⟨-, -, n2', -⟩ := HAT.out _ _ hfd; have nf := hfd.fr; go_simp; have hp := (HPX.out _ _ hfd).ext ((Ext.refl _).drew); have hkp := (KP.one (T := gA) (i := k * 9 + 2) (w := w5) (.int .i64 nx)).drew; generalize (w5.setCell ⟨gA, k * 9 + 2, none⟩ (.int .i64 nx)).drew = w6 at *; have hkw : KP (fun j => j = gA ∨ j = gB) w5 w6 := hkp.mono' (fun j hj => .inl hj); have hHB6 := Lib.hid (FldsAt.kp hHB.out hkp (Ne.symm d5)); clear hfd n2' nf hkp)
               refine hK.out _ _ ?_ (fun hNew => ?_)
               focus ((try dsimp only); (refine HS5.out _ ?_; (first | with_reducible assumption | exact (KP.refl _).drew)))
               clear hK K hHeld
               have hHeld := hNew
               clear hNew
               (try simp only [Act.put, List.getElem_toArray, List.getElem_cons_succ, List.getElem_cons_zero, List.setIfInBounds_toArray, List.set_cons_zero, List.set_cons_succ])
             rotate_left
             exact AllReadyH.nil)
          | (refine wpAnyH_ready (rs := [22]) (by decide +kernel) (by simp) ?_
             refine AllReadyH.cons rfl (fun K hK => ?_) ?_
             focus
               (obtain ⟨-, -, n2', -⟩ := HAT.out _ _ hHB6.out; have nf := hHB6.out.fr; go_simp; have hp2 := HPY.out _ _ hHB6.out; have hkp := KP.one (T := gB) (i := k * 9 + 2) (w := w6) (.int .i64 100); generalize w6.setCell ⟨gB, k * 9 + 2, none⟩ (.int .i64 100) = w7 at *; have hkw7 : KP (fun j => j = gA ∨ j = gB) w5 w7 := hkw.trans (hkp.mono' (fun j hj => .inr hj)); have hp7 := FldsAt.kp hp hkp d5; clear n2' nf hkp)
               refine hK.out _ _ ?_ (fun hNew => ?_)
               focus ((try dsimp only); (refine HS5.out _ ?_; (first | with_reducible assumption | exact (KP.refl _).drew)))
               clear hK K hHeld
               have hHeld := hNew
               clear hNew
               (try simp only [Act.put, List.getElem_toArray, List.getElem_cons_succ, List.getElem_cons_zero, List.setIfInBounds_toArray, List.set_cons_zero, List.set_cons_succ])
             rotate_left
             exact AllReadyH.nil)
          | (refine wpAnyH_done (by decide +kernel) ?_ _)
          | fail)
        all_goals
          obtain ⟨X7, ⟨p0, p1, p2, p3⟩, ⟨a0, a1', a2', a3⟩, b0, b1, b2, b3⟩ := HR5.out _ hkw7
          clear HS5 HR5 hkw hkw7 hp hHA hHB hHB6 HPX HPY HAT hmin
          go_wp2_with fail
          (with_reducible refine (HCA.out _ X7).mono ?_)
          rintro e w8 ⟨v8, rfl, hv, hx⟩
          have hy : Ext w7 w8 := by (repeat (first | exact Ext.refl _ | (with_reducible assumption) | (with_reducible refine Ext.drew ?_) | (with_reducible refine Ext.alloc ?_ _) | (with_reducible refine Ext.drewN ?_ _) | (with_reducible refine Ext.setCell ?_ (by omega) _) | (with_reducible refine Ext.trans ?_ (by with_reducible assumption))))
          replace X7 := X7.trans hy
          replace a0 := hy.keep a0
          replace a1' := hy.keep a1'
          replace a2' := hy.keep a2'
          replace a3 := hy.keep a3
          replace b0 := hy.keep b0
          replace b1 := hy.keep b1
          replace b2 := hy.keep b2
          replace b3 := hy.keep b3
          replace hp7 := hp7.ext hy
          replace hp2 := hp2.ext hy
          clear hx hy
          go_wp2_with fail
          (with_reducible refine (HL.out _ _ hv).mono ?_)
          rintro e w9 ⟨rfl, hx⟩
          have hy : Ext w8 w9 := by (repeat (first | exact Ext.refl _ | (with_reducible assumption) | (with_reducible refine Ext.drew ?_) | (with_reducible refine Ext.alloc ?_ _) | (with_reducible refine Ext.drewN ?_ _) | (with_reducible refine Ext.setCell ?_ (by omega) _) | (with_reducible refine Ext.trans ?_ (by with_reducible assumption))))
          replace X7 := X7.trans hy
          replace a0 := hy.keep a0
          replace a1' := hy.keep a1'
          replace a2' := hy.keep a2'
          replace a3 := hy.keep a3
          replace b0 := hy.keep b0
          replace b1 := hy.keep b1
          replace b2 := hy.keep b2
          replace b3 := hy.keep b3
          replace hp7 := hp7.ext hy
          replace hp2 := hp2.ext hy
          clear hx hy
          clear hv p0 p1 p2 p3
          go_wp2_with fail
          (with_reducible refine (HCX1.out _ _ _ hp7 hqA X7).mono ?_)
          rintro e w10 ⟨v10, rfl, hv, hx⟩
          have hy : Ext w9 w10 := by (repeat (first | exact Ext.refl _ | (with_reducible assumption) | (with_reducible refine Ext.drew ?_) | (with_reducible refine Ext.alloc ?_ _) | (with_reducible refine Ext.drewN ?_ _) | (with_reducible refine Ext.setCell ?_ (by omega) _) | (with_reducible refine Ext.trans ?_ (by with_reducible assumption))))
          replace X7 := X7.trans hy
          replace b0 := hy.keep b0
          replace b1 := hy.keep b1
          replace b2 := hy.keep b2
          replace b3 := hy.keep b3
          replace hp2 := hp2.ext hy
          clear hx hy
          clear hp7 a0 a1' a2' a3
          go_wp2_with fail
          (with_reducible refine (HLX1.out _ _ hv).mono ?_)
          rintro e w11 ⟨rfl, hx⟩
          have hy : Ext w10 w11 := by (repeat (first | exact Ext.refl _ | (with_reducible assumption) | (with_reducible refine Ext.drew ?_) | (with_reducible refine Ext.alloc ?_ _) | (with_reducible refine Ext.drewN ?_ _) | (with_reducible refine Ext.setCell ?_ (by omega) _) | (with_reducible refine Ext.trans ?_ (by with_reducible assumption))))
          replace X7 := X7.trans hy
          replace b0 := hy.keep b0
          replace b1 := hy.keep b1
          replace b2 := hy.keep b2
          replace b3 := hy.keep b3
          replace hp2 := hp2.ext hy
          clear hx hy
          clear hv
          go_wp2_with fail
          (with_reducible refine (HCY1.out _ _ _ hp2 hqB X7).mono ?_)
          rintro e w12 ⟨v12, rfl, hv, hx⟩
          have hy : Ext w11 w12 := by (repeat (first | exact Ext.refl _ | (with_reducible assumption) | (with_reducible refine Ext.drew ?_) | (with_reducible refine Ext.alloc ?_ _) | (with_reducible refine Ext.drewN ?_ _) | (with_reducible refine Ext.setCell ?_ (by omega) _) | (with_reducible refine Ext.trans ?_ (by with_reducible assumption))))
          replace X7 := X7.trans hy
          clear hx hy
          clear hp2 b0 b1 b2 b3
          go_wp2_with fail
          (with_reducible refine (HLY1.out _ _ hv).mono ?_)
          rintro e w13 ⟨rfl, hx⟩
          have hy : Ext w12 w13 := by (repeat (first | exact Ext.refl _ | (with_reducible assumption) | (with_reducible refine Ext.drew ?_) | (with_reducible refine Ext.alloc ?_ _) | (with_reducible refine Ext.drewN ?_ _) | (with_reducible refine Ext.setCell ?_ (by omega) _) | (with_reducible refine Ext.trans ?_ (by with_reducible assumption))))
          replace X7 := X7.trans hy
          clear hx hy
          clear hv
          have HW : Hid ((cv = 1 ∧ cvx = 1) ∨ (cv = 1 ∧ cvx = 2) ∨ (cv = 1 ∧ cvx = 3) ∨ (cv = 2 ∧ cvx = 2) ∨ (cv = 3 ∧ cvx = 2) ∨ (cv = 3 ∧ cvx = 3)) := Lib.hid (by
            have g1 := HST.out
            have g2 := HBE.out
            have g3 := HV1.out
            have g4 := HV2.out
            omega)
          clear HST HBE HV1 HV2
          rcases HW.out with ⟨rfl, rfl⟩ | ⟨rfl, rfl⟩ | ⟨rfl, rfl⟩ | ⟨rfl, rfl⟩ | ⟨rfl, rfl⟩ | ⟨rfl, rfl⟩
          all_goals
            clear HW
            go_wp2_with fail
            (with_reducible refine (HAW.out _).mono ?_)
            rintro e w14 ⟨rfl, hx⟩
            have hy : Ext w13 w14 := by (repeat (first | exact Ext.refl _ | (with_reducible assumption) | (with_reducible refine Ext.drew ?_) | (with_reducible refine Ext.alloc ?_ _) | (with_reducible refine Ext.drewN ?_ _) | (with_reducible refine Ext.setCell ?_ (by omega) _) | (with_reducible refine Ext.trans ?_ (by with_reducible assumption))))
            replace X7 := X7.trans hy
            clear hx hy
            go_wp2_with fail
            go_ret
            exact ⟨rfl, X7⟩
end Go.Proofs.YtbmjnilcinfdiaaGreat
