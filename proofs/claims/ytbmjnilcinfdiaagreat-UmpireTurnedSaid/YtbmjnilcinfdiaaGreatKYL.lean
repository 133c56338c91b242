/- The walk of UmpireTurned. Printed by gen_yl.py. -/
import Derived.Test.YtbmjnilcinfdiaaGreatKXK
set_option linter.unusedSimpArgs false
set_option linter.unusedVariables false
namespace Go.Proofs.YtbmjnilcinfdiaaGreat
open Go.RowKit Go.Hs
attribute [local irreducible] World.setCell World.alloc

set_option maxRecDepth 100000 in
set_option maxHeartbeats 16000000 in
theorem walk_UmpireTurned (v : Value) (c : Cas) (aw : Option Addr) (nw cw : Nat) (ws : List Int) (w : World) (hv : CasW w v c) (hw : U8sW w (.slice aw nw cw) ws) :
    Calls Tryz.prog 8 #[v, .slice aw nw cw] w fun e w' => e = .returned (.bool true) ∧ Ext w w' := by
  have HAW := Lib.hid awakeU_any
  have HRD : Hid (∀ W, Ext w W → Calls Tryz.prog 32 #[v] W fun e w' => e = .returned (.bool (readyB c)) ∧ Ext W w') := Lib.hid (fun W hx => readyU_any c v W (hv.ext hx))
  have HV := Lib.hid hv
  obtain ⟨vt, vf, rfl, ht, hf, -, -⟩ := hv
  obtain ⟨a1, c1, rfl, -⟩ := id ht
  obtain ⟨a2, c2, rfl, -⟩ := id hf
  clear ht hf
  cases hr : readyB c with
  | false =>
    rw [hr] at HRD
    clear HV hr hw
    generalize c.tars.length = n1 at *
    generalize c.flds.length = n2 at *
    generalize c.day = day at *
    generalize c.fee = fee at *
    go_enter Tryz.func8, Tryz.ntmps8
    go_wp2_with fail
    (with_reducible refine (HRD.out _ (by (repeat (first | exact Ext.refl _ | (with_reducible assumption) | (with_reducible refine Ext.drew ?_) | (with_reducible refine Ext.alloc ?_ _) | (with_reducible refine Ext.drewN ?_ _) | (with_reducible refine Ext.setCell ?_ (by omega) _) | (with_reducible refine Ext.trans ?_ (by with_reducible assumption)))))).mono ?_)
    rintro e w1 ⟨rfl, hx1⟩
    go_wp2_with fail
    (with_reducible refine (HAW.out _).mono ?_)
    rintro e w2 ⟨rfl, hx2⟩
    go_wp2_with fail
    go_ret
    exact ⟨rfl, by (repeat (first | exact Ext.refl _ | (with_reducible assumption) | (with_reducible refine Ext.drew ?_) | (with_reducible refine Ext.alloc ?_ _) | (with_reducible refine Ext.drewN ?_ _) | (with_reducible refine Ext.setCell ?_ (by omega) _) | (with_reducible refine Ext.trans ?_ (by with_reducible assumption))))⟩
  | true =>
    rw [hr] at HRD
    obtain ⟨htc, hce⟩ := ready_true hr
    have htt := thinCas_tars htc
    have hcv := HV.out.toV htc
    have hok := caseE_zero hce
    have h0 := caseE_tars hce
    have hn3 := hok.few
    have htr := picked_truth hok ws
    have hpl := picked_play hce htr
    obtain ⟨htl, htx⟩ := truthOf_iff.1 htr
    have HPI : Hid (∀ W, Ext w W → Calls Tryz.prog 38 #[.agg #[.slice a1 c.tars.length c1, .int .i64 c.day, .int .i64 c.fee, .slice a2 c.flds.length c2], .slice aw nw cw] W fun e w' => ∃ a q, e = .returned (.slice a c.flds.length q) ∧ ThrsV w' (.slice a c.flds.length q) (pickedS c ws) ∧ (∀ g o, a = some ⟨g, o, none⟩ → W.heap.size ≤ g) ∧ Ext W w') := Lib.hid (fun W hx => pickedU_new c _ ws aw nw cw W (hcv.ext hx) hok (hw.ext hx))
    have HLEN : Hid ((countsT c.flds (pickedS c ws)).length = c.flds.length) := Lib.hid (countsT_len htl)
    have HCA : Hid (∀ W, Ext w W → Calls Tryz.prog 18 #[.agg #[.slice a1 c.tars.length c1, .int .i64 c.day, .int .i64 c.fee, .slice a2 c.flds.length c2]] W fun e w' => ∃ v', e = .returned v' ∧ CasV w' v' c ∧ Ext W w') := Lib.hid (fun W hx => Case_any c _ W (hcv.ext hx) htt)
    have HTR : Hid (∀ v' W, ThrsV W v' (pickedS c ws) → Calls Tryz.prog 37 #[v'] W fun e w' => ∃ v', e = .returned v' ∧ ThrsV w' v' (pickedS c ws) ∧ Ext W w') := Lib.hid (fun v' W h => TruthL_any _ v' W h)
    have HPL : Hid (∀ v' u' W, CasV W v' c → ThrsV W u' (pickedS c ws) → Calls Tryz.prog 36 #[v', u'] W fun e w' => ∃ a q, e = .returned (.tuple #[.agg #[.slice a c.flds.length q, .int .i64 (sumT c c.flds (pickedS c ws)).award, .int .i64 (feeA c.fee (sumT c c.flds (pickedS c ws))), .int .i64 (feeB c.fee (sumT c c.flds (pickedS c ws)))], .int .i64 0]) ∧ IntsV w' (.slice a c.flds.length q) (countsT c.flds (pickedS c ws)) ∧ Ext W w') := Lib.hid (fun v' u' W h1 h2 => (Play_good c v' _ u' W h1 h2 hpl).mono (fun e w' ⟨r, he, a, q, hr, hi, hx⟩ => ⟨a, q, by rw [he, hr], hi, hx⟩))
    have hdE := turn_E hce
    have hdok := caseE_zero hdE
    have htru := turn_truth htr
    have hpl2 : playE c.turn ((pickedS c ws).map Thr.turn) = 0 := picked_play hdE htru
    have hlen2 : c.turn.flds.length = c.flds.length := by simp [Cas.turn, Cas.withF]
    have HCH : Hid (∀ W, Ext w W → Calls Tryz.prog 41 #[.agg #[.slice a1 c.tars.length c1, .int .i64 c.day, .int .i64 c.fee, .slice a2 c.flds.length c2]] W fun e w' => ∃ a q, e = .returned (.agg #[.slice a1 c.tars.length c1, .int .i64 c.day, .int .i64 c.fee, .slice a c.flds.length q]) ∧ (0 < c.flds.length → ∃ g, a = some ⟨g, 0, none⟩ ∧ FldsAt w' g c.flds ∧ W.heap.size ≤ g) ∧ c.flds.length ≤ q ∧ Ext W w') := Lib.hid (fun W hx => changedU_all c _ _ _ _ _ _ _ _ W (hcv.ext hx) rfl hn3)
    have HCX : Hid (∀ ax qx W, FldsV W (.slice ax c.flds.length qx) (c.flds.map Fld.turn) → Ext w W → Calls Tryz.prog 18 #[.agg #[.slice a1 c.tars.length c1, .int .i64 c.day, .int .i64 c.fee, .slice ax c.flds.length qx]] W fun e w' => ∃ v', e = .returned v' ∧ CasV w' v' c.turn ∧ Ext W w') := Lib.hid (fun ax qx W h hx => Case_any c.turn _ W (CasV.with hcv hx h) htt)
    have HTR2 : Hid (∀ v' W, ThrsV W v' ((pickedS c ws).map Thr.turn) → Calls Tryz.prog 37 #[v'] W fun e w' => ∃ v', e = .returned v' ∧ ThrsV w' v' ((pickedS c ws).map Thr.turn) ∧ Ext W w') := Lib.hid (fun v' W h => TruthL_any _ v' W h)
    have HPL2 : Hid (∀ v' u' W, CasV W v' c.turn → ThrsV W u' ((pickedS c ws).map Thr.turn) → Calls Tryz.prog 36 #[v', u'] W fun e w' => ∃ a q, e = .returned (.tuple #[.agg #[.slice a c.flds.length q, .int .i64 (sumT c c.flds (pickedS c ws)).award, .int .i64 (feeA c.fee (sumT c c.flds (pickedS c ws)).turn), .int .i64 (feeB c.fee (sumT c c.flds (pickedS c ws)).turn)], .int .i64 0]) ∧ IntsV w' (.slice a c.flds.length q) (countsT c.flds (pickedS c ws)) ∧ Ext W w') := Lib.hid (fun v' u' W h1 h2 => (Play_good c.turn v' _ u' W h1 h2 hpl2).mono (fun e w' ⟨r, he, a, q, hr, hi, hx⟩ => by
      rw [turn_sum, hlen2] at hr
      rw [hlen2, show c.turn.flds = c.flds.map Fld.turn from rfl, turn_counts] at hi
      exact ⟨a, q, by rw [he, hr]; rfl, hi, hx⟩))
    have HA := Lib.hid (fun v' W (h : CasV W v' c) => Award_good c v' W h hce)
    have HAX : Hid (∀ v' W, CasV W v' c.turn → Calls Tryz.prog 24 #[v'] W fun e w' => e = .returned (.tuple #[.agg #[.int .i64 (bLo c 0), .int .i64 (bHi c 0)], .int .i64 0]) ∧ Ext W w') := Lib.hid (fun v' W h => by
      have := Award_good c.turn v' W h hdE
      rw [(turn_award hce).1, (turn_award hce).2] at this
      exact this)
    have HM := Lib.hid (fun v' W (h : CasV W v' c) => Matters_good c v' W h hce)
    have HMX : Hid (∀ v' W, CasV W v' c.turn → Calls Tryz.prog 27 #[v'] W fun e w' => ∃ r, e = .returned (.tuple #[r, .int .i64 0]) ∧ IntsV w' r (mattersS c) ∧ Ext W w') := Lib.hid (fun v' W h => by
      have := Matters_good c.turn v' W h hdE
      rw [turn_matters] at this
      exact this)
    have hml : (mattersS c).length ≤ 1000 := by
      have := List.length_filter_le (fun i => matterB c (c.flds.getD i default)) (List.range c.flds.length)
      unfold mattersS
      simp only [List.length_map, List.length_range] at this ⊢
      omega
    have hcl3 : (countsT c.flds (pickedS c ws)).length ≤ 1000 := by rw [HLEN.out]; omega
    have HSM1 : Hid (∀ va vb W, IntsV W va (countsT c.flds (pickedS c ws)) → IntsV W vb (countsT c.flds (pickedS c ws)) → Calls Tryz.prog 21 #[va, vb] W fun e w' => e = .returned (.bool true) ∧ Ext W w') := Lib.hid (fun va vb W h1 h2 => sameI_same (countsT c.flds (pickedS c ws)) ▸ SameI_any va vb _ _ W h1 h2 hcl3 hcl3)
    have HSM2 : Hid (∀ va vb W, IntsV W va (mattersS c) → IntsV W vb (mattersS c) → Calls Tryz.prog 21 #[va, vb] W fun e w' => e = .returned (.bool true) ∧ Ext W w') := Lib.hid (fun va vb W h1 h2 => sameI_same (mattersS c) ▸ SameI_any va vb _ _ W h1 h2 hml hml)
    obtain ⟨hfs1, hfs2⟩ := turn_fees c.fee (sumT c c.flds (pickedS c ws)) hok.fee.1
    have hfa1 := feeA_bd hok.fee.1 (sumT c c.flds (pickedS c ws))
    have hfb1 := feeB_bd hok.fee.1 (sumT c c.flds (pickedS c ws))
    have hfa2 := feeA_bd hok.fee.1 (sumT c c.flds (pickedS c ws)).turn
    have hfb2 := feeB_bd hok.fee.1 (sumT c c.flds (pickedS c ws)).turn
    have hfee := hok.fee
    have HFA := Lib.hid (fun i (hi : i < c.flds.length) => hcv.fld_at hi)
    have HFO := Lib.hid hok.flds
    clear hcv hok h0 htr hpl htx hw HV hr htc hce htt hdE hdok htru hpl2 hlen2 hml hcl3
    generalize pickedS c ws = t at *
    generalize countsT c.flds t = cs at *
    generalize mattersS c = ms at *
    generalize sumT c c.flds t = sm at *
    generalize sm.award = A at *
    generalize feeA c.fee sm.turn = F2 at *
    generalize feeB c.fee sm.turn = S2 at *
    generalize feeA c.fee sm = F at *
    generalize feeB c.fee sm = S at *
    clear sm
    generalize bLo c 0 = u0 at *
    generalize bHi c 0 = t0 at *
    have hwD : IntKind.i64.wrap (F - S2) = F - S2 := IntWalk.i64_in _ (by omega)
    have hw1 : IntKind.i64.wrap (F + S) = F + S := IntWalk.i64_in _ (by omega)
    have hw2 : IntKind.i64.wrap (F2 + S2) = F2 + S2 := IntWalk.i64_in _ (by omega)
    have hw3 : IntKind.i64.wrap (S + 1) = S + 1 := IntWalk.i64_in _ (by omega)
    have hsm : (F + S == F2 + S2) = true := by simp [hfs2]
    have HFS := Lib.hid hfs1
    clear hfs1 hfs2 hfa1 hfa2 hfb1 hfb2 hfee
    obtain ⟨i3, hi3, hz30, hz31, hz32⟩ := info_parts info_rthree
    go_enter Tryz.func8, Tryz.ntmps8
    go_wp2_with fail
    have X : Ext w (w.alloc (.cells #[.slice a1 c.tars.length c1, .int .i64 c.day, .int .i64 c.fee, .slice a2 c.flds.length c2] 25)) := by (repeat (first | exact Ext.refl _ | (with_reducible assumption) | (with_reducible refine Ext.drew ?_) | (with_reducible refine Ext.alloc ?_ _) | (with_reducible refine Ext.drewN ?_ _) | (with_reducible refine Ext.setCell ?_ (by omega) _) | (with_reducible refine Ext.trans ?_ (by with_reducible assumption))))
    have HS : Hid (∀ w', Ext (w.alloc (.cells #[.slice a1 c.tars.length c1, .int .i64 c.day, .int .i64 c.fee, .slice a2 c.flds.length c2] 25)) w' → (w'.cell? ⟨w.heap.size, 0, none⟩ = some (.slice a1 c.tars.length c1) ∧ w'.cell? ⟨w.heap.size, 1, none⟩ = some (.int .i64 c.day) ∧ w'.cell? ⟨w.heap.size, 2, none⟩ = some (.int .i64 c.fee) ∧ w'.cell? ⟨w.heap.size, 3, none⟩ = some (.slice a2 c.flds.length c2)) ∧ Ext (w.alloc (.cells #[.slice a1 c.tars.length c1, .int .i64 c.day, .int .i64 c.fee, .slice a2 c.flds.length c2] 25)) w') := Lib.hid (fun w' hx => ⟨⟨hx.keep (by simp [go_sem]), hx.keep (by simp [go_sem]), hx.keep (by simp [go_sem]), hx.keep (by simp [go_sem])⟩, hx⟩)
    have HSf : Hid (∀ w', Ext (w.alloc (.cells #[.slice a1 c.tars.length c1, .int .i64 c.day, .int .i64 c.fee, .slice a2 c.flds.length c2] 25)) w' → ∀ o, w'.frozen? ⟨w.heap.size, o, none⟩ = false) := Lib.hid (fun w' hx o => (hx.frozen (by simp)).trans (by simp [go_sem]))
    have HSz : w.heap.size + 1 ≤ (w.alloc (.cells #[.slice a1 c.tars.length c1, .int .i64 c.day, .int .i64 c.fee, .slice a2 c.flds.length c2] 25)).heap.size := by simp
    generalize (w.alloc (.cells #[.slice a1 c.tars.length c1, .int .i64 c.day, .int .i64 c.fee, .slice a2 c.flds.length c2] 25)) = W at *
    (with_reducible refine (HRD.out _ X).mono ?_)
    rintro e w1 ⟨rfl, hx1⟩
    have X1 := X.trans hx1
    obtain ⟨q0, q1, q2, q3⟩ := (HS.out w1 hx1).1
    have hbw : w.heap.size < w1.heap.size := Nat.lt_of_lt_of_le HSz hx1.size
    clear X hx1 HRD HS HSf HSz
    have hx12 : Ext w1 w1 := Ext.refl _
    go_wp2_with fail
    (with_reducible refine (HCH.out _ X1).mono ?_)
    rintro e w2 ⟨ax, qx, rfl, hfl, hq, hx⟩
    have hy : Ext w1 w2 := by (repeat (first | exact Ext.refl _ | (with_reducible assumption) | (with_reducible refine Ext.drew ?_) | (with_reducible refine Ext.alloc ?_ _) | (with_reducible refine Ext.drewN ?_ _) | (with_reducible refine Ext.setCell ?_ (by omega) _) | (with_reducible refine Ext.trans ?_ (by with_reducible assumption))))
    replace X1 := X1.trans hy
    replace q0 := hy.keep q0
    try clear q0_a
    have q0_a := fun o => ((Ext.refl w2).alloc o).keep q0
    replace q1 := hy.keep q1
    try clear q1_a
    have q1_a := fun o => ((Ext.refl w2).alloc o).keep q1
    replace q2 := hy.keep q2
    try clear q2_a
    have q2_a := fun o => ((Ext.refl w2).alloc o).keep q2
    replace q3 := hy.keep q3
    try clear q3_a
    have q3_a := fun o => ((Ext.refl w2).alloc o).keep q3
    replace hx12 := hx12.trans hy
    clear hx hy
    clear HCH
    have hx23 : Ext w2 w2 := Ext.refl _
    have HFL : Hid (∀ W', Ext w2 W' → 0 < c.flds.length → ∃ g, ax = some ⟨g, 0, none⟩ ∧ FldsAt W' g c.flds ∧ w1.heap.size ≤ g ∧ g < w2.heap.size) := Lib.hid (fun W' hx h => by
      obtain ⟨g, e, h1, h2⟩ := hfl h
      exact ⟨g, e, h1.ext hx, h2, h1.lt⟩)
    clear hfl
    go_wp2_with fail
    (with_reducible refine (HPI.out _ (X1.trans (by (repeat (first | exact Ext.refl _ | (with_reducible assumption) | (with_reducible refine Ext.drew ?_) | (with_reducible refine Ext.alloc ?_ _) | (with_reducible refine Ext.drewN ?_ _) | (with_reducible refine Ext.setCell ?_ (by omega) _) | (with_reducible refine Ext.trans ?_ (by with_reducible assumption))))))).mono ?_)
    rintro e w3 ⟨at', qt, rfl, hth, hfr, hx⟩
    have hy : Ext w2 w3 := by (repeat (first | exact Ext.refl _ | (with_reducible assumption) | (with_reducible refine Ext.drew ?_) | (with_reducible refine Ext.alloc ?_ _) | (with_reducible refine Ext.drewN ?_ _) | (with_reducible refine Ext.setCell ?_ (by omega) _) | (with_reducible refine Ext.trans ?_ (by with_reducible assumption))))
    have x0 := hx.keep (k := w2.heap.size) (o := 0) (v := .slice a1 c.tars.length c1) (by simp [go_sem])
    have x1 := hx.keep (k := w2.heap.size) (o := 1) (v := .int .i64 c.day) (by simp [go_sem])
    have x2 := hx.keep (k := w2.heap.size) (o := 2) (v := .int .i64 c.fee) (by simp [go_sem])
    have x3 := hx.keep (k := w2.heap.size) (o := 3) (v := .slice ax c.flds.length qx) (by simp [go_sem])
    replace X1 := X1.trans hy
    replace q0 := hy.keep q0
    replace q1 := hy.keep q1
    replace q2 := hy.keep q2
    replace q3 := hy.keep q3
    replace hx23 := hx23.trans hy
    clear hx hy
    clear HPI q0_a q1_a q2_a q3_a
    have hfr' : ∀ g o, at' = some ⟨g, o, none⟩ → w2.heap.size + 1 ≤ g := fun g o h => by
      have := hfr g o h
      simpa using this
    have hNP : ∀ j, j < w1.heap.size ∨ w2.heap.size ≤ j → ¬ (ax = some ⟨j, 0, none⟩ ∧ 0 < c.flds.length) := fun j hj hp => by
      obtain ⟨g, e, -, h1, h2⟩ := HFL.out w2 (Ext.refl _) hp.2
      rw [hp.1] at e
      injection e with e
      injection e with e
      omega
    have HNP := Lib.hid hNP
    have HFR := Lib.hid hfr'
    have HTH := Lib.hid hth
    have HX3 := Lib.hid X1
    have h12 : w1.heap.size ≤ w2.heap.size := hx12.size
    have h23 : w2.heap.size < w3.heap.size := lt_of_cell x0
    have HQ : Hid (∀ wr, KP (fun j => ax = some ⟨j, 0, none⟩ ∧ 0 < c.flds.length) w3 wr → (wr.cell? ⟨w.heap.size, 0, none⟩ = some (.slice a1 c.tars.length c1) ∧ wr.cell? ⟨w.heap.size, 1, none⟩ = some (.int .i64 c.day) ∧ wr.cell? ⟨w.heap.size, 2, none⟩ = some (.int .i64 c.fee) ∧ wr.cell? ⟨w.heap.size, 3, none⟩ = some (.slice a2 c.flds.length c2)) ∧ (wr.cell? ⟨w2.heap.size, 0, none⟩ = some (.slice a1 c.tars.length c1) ∧ wr.cell? ⟨w2.heap.size, 1, none⟩ = some (.int .i64 c.day) ∧ wr.cell? ⟨w2.heap.size, 2, none⟩ = some (.int .i64 c.fee) ∧ wr.cell? ⟨w2.heap.size, 3, none⟩ = some (.slice ax c.flds.length qx))) := Lib.hid (fun wr h => by
      have g0 := hNP w.heap.size (by omega)
      have g1 := hNP w2.heap.size (by omega)
      exact ⟨⟨h.keep g0 q0, h.keep g0 q1, h.keep g0 q2, h.keep g0 q3⟩, h.keep g1 x0, h.keep g1 x1, h.keep g1 x2, h.keep g1 x3⟩)
    have HX23 : Hid (Ext w2 w3) := Lib.hid hx23
    clear hfr hfr' hNP hth X1 q0 q1 q2 q3 x0 x1 x2 x3 hx23 hx12
    go_wp2_with fail
    go_loopw [7, 8] (fun s7 s8 wr => ∃ (k : Nat) (au : Option Addr) (qu : Nat), k ≤ c.flds.length ∧ s8 = .int .i64 k ∧ s7 = .slice au k qu ∧ Hid (TurnL c.flds.length ax c.flds t w3 67 k (.slice au k qu) wr)) (fun _ s _ => c.flds.length - (intOf s).toNat)
    case atStart =>
      refine ⟨0, none, 0, Nat.zero_le _, rfl, rfl, Lib.hid ⟨KP.refl _, fun g e h => ?_, ThrRow.nil _ _ _ _⟩⟩
      obtain ⟨g', e', h1, -⟩ := HFL.out w3 HX23.out h
      rw [e] at e'
      injection e' with e'
      injection e' with e'
      subst e'
      rw [turnTo_zero]
      exact h1
    case round =>
      obtain ⟨k, au, qu, hk, rfl, rfl, HL⟩ := hrel
      obtain ⟨wo, rfl⟩ : ∃ x, x = wr := ⟨_, rfl⟩
      by_cases hlt : k < c.flds.length
      · obtain ⟨g, rfl, -, hg1, hg2⟩ := HFL.out w3 HX23.out (by omega)
        have hlt2 : k < t.length := by omega
        obtain ⟨⟨-, -, -, q3⟩, -, -, -, x3⟩ := HQ.out wo HL.out.kp
        obtain ⟨b, off, rfl, hce⟩ := HFA.out k hlt
        have hbl : b < w.heap.size := lt_of_cell hce.1
        have hnb := HNP.out b (by omega)
        obtain ⟨-, -, -, m3, m4, m5, m6, -, -⟩ := hce.ext HX3.out _ _ _
        replace m3 := HL.out.kp.keep hnb m3
        replace m4 := HL.out.kp.keep hnb m4
        replace m5 := HL.out.kp.keep hnb m5
        replace m6 := HL.out.kp.keep hnb m6
        obtain ⟨bt, ot, hbt, hct⟩ : ∃ bt ot, at' = some ⟨bt, ot, none⟩ ∧ Cell3 wo bt (ot + k * 3) (t[k]).c := by
          have htt := HTH.out.kp HL.out.kp (fun g' o h => HNP.out g' (by have := HFR.out g' o h; omega))
          obtain ⟨a, cc, he, -, -, hc⟩ := htt
          simp only [Value.slice.injEq] at he
          obtain ⟨bt, ot, e, hcc⟩ := hc k (by simpa using hlt2)
          exact ⟨bt, ot, he.1.trans e, by simpa using hcc⟩
        obtain rfl := hbt
        have hbt1 := HFR.out bt ot rfl
        have hfl := HL.out.fl g rfl (by omega)
        have hlk : k < (turnTo k c.flds).length := by rw [turnTo_len]; exact hlt
        have hcg := hfl.cells k hlk
        rw [turnTo_at hlt hlk] at hcg
        have hfr1 := hfl.fr
        have HPX0 := turnTo_next hlt ▸ hfl.turn hlk (turnTo_at hlt hlk)
        have HTK : Hid ((t.getD k default).turn = (t[k]).turn) := Lib.hid (by simp [hlt2])
        have HKP := Lib.hid HL.out.kp
        have HROW := Lib.hid HL.out.row
        clear hce hfl HL
        generalize c.flds[k] = f at *
        generalize t[k] = x at *
        obtain ⟨cr, va, ne, al, ah, bl, bh, ul, uh⟩ := f
        obtain ⟨A3, B3, U3⟩ := x
        simp only [Fld.c, Thr.c] at *
        obtain ⟨-, -, -, c3, c4, c5, c6, -, -⟩ := hcg
        obtain ⟨d0, d1, d2⟩ := hct
        have hk0 : (0 : Int) ≤ (k : Int) := by omega
        have hki : (k : Int) < (c.flds.length : Int) := by omega
        have HPX := Lib.hid HPX0
        clear HPX0
        have HDD := Lib.hid (⟨d0, d1, d2⟩ : _ ∧ _ ∧ _)
        go_upto_region 9 with fail
        go_cut [] from 37 to 58 (fun wx => Hid (FldsAt wx g (turnTo (k + 1) c.flds)) ∧ KP (fun j => j = g) wo wx)
        case first =>
          have e4 : (wo.setCell ⟨g, k * 9 + 3, none⟩ (.int .i64 bl)).cell? ⟨g, k * 9 + 3 + 1, none⟩ = some (.int .i64 ah) := sc_ne' (.inr (by omega)) c4
          have e5 : ((wo.setCell ⟨g, k * 9 + 3, none⟩ (.int .i64 bl)).setCell ⟨g, k * 9 + 3 + 1, none⟩ (.int .i64 bh)).cell? ⟨g, k * 9 + 5, none⟩ = some (.int .i64 bl) := sc_ne' (.inr (by omega)) (sc_ne' (.inr (by omega)) c5)
          have e6 : (((wo.setCell ⟨g, k * 9 + 3, none⟩ (.int .i64 bl)).setCell ⟨g, k * 9 + 3 + 1, none⟩ (.int .i64 bh)).setCell ⟨g, k * 9 + 5, none⟩ (.int .i64 al)).cell? ⟨g, k * 9 + 5 + 1, none⟩ = some (.int .i64 bh) := sc_ne' (.inr (by omega)) (sc_ne' (.inr (by omega)) (sc_ne' (.inr (by omega)) c6))
          have hfs : ∀ o x, (wo.setCell ⟨g, k * 9 + 3, none⟩ x).frozen? ⟨g, o, none⟩ = false := fun o x => by rw [World.frozen?_setCell]; exact hfr1 o
          have hfs2 : ∀ o x y, ((wo.setCell ⟨g, k * 9 + 3, none⟩ x).setCell ⟨g, k * 9 + 3 + 1, none⟩ y).frozen? ⟨g, o, none⟩ = false := fun o x y => by rw [World.frozen?_setCell]; exact hfs o x
          have hfs3 : ∀ o x y z, (((wo.setCell ⟨g, k * 9 + 3, none⟩ x).setCell ⟨g, k * 9 + 3 + 1, none⟩ y).setCell ⟨g, k * 9 + 5, none⟩ z).frozen? ⟨g, o, none⟩ = false := fun o x y z => by rw [World.frozen?_setCell]; exact hfs2 o x y
          have HKK : Hid (KP (fun j => j = g) wo ((((wo.setCell ⟨g, k * 9 + 3, none⟩ (.int .i64 bl)).setCell ⟨g, k * 9 + 3 + 1, none⟩ (.int .i64 bh)).setCell ⟨g, k * 9 + 5, none⟩ (.int .i64 al)).setCell ⟨g, k * 9 + 5 + 1, none⟩ (.int .i64 ah))) := Lib.hid ((((KP.one _).trans (KP.one _)).trans (KP.one _)).trans (KP.one _))
          clear HAW HCA HCX HTR HTR2 HPL HPL2 HA HAX HM HMX HSM1 HSM2 HFA HFO HFL HQ HNP HFR HTH HX3 HX23 HKP HROW HTK HDD HLEN HFS d0 d1 d2 hwD hw1 hw2 hw3 hsm
          go_region
          all_goals
            go_wp2_with fail
            go_meet
            exact ⟨Lib.hid (HPX.out.ext (by (repeat (first | exact Ext.refl _ | (with_reducible assumption) | (with_reducible refine Ext.drew ?_) | (with_reducible refine Ext.alloc ?_ _) | (with_reducible refine Ext.drewN ?_ _) | (with_reducible refine Ext.setCell ?_ (by omega) _) | (with_reducible refine Ext.trans ?_ (by with_reducible assumption)))))), HKK.out.trans (Ext.kp (by (repeat (first | exact Ext.refl _ | (with_reducible assumption) | (with_reducible refine Ext.drew ?_) | (with_reducible refine Ext.alloc ?_ _) | (with_reducible refine Ext.drewN ?_ _) | (with_reducible refine Ext.setCell ?_ (by omega) _) | (with_reducible refine Ext.trans ?_ (by with_reducible assumption))))))⟩
        case rest =>
          obtain ⟨H1, hk1⟩ := hcut
          obtain ⟨w5, rfl⟩ : ∃ x, x = wc := ⟨_, rfl⟩
          have HROW5 : Hid (ThrRow w3.heap.size 67 (fun i => (t.getD i default).turn) k (.slice au k qu) w5) := Lib.hid (own_keep HROW.out (fun gg hg => hk1.block gg (own_lt HROW.out hg).2 (fun e => by have := (own_lt HROW.out hg).1; omega)))
          have hne : ¬ bt = g := by omega
          have HSS : Hid (∀ w', KP (fun j => (Value.slice au k qu).ownBlock = some j) w5 w' → (w'.cell? ⟨bt, ot + k * 3, none⟩ = some (.int .i64 A3) ∧ w'.cell? ⟨bt, ot + k * 3 + 1, none⟩ = some (.int .i64 B3) ∧ w'.cell? ⟨bt, ot + k * 3 + 2, none⟩ = some (.int .i64 U3)) ∧ KP (fun j => (Value.slice au k qu).ownBlock = some j) w5 w') := by
            have hnt : ¬ (Value.slice au k qu).ownBlock = some bt := fun e => by
              have h1 := (own_lt HROW.out e).1
              have h2 := HTH.out.lt (by omega)
              omega
            exact Lib.hid (fun w' h => ⟨⟨h.keep hnt (hk1.keep hne HDD.out.1), h.keep hnt (hk1.keep hne HDD.out.2.1), h.keep hnt (hk1.keep hne HDD.out.2.2)⟩, h⟩)
          have HONE : Hid (∀ u ∈ ([.int .i64 B3, .int .i64 A3, .int .i64 U3] : List Value), u.oneCell' = true) := Lib.hid (by
            intro u hu
            simp only [List.mem_cons, List.not_mem_nil, or_false] at hu
            rcases hu with rfl | rfl | rfl <;> rfl)
          have HF1 : Hid (k + 1 ≤ maxLen) := Lib.hid (by simp only [maxLen]; omega)
          have HF2 : Hid ((k + 1) * 24 ≤ 140737488355328) := Lib.hid (by omega)
          have HF3 : Hid (w3.heap.size ≤ w5.heap.size) := Lib.hid (Nat.le_trans HKP.out.size hk1.size)
          have HOWN : Hid (w5.ownsRow w3.heap.size 67 3 (.slice au k qu) k ((thrsTo (fun i => (t.getD i default).turn) k).flatMap (fun x : Thr => x.c.cs))) := HROW5
          have HK5 : Hid (KP (fun j => (some ⟨g, 0, none⟩ : Option Addr) = some ⟨j, 0, none⟩ ∧ 0 < c.flds.length) w3 w5) := Lib.hid (HKP.out.join hk1 (fun j e => .inl ⟨by rw [e], by omega⟩))
          clear HKP hk1 HROW HDD d0 d1 d2 c3 c4 c5 c6 m3 m4 m5 m6 q3 x3 hfr1 HPX
          go_upto_region 10 with fail
          go_region_held3 (fun w' => (w'.cell? ⟨bt, ot + k * 3, none⟩ = some (.int .i64 A3) ∧ w'.cell? ⟨bt, ot + k * 3 + 1, none⟩ = some (.int .i64 B3) ∧ w'.cell? ⟨bt, ot + k * 3 + 2, none⟩ = some (.int .i64 U3)) ∧ KP (fun j => (Value.slice au k qu).ownBlock = some j) w5 w')
            ((refine HSS.out _ ?_; (repeat (first | exact KP.refl _ | (with_reducible assumption) | (with_reducible refine KP.drew ?_) | (with_reducible refine KP.alloc ?_ _) | (with_reducible refine KP.setCell ?_ (by assumption) _) | (with_reducible refine KP.ext ?_ (by with_reducible assumption)) | (with_reducible refine KP.trans ?_ (by with_reducible assumption)) | (with_reducible refine Ext.kp (by with_reducible assumption))))))
            (first
              | ((refine step_is_app _ _ 59 rfl ?_); (refine step_append_lies _ (by rfl) _ _ 59 (by rfl) w3.heap.size 67 i3 (.agg #[.int .i64 0, .int .i64 0, .int .i64 0]) 3 24 Tryz.underlying59 hi3 hz30 hz31 hz32 rfl (by decide) (.slice au k qu) k ((thrsTo (fun i => (t.getD i default).turn) k).flatMap (fun x : Thr => x.c.cs)) rfl (own_ext HOWN.out (by (repeat (first | exact Ext.refl _ | (with_reducible assumption) | (with_reducible refine Ext.drew ?_) | (with_reducible refine Ext.alloc ?_ _) | (with_reducible refine Ext.drewN ?_ _) | (with_reducible refine Ext.setCell ?_ (by omega) _) | (with_reducible refine Ext.trans ?_ (by with_reducible assumption)))))) ⟨_, 0, none⟩ 1 1 [.int .i64 B3, .int .i64 A3, .int .i64 U3] (by rfl) rfl (three_in (u := Thr.c ⟨B3, A3, U3⟩) (by (repeat (first | exact Ext.refl _ | (with_reducible assumption) | (with_reducible refine Ext.drew ?_) | (with_reducible refine Ext.alloc ?_ _) | (with_reducible refine Ext.drewN ?_ _) | (with_reducible refine Ext.setCell ?_ (by omega) _) | (with_reducible refine Ext.trans ?_ (by with_reducible assumption))))) (by first | rfl | simp)) HONE.out (by decide) HF1.out HF2.out (le_ext HF3.out (by (repeat (first | exact Ext.refl _ | (with_reducible assumption) | (with_reducible refine Ext.drew ?_) | (with_reducible refine Ext.alloc ?_ _) | (with_reducible refine Ext.drewN ?_ _) | (with_reducible refine Ext.setCell ?_ (by omega) _) | (with_reducible refine Ext.trans ?_ (by with_reducible assumption)))))) _ rfl ?_); intro gr cap w4 hown4 hgrow hat hlt4; have hk4 : KP (fun j => (Value.slice au k qu).ownBlock = some j) w5 w4 := KP.trans (Ext.kp (by (repeat (first | exact Ext.refl _ | (with_reducible assumption) | (with_reducible refine Ext.drew ?_) | (with_reducible refine Ext.alloc ?_ _) | (with_reducible refine Ext.drewN ?_ _) | (with_reducible refine Ext.setCell ?_ (by omega) _) | (with_reducible refine Ext.trans ?_ (by with_reducible assumption)))))) (KP.grown hgrow (fun _ hg => hg))))
          all_goals
            have HRN : Hid (TurnL c.flds.length (some ⟨g, 0, none⟩) c.flds t w3 67 (k + 1) (.slice (some ⟨gr, 0, none⟩) (k + 1) cap) w4) := Lib.hid ⟨HK5.out.join hk4 (fun j hj => .inr (own_lt HROW5.out hj).1), fun g' e' _ => by
              injection e' with e'
              injection e' with e'
              subst e'
              exact H1.out.kp hk4 (fun e => by have := (own_lt HROW5.out e).1; omega), ThrRow.next (x := ⟨B3, A3, U3⟩) hown4 HTK.out⟩
            clear hk4 hown4 hgrow hat HSS HOWN HONE HK5 HROW5 H1
            go_wp2_with fail
            go_roundw
            case rel => exact ⟨k + 1, _, cap, by omega, by go_num, rfl, HRN⟩
            case measure => simp [intOf]; omega
      · have ek : k = c.flds.length := by omega
        subst ek
        obtain ⟨⟨q0, q1, q2, q3⟩, x0, x1, x2, x3⟩ := HQ.out wo HL.out.kp
        have X1 : Ext w wo := HL.out.kp.toExt HX3.out (fun j hj => by
          rcases Nat.lt_or_ge j w1.heap.size with h | h
          · exact absurd hj (HNP.out j (.inl h))
          · omega)
        have hth := HTH.out.kp HL.out.kp (fun g' o h => HNP.out g' (by have := HFR.out g' o h; omega))
        have hu : ThrsV wo (.slice au c.flds.length qu) (t.map Thr.turn) := by
          have h1 := HL.out.row.thrs (by omega)
          rw [← htl, thrs_turned, htl] at h1
          exact h1
        have hxf : FldsV wo (.slice ax c.flds.length qx) (c.flds.map Fld.turn) := by
          by_cases h0 : c.flds.length = 0
          · have e0 : c.flds = [] := List.eq_nil_of_length_eq_zero h0
            rw [e0]
            exact ⟨ax, qx, rfl, Nat.zero_le _, by simp, fun i hi => absurd hi (by simp)⟩
          · obtain ⟨g, rfl, -, -, -⟩ := HFL.out w3 HX23.out (by omega)
            have h1 := HL.out.fl g rfl (by omega)
            rw [turnTo_all] at h1
            have h2 := h1.slice (q := qx) (by simpa using hq) (by simp; omega)
            simpa using h2
        clear HL HQ HNP HFR HTH HX3 HX23 HFL HFA HFO
        go_wp2_with fail
        (with_reducible refine (HCA.out _ X1).mono ?_)
        rintro e w21 ⟨vc, rfl, hv, hx⟩
        have hy : Ext wo w21 := by (repeat (first | exact Ext.refl _ | (with_reducible assumption) | (with_reducible refine Ext.drew ?_) | (with_reducible refine Ext.alloc ?_ _) | (with_reducible refine Ext.drewN ?_ _) | (with_reducible refine Ext.setCell ?_ (by omega) _) | (with_reducible refine Ext.trans ?_ (by with_reducible assumption))))
        replace X1 := X1.trans hy
        replace q0 := hy.keep q0
        replace q1 := hy.keep q1
        replace q2 := hy.keep q2
        replace q3 := hy.keep q3
        replace x0 := hy.keep x0
        replace x1 := hy.keep x1
        replace x2 := hy.keep x2
        replace x3 := hy.keep x3
        replace hth := hth.ext hy
        replace hu := hu.ext hy
        replace hxf := hxf.ext hy
        clear hx hy
        go_wp2_with fail
        (with_reducible refine (HTR.out _ _ hth).mono ?_)
        rintro e w22 ⟨vq, rfl, hqv, hx⟩
        have hy : Ext w21 w22 := by (repeat (first | exact Ext.refl _ | (with_reducible assumption) | (with_reducible refine Ext.drew ?_) | (with_reducible refine Ext.alloc ?_ _) | (with_reducible refine Ext.drewN ?_ _) | (with_reducible refine Ext.setCell ?_ (by omega) _) | (with_reducible refine Ext.trans ?_ (by with_reducible assumption))))
        replace X1 := X1.trans hy
        replace q0 := hy.keep q0
        replace q1 := hy.keep q1
        replace q2 := hy.keep q2
        replace q3 := hy.keep q3
        replace x0 := hy.keep x0
        replace x1 := hy.keep x1
        replace x2 := hy.keep x2
        replace x3 := hy.keep x3
        replace hv := hv.ext hy
        replace hu := hu.ext hy
        replace hxf := hxf.ext hy
        clear hx hy
        clear hth
        go_wp2_with fail
        (with_reducible refine (HPL.out _ _ _ hv hqv).mono ?_)
        rintro e w23 ⟨ar, qr, rfl, hri, hx⟩
        have hy : Ext w22 w23 := by (repeat (first | exact Ext.refl _ | (with_reducible assumption) | (with_reducible refine Ext.drew ?_) | (with_reducible refine Ext.alloc ?_ _) | (with_reducible refine Ext.drewN ?_ _) | (with_reducible refine Ext.setCell ?_ (by omega) _) | (with_reducible refine Ext.trans ?_ (by with_reducible assumption))))
        replace X1 := X1.trans hy
        replace q0 := hy.keep q0
        replace q1 := hy.keep q1
        replace q2 := hy.keep q2
        replace q3 := hy.keep q3
        replace x0 := hy.keep x0
        try clear x0_a
        have x0_a := fun o => ((Ext.refl w23).alloc o).keep x0
        replace x1 := hy.keep x1
        try clear x1_a
        have x1_a := fun o => ((Ext.refl w23).alloc o).keep x1
        replace x2 := hy.keep x2
        try clear x2_a
        have x2_a := fun o => ((Ext.refl w23).alloc o).keep x2
        replace x3 := hy.keep x3
        try clear x3_a
        have x3_a := fun o => ((Ext.refl w23).alloc o).keep x3
        replace hu := hu.ext hy
        replace hxf := hxf.ext hy
        clear hx hy
        clear hv hqv HPL HTR
        go_wp2_with fail
        (with_reducible refine (HCX.out _ _ _ (hxf.ext (by (repeat (first | exact Ext.refl _ | (with_reducible assumption) | (with_reducible refine Ext.drew ?_) | (with_reducible refine Ext.alloc ?_ _) | (with_reducible refine Ext.drewN ?_ _) | (with_reducible refine Ext.setCell ?_ (by omega) _) | (with_reducible refine Ext.trans ?_ (by with_reducible assumption)))))) (X1.trans (by (repeat (first | exact Ext.refl _ | (with_reducible assumption) | (with_reducible refine Ext.drew ?_) | (with_reducible refine Ext.alloc ?_ _) | (with_reducible refine Ext.drewN ?_ _) | (with_reducible refine Ext.setCell ?_ (by omega) _) | (with_reducible refine Ext.trans ?_ (by with_reducible assumption))))))).mono ?_)
        rintro e w24 ⟨vc, rfl, hv, hx⟩
        have hy : Ext w23 w24 := by (repeat (first | exact Ext.refl _ | (with_reducible assumption) | (with_reducible refine Ext.drew ?_) | (with_reducible refine Ext.alloc ?_ _) | (with_reducible refine Ext.drewN ?_ _) | (with_reducible refine Ext.setCell ?_ (by omega) _) | (with_reducible refine Ext.trans ?_ (by with_reducible assumption))))
        have r0 := hx.keep (k := w23.heap.size) (o := 0) (v := .slice ar c.flds.length qr) (by simp [go_sem])
        have r1 := hx.keep (k := w23.heap.size) (o := 1) (v := .int .i64 A) (by simp [go_sem])
        have r2 := hx.keep (k := w23.heap.size) (o := 2) (v := .int .i64 F) (by simp [go_sem])
        have r3 := hx.keep (k := w23.heap.size) (o := 3) (v := .int .i64 S) (by simp [go_sem])
        replace X1 := X1.trans hy
        replace q0 := hy.keep q0
        replace q1 := hy.keep q1
        replace q2 := hy.keep q2
        replace q3 := hy.keep q3
        replace x0 := hy.keep x0
        replace x1 := hy.keep x1
        replace x2 := hy.keep x2
        replace x3 := hy.keep x3
        replace hu := hu.ext hy
        replace hxf := hxf.ext hy
        replace hri := hri.ext hy
        clear hx hy
        clear x0_a x1_a x2_a x3_a
        go_wp2_with fail
        (with_reducible refine (HTR2.out _ _ hu).mono ?_)
        rintro e w25 ⟨vq, rfl, hqv, hx⟩
        have hy : Ext w24 w25 := by (repeat (first | exact Ext.refl _ | (with_reducible assumption) | (with_reducible refine Ext.drew ?_) | (with_reducible refine Ext.alloc ?_ _) | (with_reducible refine Ext.drewN ?_ _) | (with_reducible refine Ext.setCell ?_ (by omega) _) | (with_reducible refine Ext.trans ?_ (by with_reducible assumption))))
        replace X1 := X1.trans hy
        replace q0 := hy.keep q0
        replace q1 := hy.keep q1
        replace q2 := hy.keep q2
        replace q3 := hy.keep q3
        replace x0 := hy.keep x0
        replace x1 := hy.keep x1
        replace x2 := hy.keep x2
        replace x3 := hy.keep x3
        replace hv := hv.ext hy
        replace hxf := hxf.ext hy
        replace hri := hri.ext hy
        replace r0 := hy.keep r0
        replace r1 := hy.keep r1
        replace r2 := hy.keep r2
        replace r3 := hy.keep r3
        clear hx hy
        clear hu
        go_wp2_with fail
        (with_reducible refine (HPL2.out _ _ _ hv hqv).mono ?_)
        rintro e w26 ⟨as', qs, rfl, hsi, hx⟩
        have hy : Ext w25 w26 := by (repeat (first | exact Ext.refl _ | (with_reducible assumption) | (with_reducible refine Ext.drew ?_) | (with_reducible refine Ext.alloc ?_ _) | (with_reducible refine Ext.drewN ?_ _) | (with_reducible refine Ext.setCell ?_ (by omega) _) | (with_reducible refine Ext.trans ?_ (by with_reducible assumption))))
        replace X1 := X1.trans hy
        replace q0 := hy.keep q0
        try clear q0_a
        have q0_a := fun o => ((Ext.refl w26).alloc o).keep q0
        replace q1 := hy.keep q1
        try clear q1_a
        have q1_a := fun o => ((Ext.refl w26).alloc o).keep q1
        replace q2 := hy.keep q2
        try clear q2_a
        have q2_a := fun o => ((Ext.refl w26).alloc o).keep q2
        replace q3 := hy.keep q3
        try clear q3_a
        have q3_a := fun o => ((Ext.refl w26).alloc o).keep q3
        replace x0 := hy.keep x0
        replace x1 := hy.keep x1
        replace x2 := hy.keep x2
        replace x3 := hy.keep x3
        replace hxf := hxf.ext hy
        replace hri := hri.ext hy
        replace r0 := hy.keep r0
        replace r1 := hy.keep r1
        replace r2 := hy.keep r2
        replace r3 := hy.keep r3
        clear hx hy
        clear hv hqv HPL2 HTR2
        go_wp2_with fail
        (with_reducible refine (HCA.out _ (X1.trans (by (repeat (first | exact Ext.refl _ | (with_reducible assumption) | (with_reducible refine Ext.drew ?_) | (with_reducible refine Ext.alloc ?_ _) | (with_reducible refine Ext.drewN ?_ _) | (with_reducible refine Ext.setCell ?_ (by omega) _) | (with_reducible refine Ext.trans ?_ (by with_reducible assumption))))))).mono ?_)
        rintro e w27 ⟨vc, rfl, hv, hx⟩
        have hy : Ext w26 w27 := by (repeat (first | exact Ext.refl _ | (with_reducible assumption) | (with_reducible refine Ext.drew ?_) | (with_reducible refine Ext.alloc ?_ _) | (with_reducible refine Ext.drewN ?_ _) | (with_reducible refine Ext.setCell ?_ (by omega) _) | (with_reducible refine Ext.trans ?_ (by with_reducible assumption))))
        have s0 := hx.keep (k := w26.heap.size) (o := 0) (v := .slice as' c.flds.length qs) (by simp [go_sem])
        have s1 := hx.keep (k := w26.heap.size) (o := 1) (v := .int .i64 A) (by simp [go_sem])
        have s2 := hx.keep (k := w26.heap.size) (o := 2) (v := .int .i64 F2) (by simp [go_sem])
        have s3 := hx.keep (k := w26.heap.size) (o := 3) (v := .int .i64 S2) (by simp [go_sem])
        replace X1 := X1.trans hy
        replace q0 := hy.keep q0
        replace q1 := hy.keep q1
        replace q2 := hy.keep q2
        replace q3 := hy.keep q3
        replace x0 := hy.keep x0
        replace x1 := hy.keep x1
        replace x2 := hy.keep x2
        replace x3 := hy.keep x3
        replace hxf := hxf.ext hy
        replace hri := hri.ext hy
        replace hsi := hsi.ext hy
        replace r0 := hy.keep r0
        replace r1 := hy.keep r1
        replace r2 := hy.keep r2
        replace r3 := hy.keep r3
        clear hx hy
        clear q0_a q1_a q2_a q3_a
        go_wp2_with fail
        (with_reducible refine (HA.out _ _ hv).mono ?_)
        rintro e w28 ⟨rfl, hx⟩
        have hy : Ext w27 w28 := by (repeat (first | exact Ext.refl _ | (with_reducible assumption) | (with_reducible refine Ext.drew ?_) | (with_reducible refine Ext.alloc ?_ _) | (with_reducible refine Ext.drewN ?_ _) | (with_reducible refine Ext.setCell ?_ (by omega) _) | (with_reducible refine Ext.trans ?_ (by with_reducible assumption))))
        replace X1 := X1.trans hy
        replace q0 := hy.keep q0
        replace q1 := hy.keep q1
        replace q2 := hy.keep q2
        replace q3 := hy.keep q3
        replace x0 := hy.keep x0
        try clear x0_a
        have x0_a := fun o => ((Ext.refl w28).alloc o).keep x0
        replace x1 := hy.keep x1
        try clear x1_a
        have x1_a := fun o => ((Ext.refl w28).alloc o).keep x1
        replace x2 := hy.keep x2
        try clear x2_a
        have x2_a := fun o => ((Ext.refl w28).alloc o).keep x2
        replace x3 := hy.keep x3
        try clear x3_a
        have x3_a := fun o => ((Ext.refl w28).alloc o).keep x3
        replace hxf := hxf.ext hy
        replace hri := hri.ext hy
        replace hsi := hsi.ext hy
        replace r0 := hy.keep r0
        replace r1 := hy.keep r1
        replace r2 := hy.keep r2
        replace r3 := hy.keep r3
        replace s0 := hy.keep s0
        replace s1 := hy.keep s1
        replace s2 := hy.keep s2
        replace s3 := hy.keep s3
        clear hx hy
        clear hv
        go_wp2_with fail
        (with_reducible refine (HCX.out _ _ _ (hxf.ext (by (repeat (first | exact Ext.refl _ | (with_reducible assumption) | (with_reducible refine Ext.drew ?_) | (with_reducible refine Ext.alloc ?_ _) | (with_reducible refine Ext.drewN ?_ _) | (with_reducible refine Ext.setCell ?_ (by omega) _) | (with_reducible refine Ext.trans ?_ (by with_reducible assumption)))))) (X1.trans (by (repeat (first | exact Ext.refl _ | (with_reducible assumption) | (with_reducible refine Ext.drew ?_) | (with_reducible refine Ext.alloc ?_ _) | (with_reducible refine Ext.drewN ?_ _) | (with_reducible refine Ext.setCell ?_ (by omega) _) | (with_reducible refine Ext.trans ?_ (by with_reducible assumption))))))).mono ?_)
        rintro e w29 ⟨vc, rfl, hv, hx⟩
        have hy : Ext w28 w29 := by (repeat (first | exact Ext.refl _ | (with_reducible assumption) | (with_reducible refine Ext.drew ?_) | (with_reducible refine Ext.alloc ?_ _) | (with_reducible refine Ext.drewN ?_ _) | (with_reducible refine Ext.setCell ?_ (by omega) _) | (with_reducible refine Ext.trans ?_ (by with_reducible assumption))))
        have aa0 := hx.keep (k := w28.heap.size) (o := 0) (v := .int .i64 u0) (by simp [go_sem])
        have aa1 := hx.keep (k := w28.heap.size) (o := 1) (v := .int .i64 t0) (by simp [go_sem])
        replace X1 := X1.trans hy
        replace q0 := hy.keep q0
        replace q1 := hy.keep q1
        replace q2 := hy.keep q2
        replace q3 := hy.keep q3
        replace x0 := hy.keep x0
        replace x1 := hy.keep x1
        replace x2 := hy.keep x2
        replace x3 := hy.keep x3
        replace hxf := hxf.ext hy
        replace hri := hri.ext hy
        replace hsi := hsi.ext hy
        replace r0 := hy.keep r0
        replace r1 := hy.keep r1
        replace r2 := hy.keep r2
        replace r3 := hy.keep r3
        replace s0 := hy.keep s0
        replace s1 := hy.keep s1
        replace s2 := hy.keep s2
        replace s3 := hy.keep s3
        clear hx hy
        clear x0_a x1_a x2_a x3_a
        go_wp2_with fail
        (with_reducible refine (HAX.out _ _ hv).mono ?_)
        rintro e w30 ⟨rfl, hx⟩
        have hy : Ext w29 w30 := by (repeat (first | exact Ext.refl _ | (with_reducible assumption) | (with_reducible refine Ext.drew ?_) | (with_reducible refine Ext.alloc ?_ _) | (with_reducible refine Ext.drewN ?_ _) | (with_reducible refine Ext.setCell ?_ (by omega) _) | (with_reducible refine Ext.trans ?_ (by with_reducible assumption))))
        replace X1 := X1.trans hy
        replace q0 := hy.keep q0
        try clear q0_a
        have q0_a := fun o => ((Ext.refl w30).alloc o).keep q0
        replace q1 := hy.keep q1
        try clear q1_a
        have q1_a := fun o => ((Ext.refl w30).alloc o).keep q1
        replace q2 := hy.keep q2
        try clear q2_a
        have q2_a := fun o => ((Ext.refl w30).alloc o).keep q2
        replace q3 := hy.keep q3
        try clear q3_a
        have q3_a := fun o => ((Ext.refl w30).alloc o).keep q3
        replace x0 := hy.keep x0
        replace x1 := hy.keep x1
        replace x2 := hy.keep x2
        replace x3 := hy.keep x3
        replace hxf := hxf.ext hy
        replace hri := hri.ext hy
        replace hsi := hsi.ext hy
        replace r0 := hy.keep r0
        replace r1 := hy.keep r1
        replace r2 := hy.keep r2
        replace r3 := hy.keep r3
        replace s0 := hy.keep s0
        replace s1 := hy.keep s1
        replace s2 := hy.keep s2
        replace s3 := hy.keep s3
        replace aa0 := hy.keep aa0
        replace aa1 := hy.keep aa1
        clear hx hy
        clear hv HA HAX
        go_wp2_with fail
        (with_reducible refine (HCA.out _ (X1.trans (by (repeat (first | exact Ext.refl _ | (with_reducible assumption) | (with_reducible refine Ext.drew ?_) | (with_reducible refine Ext.alloc ?_ _) | (with_reducible refine Ext.drewN ?_ _) | (with_reducible refine Ext.setCell ?_ (by omega) _) | (with_reducible refine Ext.trans ?_ (by with_reducible assumption))))))).mono ?_)
        rintro e w31 ⟨vc, rfl, hv, hx⟩
        have hy : Ext w30 w31 := by (repeat (first | exact Ext.refl _ | (with_reducible assumption) | (with_reducible refine Ext.drew ?_) | (with_reducible refine Ext.alloc ?_ _) | (with_reducible refine Ext.drewN ?_ _) | (with_reducible refine Ext.setCell ?_ (by omega) _) | (with_reducible refine Ext.trans ?_ (by with_reducible assumption))))
        have bb0 := hx.keep (k := w30.heap.size) (o := 0) (v := .int .i64 u0) (by simp [go_sem])
        have bb1 := hx.keep (k := w30.heap.size) (o := 1) (v := .int .i64 t0) (by simp [go_sem])
        replace X1 := X1.trans hy
        replace x0 := hy.keep x0
        replace x1 := hy.keep x1
        replace x2 := hy.keep x2
        replace x3 := hy.keep x3
        replace hxf := hxf.ext hy
        replace hri := hri.ext hy
        replace hsi := hsi.ext hy
        replace r0 := hy.keep r0
        replace r1 := hy.keep r1
        replace r2 := hy.keep r2
        replace r3 := hy.keep r3
        replace s0 := hy.keep s0
        replace s1 := hy.keep s1
        replace s2 := hy.keep s2
        replace s3 := hy.keep s3
        replace aa0 := hy.keep aa0
        replace aa1 := hy.keep aa1
        clear hx hy
        clear q0_a q1_a q2_a q3_a q0 q1 q2 q3
        go_wp2_with fail
        (with_reducible refine (HM.out _ _ hv).mono ?_)
        rintro e w32 ⟨rm, rfl, hmi, hx⟩
        have hy : Ext w31 w32 := by (repeat (first | exact Ext.refl _ | (with_reducible assumption) | (with_reducible refine Ext.drew ?_) | (with_reducible refine Ext.alloc ?_ _) | (with_reducible refine Ext.drewN ?_ _) | (with_reducible refine Ext.setCell ?_ (by omega) _) | (with_reducible refine Ext.trans ?_ (by with_reducible assumption))))
        replace X1 := X1.trans hy
        replace x0 := hy.keep x0
        replace x1 := hy.keep x1
        replace x2 := hy.keep x2
        replace x3 := hy.keep x3
        replace hxf := hxf.ext hy
        replace hri := hri.ext hy
        replace hsi := hsi.ext hy
        replace r0 := hy.keep r0
        replace r1 := hy.keep r1
        replace r2 := hy.keep r2
        replace r3 := hy.keep r3
        replace s0 := hy.keep s0
        replace s1 := hy.keep s1
        replace s2 := hy.keep s2
        replace s3 := hy.keep s3
        replace aa0 := hy.keep aa0
        replace aa1 := hy.keep aa1
        replace bb0 := hy.keep bb0
        replace bb1 := hy.keep bb1
        clear hx hy
        clear hv
        go_wp2_with fail
        (with_reducible refine (HCX.out _ _ _ hxf X1).mono ?_)
        rintro e w33 ⟨vc, rfl, hv, hx⟩
        have hy : Ext w32 w33 := by (repeat (first | exact Ext.refl _ | (with_reducible assumption) | (with_reducible refine Ext.drew ?_) | (with_reducible refine Ext.alloc ?_ _) | (with_reducible refine Ext.drewN ?_ _) | (with_reducible refine Ext.setCell ?_ (by omega) _) | (with_reducible refine Ext.trans ?_ (by with_reducible assumption))))
        replace X1 := X1.trans hy
        replace hri := hri.ext hy
        replace hsi := hsi.ext hy
        replace hmi := hmi.ext hy
        replace r0 := hy.keep r0
        replace r1 := hy.keep r1
        replace r2 := hy.keep r2
        replace r3 := hy.keep r3
        replace s0 := hy.keep s0
        replace s1 := hy.keep s1
        replace s2 := hy.keep s2
        replace s3 := hy.keep s3
        replace aa0 := hy.keep aa0
        replace aa1 := hy.keep aa1
        replace bb0 := hy.keep bb0
        replace bb1 := hy.keep bb1
        clear hx hy
        clear x0 x1 x2 x3 hxf
        go_wp2_with fail
        (with_reducible refine (HMX.out _ _ hv).mono ?_)
        rintro e w34 ⟨rn, rfl, hni, hx⟩
        have hy : Ext w33 w34 := by (repeat (first | exact Ext.refl _ | (with_reducible assumption) | (with_reducible refine Ext.drew ?_) | (with_reducible refine Ext.alloc ?_ _) | (with_reducible refine Ext.drewN ?_ _) | (with_reducible refine Ext.setCell ?_ (by omega) _) | (with_reducible refine Ext.trans ?_ (by with_reducible assumption))))
        replace X1 := X1.trans hy
        replace hri := hri.ext hy
        replace hsi := hsi.ext hy
        replace hmi := hmi.ext hy
        replace r0 := hy.keep r0
        replace r1 := hy.keep r1
        replace r2 := hy.keep r2
        replace r3 := hy.keep r3
        replace s0 := hy.keep s0
        replace s1 := hy.keep s1
        replace s2 := hy.keep s2
        replace s3 := hy.keep s3
        replace aa0 := hy.keep aa0
        replace aa1 := hy.keep aa1
        replace bb0 := hy.keep bb0
        replace bb1 := hy.keep bb1
        clear hx hy
        clear hv HM HMX HCA HCX
        have HQ1 := Lib.hid (fun W' (hx : Ext w34 W') => HSM1.out _ _ _ (hri.ext hx) (hsi.ext hx))
        have HQ2 := Lib.hid (fun W' (hx : Ext w34 W') => HSM2.out _ _ _ (hmi.ext hx) (hni.ext hx))
        have HREG : Hid (∀ W', Ext w34 W' → (W'.cell? ⟨w23.heap.size, 0, none⟩ = some (.slice ar c.flds.length qr) ∧ W'.cell? ⟨w23.heap.size, 1, none⟩ = some (.int .i64 A) ∧ W'.cell? ⟨w23.heap.size, 2, none⟩ = some (.int .i64 F) ∧ W'.cell? ⟨w23.heap.size, 3, none⟩ = some (.int .i64 S)) ∧ (W'.cell? ⟨w26.heap.size, 0, none⟩ = some (.slice as' c.flds.length qs) ∧ W'.cell? ⟨w26.heap.size, 1, none⟩ = some (.int .i64 A) ∧ W'.cell? ⟨w26.heap.size, 2, none⟩ = some (.int .i64 F2) ∧ W'.cell? ⟨w26.heap.size, 3, none⟩ = some (.int .i64 S2)) ∧ (W'.cell? ⟨w28.heap.size, 0, none⟩ = some (.int .i64 u0) ∧ W'.cell? ⟨w28.heap.size, 1, none⟩ = some (.int .i64 t0)) ∧ (W'.cell? ⟨w30.heap.size, 0, none⟩ = some (.int .i64 u0) ∧ W'.cell? ⟨w30.heap.size, 1, none⟩ = some (.int .i64 t0))) := Lib.hid (fun W' hx => ⟨⟨hx.keep r0, hx.keep r1, hx.keep r2, hx.keep r3⟩, ⟨hx.keep s0, hx.keep s1, hx.keep s2, hx.keep s3⟩, ⟨hx.keep aa0, hx.keep aa1⟩, ⟨hx.keep bb0, hx.keep bb1⟩⟩)
        clear HSM1 HSM2 hri hsi hmi hni aa0 aa1 bb0 bb1 r0 r1 r2 r3 s0 s1 s2 s3
        rcases HFS.out with hD | ⟨hD1, hD2, hD3⟩
        · clear HFS
          have hDb : (F - S2 == 0) = true := by simp [hD]
          obtain ⟨⟨r0, r1, r2, r3⟩, ⟨s0, s1, s2, s3⟩, ⟨g0, g1⟩, h0, h1⟩ := HREG.out w34 (Ext.refl _)
          clear HREG
          have X34 : Ext w34 w34 := Ext.refl _
          go_upto_region 18 with fail
          simp only [List.append]
          go_wp2_with fail
          (with_reducible refine (HQ1.out _ (Ext.refl _)).mono ?_)
          rintro e w35 ⟨rfl, hx⟩
          have hy : Ext w34 w35 := by (repeat (first | exact Ext.refl _ | (with_reducible assumption) | (with_reducible refine Ext.drew ?_) | (with_reducible refine Ext.alloc ?_ _) | (with_reducible refine Ext.drewN ?_ _) | (with_reducible refine Ext.setCell ?_ (by omega) _) | (with_reducible refine Ext.trans ?_ (by with_reducible assumption))))
          replace X1 := X1.trans hy
          replace X34 := X34.trans hy
          replace r1 := hy.keep r1
          replace s1 := hy.keep s1
          replace r2 := hy.keep r2
          replace s2 := hy.keep s2
          replace r3 := hy.keep r3
          replace s3 := hy.keep s3
          replace g0 := hy.keep g0
          replace g1 := hy.keep g1
          replace h0 := hy.keep h0
          replace h1 := hy.keep h1
          clear hx hy
          go_wp2_with fail
          (with_reducible refine (HQ2.out _ X34).mono ?_)
          rintro e w36 ⟨rfl, hx⟩
          have hy : Ext w35 w36 := by (repeat (first | exact Ext.refl _ | (with_reducible assumption) | (with_reducible refine Ext.drew ?_) | (with_reducible refine Ext.alloc ?_ _) | (with_reducible refine Ext.drewN ?_ _) | (with_reducible refine Ext.setCell ?_ (by omega) _) | (with_reducible refine Ext.trans ?_ (by with_reducible assumption))))
          replace X1 := X1.trans hy
          replace r2 := hy.keep r2
          replace s2 := hy.keep s2
          replace r3 := hy.keep r3
          replace s3 := hy.keep s3
          clear hx hy
          go_wp2_with fail
          (with_reducible refine (HAW.out _).mono ?_)
          rintro e w37 ⟨rfl, hx⟩
          have hy : Ext w36 w37 := by (repeat (first | exact Ext.refl _ | (with_reducible assumption) | (with_reducible refine Ext.drew ?_) | (with_reducible refine Ext.alloc ?_ _) | (with_reducible refine Ext.drewN ?_ _) | (with_reducible refine Ext.setCell ?_ (by omega) _) | (with_reducible refine Ext.trans ?_ (by with_reducible assumption))))
          replace X1 := X1.trans hy
          clear hx hy
          go_wp2_with fail
          go_ret
          exact ⟨rfl, by (repeat (first | exact Ext.refl _ | (with_reducible assumption) | (with_reducible refine Ext.drew ?_) | (with_reducible refine Ext.alloc ?_ _) | (with_reducible refine Ext.drewN ?_ _) | (with_reducible refine Ext.setCell ?_ (by omega) _) | (with_reducible refine Ext.trans ?_ (by with_reducible assumption))))⟩
        · clear HFS
          obtain rfl : S = S2 := hD2
          obtain rfl : F = S + 1 := hD3
          have hwE : IntKind.i64.wrap (S + 1 - S) = 1 := IntWalk.i64_in _ (by omega) |>.trans (by omega)
          have hwF : S + 1 - S = 1 := by omega
          clear hD1 hwD
          obtain ⟨⟨r0, r1, r2, r3⟩, ⟨s0, s1, s2, s3⟩, ⟨g0, g1⟩, h0, h1⟩ := HREG.out w34 (Ext.refl _)
          clear HREG
          have X34 : Ext w34 w34 := Ext.refl _
          go_upto_region 18 with fail
          simp only [List.append]
          go_wp2_with fail
          (with_reducible refine (HQ1.out _ (Ext.refl _)).mono ?_)
          rintro e w35 ⟨rfl, hx⟩
          have hy : Ext w34 w35 := by (repeat (first | exact Ext.refl _ | (with_reducible assumption) | (with_reducible refine Ext.drew ?_) | (with_reducible refine Ext.alloc ?_ _) | (with_reducible refine Ext.drewN ?_ _) | (with_reducible refine Ext.setCell ?_ (by omega) _) | (with_reducible refine Ext.trans ?_ (by with_reducible assumption))))
          replace X1 := X1.trans hy
          replace X34 := X34.trans hy
          replace r1 := hy.keep r1
          replace s1 := hy.keep s1
          replace r2 := hy.keep r2
          replace s2 := hy.keep s2
          replace r3 := hy.keep r3
          replace s3 := hy.keep s3
          replace g0 := hy.keep g0
          replace g1 := hy.keep g1
          replace h0 := hy.keep h0
          replace h1 := hy.keep h1
          clear hx hy
          go_wp2_with fail
          (with_reducible refine (HQ2.out _ X34).mono ?_)
          rintro e w36 ⟨rfl, hx⟩
          have hy : Ext w35 w36 := by (repeat (first | exact Ext.refl _ | (with_reducible assumption) | (with_reducible refine Ext.drew ?_) | (with_reducible refine Ext.alloc ?_ _) | (with_reducible refine Ext.drewN ?_ _) | (with_reducible refine Ext.setCell ?_ (by omega) _) | (with_reducible refine Ext.trans ?_ (by with_reducible assumption))))
          replace X1 := X1.trans hy
          replace r2 := hy.keep r2
          replace s2 := hy.keep s2
          replace r3 := hy.keep r3
          replace s3 := hy.keep s3
          clear hx hy
          go_wp2_with fail
          (with_reducible refine (HAW.out _).mono ?_)
          rintro e w37 ⟨rfl, hx⟩
          have hy : Ext w36 w37 := by (repeat (first | exact Ext.refl _ | (with_reducible assumption) | (with_reducible refine Ext.drew ?_) | (with_reducible refine Ext.alloc ?_ _) | (with_reducible refine Ext.drewN ?_ _) | (with_reducible refine Ext.setCell ?_ (by omega) _) | (with_reducible refine Ext.trans ?_ (by with_reducible assumption))))
          replace X1 := X1.trans hy
          clear hx hy
          go_wp2_with fail
          go_ret
          exact ⟨rfl, by (repeat (first | exact Ext.refl _ | (with_reducible assumption) | (with_reducible refine Ext.drew ?_) | (with_reducible refine Ext.alloc ?_ _) | (with_reducible refine Ext.drewN ?_ _) | (with_reducible refine Ext.setCell ?_ (by omega) _) | (with_reducible refine Ext.trans ?_ (by with_reducible assumption))))⟩
end Go.Proofs.YtbmjnilcinfdiaaGreat
