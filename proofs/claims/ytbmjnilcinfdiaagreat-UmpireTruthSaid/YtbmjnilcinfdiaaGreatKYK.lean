/- The walk of UmpireTruth. Printed by gen_yk.py. -/
import Derived.Test.YtbmjnilcinfdiaaGreatKXJ
import Derived.Test.YtbmjnilcinfdiaaGreatKYD
set_option linter.unusedSimpArgs false
set_option linter.unusedVariables false
namespace Go.Proofs.YtbmjnilcinfdiaaGreat
open Go.RowKit Go.Hs
attribute [local irreducible] World.setCell World.alloc

set_option maxRecDepth 100000 in
set_option maxHeartbeats 16000000 in
theorem walk_UmpireTruth (v : Value) (c : Cas) (aw : Option Addr) (nw cw : Nat) (ws : List Int) (w : World) (hv : CasW w v c) (hw : U8sW w (.slice aw nw cw) ws) :
    Calls Tryz.prog 14 #[v, .slice aw nw cw] w fun e w' => e = .returned (.bool true) ∧ Ext w w' := by
  have HAW := Lib.hid awakeU_any
  have HRD : Hid (∀ W, Ext w W → Calls Tryz.prog 32 #[v] W fun e w' => e = .returned (.bool (readyB c)) ∧ Ext W w') := Lib.hid (fun W hx => readyU_any c v W (hv.ext hx))
  have HV := Lib.hid hv
  obtain ⟨vt, vf, rfl, ht, hf, -, -⟩ := hv
  obtain ⟨a1, c1, rfl, -⟩ := id ht
  obtain ⟨a2, c2, rfl, -⟩ := id hf
  clear ht hf
  cases hr : readyB c with
  | false =>
    rw [hr] at HRD
    clear HV hr hw
    generalize c.tars.length = n1 at *
    generalize c.flds.length = n2 at *
    generalize c.day = day at *
    generalize c.fee = fee at *
    go_enter Tryz.func14, Tryz.ntmps14
    go_wp2_with fail
    (with_reducible refine (HRD.out _ (by (repeat (first | exact Ext.refl _ | (with_reducible assumption) | (with_reducible refine Ext.drew ?_) | (with_reducible refine Ext.alloc ?_ _) | (with_reducible refine Ext.drewN ?_ _) | (with_reducible refine Ext.setCell ?_ (by omega) _) | (with_reducible refine Ext.trans ?_ (by with_reducible assumption)))))).mono ?_)
    rintro e w1 ⟨rfl, hx1⟩
    go_wp2_with fail
    (with_reducible refine (HAW.out _).mono ?_)
    rintro e w2 ⟨rfl, hx2⟩
    go_wp2_with fail
    go_ret
    exact ⟨rfl, by (repeat (first | exact Ext.refl _ | (with_reducible assumption) | (with_reducible refine Ext.drew ?_) | (with_reducible refine Ext.alloc ?_ _) | (with_reducible refine Ext.drewN ?_ _) | (with_reducible refine Ext.setCell ?_ (by omega) _) | (with_reducible refine Ext.trans ?_ (by with_reducible assumption))))⟩
  | true =>
    rw [hr] at HRD
    obtain ⟨htc, hce⟩ := ready_true hr
    have htt := thinCas_tars htc
    have hcv := HV.out.toV htc
    have hok := caseE_zero hce
    have h0 := caseE_tars hce
    have hn3 := hok.few
    have htr := picked_truth hok ws
    have hpl := picked_play hce htr
    obtain ⟨htl, htx⟩ := truthOf_iff.1 htr
    have HPI : Hid (∀ W, Ext w W → Calls Tryz.prog 38 #[.agg #[.slice a1 c.tars.length c1, .int .i64 c.day, .int .i64 c.fee, .slice a2 c.flds.length c2], .slice aw nw cw] W fun e w' => ∃ a q, e = .returned (.slice a c.flds.length q) ∧ ThrsV w' (.slice a c.flds.length q) (pickedS c ws) ∧ (∀ g o, a = some ⟨g, o, none⟩ → W.heap.size ≤ g) ∧ Ext W w') := Lib.hid (fun W hx => pickedU_new c _ ws aw nw cw W (hcv.ext hx) hok (hw.ext hx))
    have HLEN : Hid ((countsT c.flds (pickedS c ws)).length = c.flds.length) := Lib.hid (countsT_len htl)
    have HCA : Hid (∀ W, Ext w W → Calls Tryz.prog 18 #[.agg #[.slice a1 c.tars.length c1, .int .i64 c.day, .int .i64 c.fee, .slice a2 c.flds.length c2]] W fun e w' => ∃ v', e = .returned v' ∧ CasV w' v' c ∧ Ext W w') := Lib.hid (fun W hx => Case_any c _ W (hcv.ext hx) htt)
    have HTR : Hid (∀ v' W, ThrsV W v' (pickedS c ws) → Calls Tryz.prog 37 #[v'] W fun e w' => ∃ v', e = .returned v' ∧ ThrsV w' v' (pickedS c ws) ∧ Ext W w') := Lib.hid (fun v' W h => TruthL_any _ v' W h)
    have HPL : Hid (∀ v' u' W, CasV W v' c → ThrsV W u' (pickedS c ws) → Calls Tryz.prog 36 #[v', u'] W fun e w' => ∃ a q, e = .returned (.tuple #[.agg #[.slice a c.flds.length q, .int .i64 (sumT c c.flds (pickedS c ws)).award, .int .i64 (feeA c.fee (sumT c c.flds (pickedS c ws))), .int .i64 (feeB c.fee (sumT c c.flds (pickedS c ws)))], .int .i64 0]) ∧ IntsV w' (.slice a c.flds.length q) (countsT c.flds (pickedS c ws)) ∧ Ext W w') := Lib.hid (fun v' u' W h1 h2 => (Play_good c v' _ u' W h1 h2 hpl).mono (fun e w' ⟨r, he, a, q, hr, hi, hx⟩ => ⟨a, q, by rw [he, hr], hi, hx⟩))
    have HA := Lib.hid (fun v' W (h : CasV W v' c) => Award_good c v' W h hce)
    have HF := Lib.hid (fun v' W (h : CasV W v' c) => Fees_good c v' W h hce)
    have HO := Lib.hid (fun v' W (h : CasV W v' c) => Offers_good c v' W h hce)
    have HPR : Hid (∀ v' u' W, CasV W v' c → ThrsV W u' (pickedS c ws) → Calls Tryz.prog 43 #[v', u', .int .i64 (sumT c c.flds (pickedS c ws)).award] W fun e w' => e = .returned (.bool true) ∧ Ext W w') := Lib.hid (fun v' u' W h1 h2 => prove_own hpl ▸ Prove_u c v' _ u' _ W h1 h2)
    have hask : ∀ k : Nat, k < c.flds.length → askE c (k : Int) = 0 := fun k hk => by
      have e : inR (k : Int) 0 ((c.flds.length : Int) - 1) = true := inR_iff.2 (by omega)
      unfold askE askF
      rw [hce]
      simp [e]
    have hgd : ∀ k (hk : k < c.flds.length), c.flds.getD ((k : Int)).toNat default = c.flds[k] := fun k hk => by simp [hk]
    have HCN : Hid (∀ k (hk : k < c.flds.length), ∀ v' W, CasV W v' c → Calls Tryz.prog 17 #[v', .int .i64 (k : Int)] W fun e w' => ∃ r, e = .returned (.tuple #[r, .int .i64 0]) ∧ IntsV w' r (countsS c.flds[k]) ∧ Ext W w') := Lib.hid (fun k hk v' W h => hgd k hk ▸ Counts_good c v' (k : Int) W h (hask k hk))
    have HCD : Hid (∀ k (hk : k < c.flds.length), ∀ v' W, CasV W v' c → Calls Tryz.prog 19 #[v', .int .i64 (k : Int)] W fun e w' => e = .returned (.tuple #[.int .i64 (calledV c.flds[k]), .int .i64 0]) ∧ Ext W w') := Lib.hid (fun k hk v' W h => hgd k hk ▸ Called_good c v' (k : Int) W h (hask k hk))
    have HIC : Hid (∀ k (hk : k < c.flds.length) (h2 : k < (pickedS c ws).length), ∀ W, Calls Tryz.prog 48 #[(c.flds[k]).c.val, ((pickedS c ws)[k]).c.val] W fun e w' => e = .returned (.bool (calledB c.flds[k] (pickedS c ws)[k])) ∧ Ext W w') := Lib.hid (fun k hk h2 W => by
      have hf := hok.flds _ (List.getElem_mem hk)
      have hx := htx k hk h2
      exact IsCalled_any _ _ (by have := hx.a; have := hf.a; omega) (by have := hx.b; have := hf.b; omega) W)
    have HFX : Hid (∀ k (hk : k < c.flds.length) (h2 : k < (pickedS c ws).length), FldOK c.tars c.flds[k] ∧ ThrOK c.flds[k] (pickedS c ws)[k]) := Lib.hid (fun k hk h2 => ⟨hok.flds _ (List.getElem_mem hk), htx k hk h2⟩)
    have HCT : Hid (∀ k (h1 : k < c.flds.length) (h2 : k < (pickedS c ws).length) (h : k < (countsT c.flds (pickedS c ws)).length), (countsT c.flds (pickedS c ws))[k] = settledS c.flds[k] (pickedS c ws)[k]) := Lib.hid (fun k h1 h2 h => countsT_at h1 h2 h)
    have HNX : Hid (∀ k (h1 : k < c.flds.length) (h2 : k < (pickedS c ws).length), calTo c (pickedS c ws) (k + 1) = (calTo c (pickedS c ws) k || calledB c.flds[k] (pickedS c ws)[k])) := Lib.hid (fun k h1 h2 => calTo_next hok h0 htr h1 h2)
    have HEND : Hid (calTo c (pickedS c ws) c.flds.length = calledS (sumT c c.flds (pickedS c ws))) := Lib.hid (calTo_len htl)
    have HC0 : Hid (calTo c (pickedS c ws) 0 = false) := rfl
    have HFA := Lib.hid (fun i (hi : i < c.flds.length) => hcv.fld_at hi)
    obtain ⟨r1, r2, r3, r4, r5, r6, r7, r8, r9, r10⟩ := res_b hok h0 htr
    have hfee := hok.fee
    clear hcv hok h0 htr hpl htx hw HV hr htc hce htt hask hgd
    generalize pickedS c ws = t at *
    generalize hs : sumT c c.flds t = sm at *
    generalize (sm).award = A at *
    generalize hfa : feeA c.fee sm = F at *
    generalize hfb : feeB c.fee sm = S at *
    clear hfa hfb hs
    generalize calledS sm = cl at *
    generalize bLo c 0 = u0 at *
    generalize bHi c 0 = t0 at *
    generalize bLo c 1 = u1 at *
    generalize bHi c 1 = t1 at *
    generalize bLo c 2 = u2 at *
    generalize bHi c 2 = t2 at *
    generalize bLo c 3 = u3 at *
    generalize bHi c 4 = t4 at *
    have HWI := Lib.hid withinU_any
    have hd0 : (decide (u0 ≤ A) && decide (A ≤ t0)) = true := by simp [r1]
    have hd1 : (decide (u1 ≤ F) && decide (F ≤ t1)) = true := by simp [r2]
    have hd2 : (decide (u2 ≤ S) && decide (S ≤ t2)) = true := by simp [r3]
    have hw1 : IntKind.i64.wrap (A - F) = A - F := IntWalk.i64_in _ (by omega)
    have hw2 : IntKind.i64.wrap (A + S) = A + S := IntWalk.i64_in _ (by omega)
    have hw3 : IntKind.i64.wrap (F + S) = F + S := IntWalk.i64_in _ (by omega)
    have hl1 : u3 ≤ A - F := r4
    have hl2 : A + S ≤ t4 := r5
    have hl1b : decide (A - F < u3) = false := decide_eq_false (by omega)
    have hl2b : decide (t4 < A + S) = false := decide_eq_false (by omega)
    have HR9 := Lib.hid r9
    have hwf : IntKind.i64.wrap c.fee = c.fee := IntWalk.i64_in _ (by omega)
    have HR10 := Lib.hid r10
    have HFS : Hid (0 ≤ F ∧ 0 ≤ S) := Lib.hid ⟨r7.1, r8.1⟩
    clear r1 r2 r3 r4 r5 r6 r7 r8 r9 r10 hfee
    go_enter Tryz.func14, Tryz.ntmps14
    go_wp2_with fail
    have X : Ext w (w.alloc (.cells #[.slice a1 c.tars.length c1, .int .i64 c.day, .int .i64 c.fee, .slice a2 c.flds.length c2] 25)) := by (repeat (first | exact Ext.refl _ | (with_reducible assumption) | (with_reducible refine Ext.drew ?_) | (with_reducible refine Ext.alloc ?_ _) | (with_reducible refine Ext.drewN ?_ _) | (with_reducible refine Ext.setCell ?_ (by omega) _) | (with_reducible refine Ext.trans ?_ (by with_reducible assumption))))
    have HS : Hid (∀ w', Ext (w.alloc (.cells #[.slice a1 c.tars.length c1, .int .i64 c.day, .int .i64 c.fee, .slice a2 c.flds.length c2] 25)) w' → (w'.cell? ⟨w.heap.size, 0, none⟩ = some (.slice a1 c.tars.length c1) ∧ w'.cell? ⟨w.heap.size, 1, none⟩ = some (.int .i64 c.day) ∧ w'.cell? ⟨w.heap.size, 2, none⟩ = some (.int .i64 c.fee) ∧ w'.cell? ⟨w.heap.size, 3, none⟩ = some (.slice a2 c.flds.length c2)) ∧ Ext (w.alloc (.cells #[.slice a1 c.tars.length c1, .int .i64 c.day, .int .i64 c.fee, .slice a2 c.flds.length c2] 25)) w') := Lib.hid (fun w' hx => ⟨⟨hx.keep (by simp [go_sem]), hx.keep (by simp [go_sem]), hx.keep (by simp [go_sem]), hx.keep (by simp [go_sem])⟩, hx⟩)
    have HSf : Hid (∀ w', Ext (w.alloc (.cells #[.slice a1 c.tars.length c1, .int .i64 c.day, .int .i64 c.fee, .slice a2 c.flds.length c2] 25)) w' → ∀ o, w'.frozen? ⟨w.heap.size, o, none⟩ = false) := Lib.hid (fun w' hx o => (hx.frozen (by simp)).trans (by simp [go_sem]))
    have HSz : w.heap.size + 1 ≤ (w.alloc (.cells #[.slice a1 c.tars.length c1, .int .i64 c.day, .int .i64 c.fee, .slice a2 c.flds.length c2] 25)).heap.size := by simp
    generalize (w.alloc (.cells #[.slice a1 c.tars.length c1, .int .i64 c.day, .int .i64 c.fee, .slice a2 c.flds.length c2] 25)) = W at *
    (with_reducible refine (HRD.out _ X).mono ?_)
    rintro e w1 ⟨rfl, hx1⟩
    have X1 := X.trans hx1
    obtain ⟨q0, q1, q2, q3⟩ := (HS.out w1 hx1).1
    clear X hx1 HRD HS HSf HSz
    go_wp2_with fail
    (with_reducible refine (HPI.out _ X1).mono ?_)
    rintro e w2 ⟨at', qt, rfl, hth, -, hx⟩
    have hy : Ext w1 w2 := by (repeat (first | exact Ext.refl _ | (with_reducible assumption) | (with_reducible refine Ext.drew ?_) | (with_reducible refine Ext.alloc ?_ _) | (with_reducible refine Ext.drewN ?_ _) | (with_reducible refine Ext.setCell ?_ (by omega) _) | (with_reducible refine Ext.trans ?_ (by with_reducible assumption))))
    replace X1 := X1.trans hy
    replace q0 := hy.keep q0
    replace q1 := hy.keep q1
    replace q2 := hy.keep q2
    replace q3 := hy.keep q3
    clear hx hy
    clear HPI
    go_wp2_with fail
    (with_reducible refine (HCA.out _ X1).mono ?_)
    rintro e w3 ⟨vc, rfl, hv, hx⟩
    have hy : Ext w2 w3 := by (repeat (first | exact Ext.refl _ | (with_reducible assumption) | (with_reducible refine Ext.drew ?_) | (with_reducible refine Ext.alloc ?_ _) | (with_reducible refine Ext.drewN ?_ _) | (with_reducible refine Ext.setCell ?_ (by omega) _) | (with_reducible refine Ext.trans ?_ (by with_reducible assumption))))
    replace X1 := X1.trans hy
    replace q0 := hy.keep q0
    replace q1 := hy.keep q1
    replace q2 := hy.keep q2
    replace q3 := hy.keep q3
    replace hth := hth.ext hy
    clear hx hy
    go_wp2_with fail
    (with_reducible refine (HTR.out _ _ hth).mono ?_)
    rintro e w4 ⟨vq, rfl, hqv, hx⟩
    have hy : Ext w3 w4 := by (repeat (first | exact Ext.refl _ | (with_reducible assumption) | (with_reducible refine Ext.drew ?_) | (with_reducible refine Ext.alloc ?_ _) | (with_reducible refine Ext.drewN ?_ _) | (with_reducible refine Ext.setCell ?_ (by omega) _) | (with_reducible refine Ext.trans ?_ (by with_reducible assumption))))
    replace X1 := X1.trans hy
    replace q0 := hy.keep q0
    replace q1 := hy.keep q1
    replace q2 := hy.keep q2
    replace q3 := hy.keep q3
    replace hth := hth.ext hy
    replace hv := hv.ext hy
    clear hx hy
    go_wp2_with fail
    (with_reducible refine (HPL.out _ _ _ hv hqv).mono ?_)
    rintro e w5 ⟨ar, qr, rfl, hri, hx⟩
    have hy : Ext w4 w5 := by (repeat (first | exact Ext.refl _ | (with_reducible assumption) | (with_reducible refine Ext.drew ?_) | (with_reducible refine Ext.alloc ?_ _) | (with_reducible refine Ext.drewN ?_ _) | (with_reducible refine Ext.setCell ?_ (by omega) _) | (with_reducible refine Ext.trans ?_ (by with_reducible assumption))))
    replace X1 := X1.trans hy
    replace q0 := hy.keep q0
    try clear q0_a
    have q0_a := fun o => ((Ext.refl w5).alloc o).keep q0
    replace q1 := hy.keep q1
    try clear q1_a
    have q1_a := fun o => ((Ext.refl w5).alloc o).keep q1
    replace q2 := hy.keep q2
    try clear q2_a
    have q2_a := fun o => ((Ext.refl w5).alloc o).keep q2
    replace q3 := hy.keep q3
    try clear q3_a
    have q3_a := fun o => ((Ext.refl w5).alloc o).keep q3
    replace hth := hth.ext hy
    clear hx hy
    clear hv hqv HPL
    go_wp2_with fail
    (with_reducible refine (HCA.out _ (X1.trans (by (repeat (first | exact Ext.refl _ | (with_reducible assumption) | (with_reducible refine Ext.drew ?_) | (with_reducible refine Ext.alloc ?_ _) | (with_reducible refine Ext.drewN ?_ _) | (with_reducible refine Ext.setCell ?_ (by omega) _) | (with_reducible refine Ext.trans ?_ (by with_reducible assumption))))))).mono ?_)
    rintro e w6 ⟨vc, rfl, hv, hx⟩
    have hy : Ext w5 w6 := by (repeat (first | exact Ext.refl _ | (with_reducible assumption) | (with_reducible refine Ext.drew ?_) | (with_reducible refine Ext.alloc ?_ _) | (with_reducible refine Ext.drewN ?_ _) | (with_reducible refine Ext.setCell ?_ (by omega) _) | (with_reducible refine Ext.trans ?_ (by with_reducible assumption))))
    have b0 := hx.keep (k := w5.heap.size) (o := 0) (v := .slice ar c.flds.length qr) (by simp [go_sem])
    have b1 := hx.keep (k := w5.heap.size) (o := 1) (v := .int .i64 A) (by simp [go_sem])
    have b2 := hx.keep (k := w5.heap.size) (o := 2) (v := .int .i64 F) (by simp [go_sem])
    have b3 := hx.keep (k := w5.heap.size) (o := 3) (v := .int .i64 S) (by simp [go_sem])
    replace X1 := X1.trans hy
    replace q0 := hy.keep q0
    replace q1 := hy.keep q1
    replace q2 := hy.keep q2
    replace q3 := hy.keep q3
    replace hth := hth.ext hy
    replace hri := hri.ext hy
    clear hx hy
    clear q0_a q1_a q2_a q3_a
    go_wp2_with fail
    (with_reducible refine (HA.out _ _ hv).mono ?_)
    rintro e w7 ⟨rfl, hx⟩
    have hy : Ext w6 w7 := by (repeat (first | exact Ext.refl _ | (with_reducible assumption) | (with_reducible refine Ext.drew ?_) | (with_reducible refine Ext.alloc ?_ _) | (with_reducible refine Ext.drewN ?_ _) | (with_reducible refine Ext.setCell ?_ (by omega) _) | (with_reducible refine Ext.trans ?_ (by with_reducible assumption))))
    replace X1 := X1.trans hy
    replace q0 := hy.keep q0
    try clear q0_a
    have q0_a := fun o => ((Ext.refl w7).alloc o).keep q0
    replace q1 := hy.keep q1
    try clear q1_a
    have q1_a := fun o => ((Ext.refl w7).alloc o).keep q1
    replace q2 := hy.keep q2
    try clear q2_a
    have q2_a := fun o => ((Ext.refl w7).alloc o).keep q2
    replace q3 := hy.keep q3
    try clear q3_a
    have q3_a := fun o => ((Ext.refl w7).alloc o).keep q3
    replace hth := hth.ext hy
    replace hri := hri.ext hy
    replace b0 := hy.keep b0
    replace b1 := hy.keep b1
    replace b2 := hy.keep b2
    replace b3 := hy.keep b3
    clear hx hy
    clear hv
    go_wp2_with fail
    (with_reducible refine (HCA.out _ (X1.trans (by (repeat (first | exact Ext.refl _ | (with_reducible assumption) | (with_reducible refine Ext.drew ?_) | (with_reducible refine Ext.alloc ?_ _) | (with_reducible refine Ext.drewN ?_ _) | (with_reducible refine Ext.setCell ?_ (by omega) _) | (with_reducible refine Ext.trans ?_ (by with_reducible assumption))))))).mono ?_)
    rintro e w8 ⟨vc, rfl, hv, hx⟩
    have hy : Ext w7 w8 := by (repeat (first | exact Ext.refl _ | (with_reducible assumption) | (with_reducible refine Ext.drew ?_) | (with_reducible refine Ext.alloc ?_ _) | (with_reducible refine Ext.drewN ?_ _) | (with_reducible refine Ext.setCell ?_ (by omega) _) | (with_reducible refine Ext.trans ?_ (by with_reducible assumption))))
    have cc0 := hx.keep (k := w7.heap.size) (o := 0) (v := .int .i64 u0) (by simp [go_sem])
    have cc1 := hx.keep (k := w7.heap.size) (o := 1) (v := .int .i64 t0) (by simp [go_sem])
    replace X1 := X1.trans hy
    replace q0 := hy.keep q0
    replace q1 := hy.keep q1
    replace q2 := hy.keep q2
    replace q3 := hy.keep q3
    replace hth := hth.ext hy
    replace hri := hri.ext hy
    replace b0 := hy.keep b0
    replace b1 := hy.keep b1
    replace b2 := hy.keep b2
    replace b3 := hy.keep b3
    clear hx hy
    clear q0_a q1_a q2_a q3_a
    go_wp2_with fail
    (with_reducible refine (HF.out _ _ hv).mono ?_)
    rintro e w9 ⟨rfl, hx⟩
    have hy : Ext w8 w9 := by (repeat (first | exact Ext.refl _ | (with_reducible assumption) | (with_reducible refine Ext.drew ?_) | (with_reducible refine Ext.alloc ?_ _) | (with_reducible refine Ext.drewN ?_ _) | (with_reducible refine Ext.setCell ?_ (by omega) _) | (with_reducible refine Ext.trans ?_ (by with_reducible assumption))))
    replace X1 := X1.trans hy
    replace q0 := hy.keep q0
    try clear q0_a
    have q0_a := fun o => ((Ext.refl w9).alloc o).keep q0
    replace q1 := hy.keep q1
    try clear q1_a
    have q1_a := fun o => ((Ext.refl w9).alloc o).keep q1
    replace q2 := hy.keep q2
    try clear q2_a
    have q2_a := fun o => ((Ext.refl w9).alloc o).keep q2
    replace q3 := hy.keep q3
    try clear q3_a
    have q3_a := fun o => ((Ext.refl w9).alloc o).keep q3
    replace hth := hth.ext hy
    replace hri := hri.ext hy
    replace b0 := hy.keep b0
    replace b1 := hy.keep b1
    replace b2 := hy.keep b2
    replace b3 := hy.keep b3
    replace cc0 := hy.keep cc0
    replace cc1 := hy.keep cc1
    clear hx hy
    clear hv
    have q0_b := fun o o' => (((Ext.refl w9).alloc o).alloc o').keep q0
    have q1_b := fun o o' => (((Ext.refl w9).alloc o).alloc o').keep q1
    have q2_b := fun o o' => (((Ext.refl w9).alloc o).alloc o').keep q2
    have q3_b := fun o o' => (((Ext.refl w9).alloc o).alloc o').keep q3
    go_wp2_with fail
    (with_reducible refine (HCA.out _ (X1.trans (by (repeat (first | exact Ext.refl _ | (with_reducible assumption) | (with_reducible refine Ext.drew ?_) | (with_reducible refine Ext.alloc ?_ _) | (with_reducible refine Ext.drewN ?_ _) | (with_reducible refine Ext.setCell ?_ (by omega) _) | (with_reducible refine Ext.trans ?_ (by with_reducible assumption))))))).mono ?_)
    rintro e w10 ⟨vc, rfl, hv, hx⟩
    have hy : Ext w9 w10 := by (repeat (first | exact Ext.refl _ | (with_reducible assumption) | (with_reducible refine Ext.drew ?_) | (with_reducible refine Ext.alloc ?_ _) | (with_reducible refine Ext.drewN ?_ _) | (with_reducible refine Ext.setCell ?_ (by omega) _) | (with_reducible refine Ext.trans ?_ (by with_reducible assumption))))
    have d0 := hx.keep (k := w9.heap.size) (o := 0) (v := .int .i64 u1) (by simp [go_sem])
    have d1 := hx.keep (k := w9.heap.size) (o := 1) (v := .int .i64 t1) (by simp [go_sem])
    have e0 := hx.keep (k := w9.heap.size + 1) (o := 0) (v := .int .i64 u2) (by simp [go_sem])
    have e1 := hx.keep (k := w9.heap.size + 1) (o := 1) (v := .int .i64 t2) (by simp [go_sem])
    replace X1 := X1.trans hy
    replace q0 := hy.keep q0
    replace q1 := hy.keep q1
    replace q2 := hy.keep q2
    replace q3 := hy.keep q3
    replace hth := hth.ext hy
    replace hri := hri.ext hy
    replace b0 := hy.keep b0
    replace b1 := hy.keep b1
    replace b2 := hy.keep b2
    replace b3 := hy.keep b3
    replace cc0 := hy.keep cc0
    replace cc1 := hy.keep cc1
    clear hx hy
    clear q0_a q1_a q2_a q3_a q0_b q1_b q2_b q3_b
    go_wp2_with fail
    (with_reducible refine (HO.out _ _ hv).mono ?_)
    rintro e w11 ⟨rfl, hx⟩
    have hy : Ext w10 w11 := by (repeat (first | exact Ext.refl _ | (with_reducible assumption) | (with_reducible refine Ext.drew ?_) | (with_reducible refine Ext.alloc ?_ _) | (with_reducible refine Ext.drewN ?_ _) | (with_reducible refine Ext.setCell ?_ (by omega) _) | (with_reducible refine Ext.trans ?_ (by with_reducible assumption))))
    replace X1 := X1.trans hy
    replace q3 := hy.keep q3
    try clear q3_a
    have q3_a := fun o => ((Ext.refl w11).alloc o).keep q3
    replace q0 := hy.keep q0
    replace q1 := hy.keep q1
    replace q2 := hy.keep q2
    replace hth := hth.ext hy
    replace hri := hri.ext hy
    replace b0 := hy.keep b0
    try clear b0_a
    have b0_a := fun o => ((Ext.refl w11).alloc o).keep b0
    replace b1 := hy.keep b1
    try clear b1_a
    have b1_a := fun o => ((Ext.refl w11).alloc o).keep b1
    replace b2 := hy.keep b2
    try clear b2_a
    have b2_a := fun o => ((Ext.refl w11).alloc o).keep b2
    replace b3 := hy.keep b3
    try clear b3_a
    have b3_a := fun o => ((Ext.refl w11).alloc o).keep b3
    replace cc0 := hy.keep cc0
    try clear cc0_a
    have cc0_a := fun o => ((Ext.refl w11).alloc o).keep cc0
    replace cc1 := hy.keep cc1
    try clear cc1_a
    have cc1_a := fun o => ((Ext.refl w11).alloc o).keep cc1
    replace d0 := hy.keep d0
    replace d1 := hy.keep d1
    replace e0 := hy.keep e0
    replace e1 := hy.keep e1
    clear hx hy
    clear hv HA HF HO
    go_upto_region 8 with fail
    have g0 := BoxN.made (t := 48) (vs := [.int .i64 u3, .int .i64 t4]) (Ext.refl w11)
    have hx11 : Ext w11 (w11.alloc (.cells #[.int .i64 u3, .int .i64 t4] 48)) := (Ext.refl _).alloc _
    have f0 : (w11.alloc (.cells #[.int .i64 u3, .int .i64 t4] 48)).cell? ⟨w11.heap.size, 0, none⟩ = some (.int .i64 u3) := g0.cells 0 _ rfl
    have f1 : (w11.alloc (.cells #[.int .i64 u3, .int .i64 t4] 48)).cell? ⟨w11.heap.size, 1, none⟩ = some (.int .i64 t4) := g0.cells 1 _ rfl
    replace X1 := X1.trans hx11
    replace q0 := hx11.keep q0
    replace q1 := hx11.keep q1
    replace q2 := hx11.keep q2
    replace q3 := hx11.keep q3
    replace hth := hth.ext hx11
    replace hri := hri.ext hx11
    replace b0 := hx11.keep b0
    replace b1 := hx11.keep b1
    replace b2 := hx11.keep b2
    replace b3 := hx11.keep b3
    replace cc0 := hx11.keep cc0
    replace cc1 := hx11.keep cc1
    replace d0 := hx11.keep d0
    replace d1 := hx11.keep d1
    replace e0 := hx11.keep e0
    replace e1 := hx11.keep e1
    clear hx11 g0 q3_a b0_a b1_a b2_a b3_a cc0_a cc1_a
    generalize w11.alloc (.cells #[.int .i64 u3, .int .i64 t4] 48) = wq at *
    have HW0 : Hid (∀ W, Calls Tryz.prog 47 #[.int .i64 A, .agg #[.int .i64 u0, .int .i64 t0]] W fun e w' => e = .returned (.bool true) ∧ Ext W w') := Lib.hid (fun W => hd0 ▸ withinU_any A u0 t0 W)
    have HW1 : Hid (∀ W, Calls Tryz.prog 47 #[.int .i64 F, .agg #[.int .i64 u1, .int .i64 t1]] W fun e w' => e = .returned (.bool true) ∧ Ext W w') := Lib.hid (fun W => hd1 ▸ withinU_any F u1 t1 W)
    have HW2 : Hid (∀ W, Calls Tryz.prog 47 #[.int .i64 S, .agg #[.int .i64 u2, .int .i64 t2]] W fun e w' => e = .returned (.bool true) ∧ Ext W w') := Lib.hid (fun W => hd2 ▸ withinU_any S u2 t2 W)
    have HX1 := Lib.hid X1
    have HTHQ := Lib.hid hth
    have HRIQ := Lib.hid hri
    have HREG : Hid (∀ W', Ext wq W' → ((W'.cell? ⟨w.heap.size, 0, none⟩ = some (.slice a1 c.tars.length c1) ∧ W'.cell? ⟨w.heap.size, 1, none⟩ = some (.int .i64 c.day) ∧ W'.cell? ⟨w.heap.size, 2, none⟩ = some (.int .i64 c.fee) ∧ W'.cell? ⟨w.heap.size, 3, none⟩ = some (.slice a2 c.flds.length c2)) ∧ (W'.cell? ⟨w5.heap.size, 0, none⟩ = some (.slice ar c.flds.length qr) ∧ W'.cell? ⟨w5.heap.size, 1, none⟩ = some (.int .i64 A) ∧ W'.cell? ⟨w5.heap.size, 2, none⟩ = some (.int .i64 F) ∧ W'.cell? ⟨w5.heap.size, 3, none⟩ = some (.int .i64 S)) ∧ (W'.cell? ⟨w7.heap.size, 0, none⟩ = some (.int .i64 u0) ∧ W'.cell? ⟨w7.heap.size, 1, none⟩ = some (.int .i64 t0)) ∧ (W'.cell? ⟨w9.heap.size, 0, none⟩ = some (.int .i64 u1) ∧ W'.cell? ⟨w9.heap.size, 1, none⟩ = some (.int .i64 t1)) ∧ (W'.cell? ⟨w9.heap.size + 1, 0, none⟩ = some (.int .i64 u2) ∧ W'.cell? ⟨w9.heap.size + 1, 1, none⟩ = some (.int .i64 t2)) ∧ (W'.cell? ⟨w11.heap.size, 0, none⟩ = some (.int .i64 u3) ∧ W'.cell? ⟨w11.heap.size, 1, none⟩ = some (.int .i64 t4))) ∧ Ext wq W') := Lib.hid (fun W' hx => ⟨⟨⟨hx.keep q0, hx.keep q1, hx.keep q2, hx.keep q3⟩, ⟨hx.keep b0, hx.keep b1, hx.keep b2, hx.keep b3⟩, ⟨hx.keep cc0, hx.keep cc1⟩, ⟨hx.keep d0, hx.keep d1⟩, ⟨hx.keep e0, hx.keep e1⟩, ⟨hx.keep f0, hx.keep f1⟩⟩, hx⟩)
    clear q0 q1 q2 q3 b0 b1 b2 b3 cc0 cc1 d0 d1 e0 e1 f0 f1 hth hri X1 hd0 hd1 hd2 HWI
    go_cut [129] from 56 to 129 (fun s129 wx => s129 = .bool false ∧ Ext wq wx)
    case first =>
      as_aux_lemma =>
        clear HFX HCT HNX HEND HC0 HFA HIC HCN HCD HLEN HAW HR9 HR10 HFS hw3 hwf
        --DEV
        simp only [List.append]
        go_region_held3 (fun W' => ((W'.cell? ⟨w.heap.size, 0, none⟩ = some (.slice a1 c.tars.length c1) ∧ W'.cell? ⟨w.heap.size, 1, none⟩ = some (.int .i64 c.day) ∧ W'.cell? ⟨w.heap.size, 2, none⟩ = some (.int .i64 c.fee) ∧ W'.cell? ⟨w.heap.size, 3, none⟩ = some (.slice a2 c.flds.length c2)) ∧ (W'.cell? ⟨w5.heap.size, 0, none⟩ = some (.slice ar c.flds.length qr) ∧ W'.cell? ⟨w5.heap.size, 1, none⟩ = some (.int .i64 A) ∧ W'.cell? ⟨w5.heap.size, 2, none⟩ = some (.int .i64 F) ∧ W'.cell? ⟨w5.heap.size, 3, none⟩ = some (.int .i64 S)) ∧ (W'.cell? ⟨w7.heap.size, 0, none⟩ = some (.int .i64 u0) ∧ W'.cell? ⟨w7.heap.size, 1, none⟩ = some (.int .i64 t0)) ∧ (W'.cell? ⟨w9.heap.size, 0, none⟩ = some (.int .i64 u1) ∧ W'.cell? ⟨w9.heap.size, 1, none⟩ = some (.int .i64 t1)) ∧ (W'.cell? ⟨w9.heap.size + 1, 0, none⟩ = some (.int .i64 u2) ∧ W'.cell? ⟨w9.heap.size + 1, 1, none⟩ = some (.int .i64 t2)) ∧ (W'.cell? ⟨w11.heap.size, 0, none⟩ = some (.int .i64 u3) ∧ W'.cell? ⟨w11.heap.size, 1, none⟩ = some (.int .i64 t4))) ∧ Ext wq W')
          ((refine HREG.out _ ?_; (repeat (first | exact Ext.refl _ | (with_reducible assumption) | (with_reducible refine Ext.drew ?_) | (with_reducible refine Ext.alloc ?_ _) | (with_reducible refine Ext.drewN ?_ _) | (with_reducible refine Ext.setCell ?_ (by omega) _) | (with_reducible refine Ext.trans ?_ (by with_reducible assumption))))))
          (first
            | (go_at_call 47; (first | (with_reducible refine (HW0.out _).mono ?_) | (with_reducible refine (HW1.out _).mono ?_) | (with_reducible refine (HW2.out _).mono ?_)); rintro e w12 ⟨rfl, hx12⟩)
            | (go_at_call 18; (refine (HCA.out _ (HX1.out.trans (by (repeat (first | exact Ext.refl _ | (with_reducible assumption) | (with_reducible refine Ext.drew ?_) | (with_reducible refine Ext.alloc ?_ _) | (with_reducible refine Ext.drewN ?_ _) | (with_reducible refine Ext.setCell ?_ (by omega) _) | (with_reducible refine Ext.trans ?_ (by with_reducible assumption))))))).mono ?_); rintro e w15 ⟨vc, rfl, hcv, hx15⟩)
            | (go_at_call 37; (refine (HTR.out _ _ (ThrsV.ext (by (repeat (first | exact Ext.refl _ | (with_reducible assumption) | (with_reducible refine Ext.drew ?_) | (with_reducible refine Ext.alloc ?_ _) | (with_reducible refine Ext.drewN ?_ _) | (with_reducible refine Ext.setCell ?_ (by omega) _) | (with_reducible refine Ext.trans ?_ (by with_reducible assumption))))) HTHQ.out)).mono ?_); rintro e w16 ⟨vq, rfl, hqv, hx16⟩)
            | (go_at_call 43; (refine (HPR.out _ _ _ (CasV.ext (by (repeat (first | exact Ext.refl _ | (with_reducible assumption) | (with_reducible refine Ext.drew ?_) | (with_reducible refine Ext.alloc ?_ _) | (with_reducible refine Ext.drewN ?_ _) | (with_reducible refine Ext.setCell ?_ (by omega) _) | (with_reducible refine Ext.trans ?_ (by with_reducible assumption))))) hcv) (ThrsV.ext (by (repeat (first | exact Ext.refl _ | (with_reducible assumption) | (with_reducible refine Ext.drew ?_) | (with_reducible refine Ext.alloc ?_ _) | (with_reducible refine Ext.drewN ?_ _) | (with_reducible refine Ext.setCell ?_ (by omega) _) | (with_reducible refine Ext.trans ?_ (by with_reducible assumption))))) hqv)).mono ?_); rintro e w17 ⟨rfl, hx17⟩))
        all_goals
          go_wp2_with fail
          go_meet
          exact ⟨rfl, by (repeat (first | exact Ext.refl _ | (with_reducible assumption) | (with_reducible refine Ext.drew ?_) | (with_reducible refine Ext.alloc ?_ _) | (with_reducible refine Ext.drewN ?_ _) | (with_reducible refine Ext.setCell ?_ (by omega) _) | (with_reducible refine Ext.trans ?_ (by with_reducible assumption))))⟩
    case rest =>
      obtain ⟨rfl, X17⟩ := hcut
      obtain ⟨w17, rfl⟩ : ∃ x, x = wc := ⟨_, rfl⟩
      obtain ⟨⟨⟨q0, q1, q2, q3⟩, ⟨b0, b1, b2, b3⟩, -⟩, -⟩ := HREG.out w17 X17
      have X1 := HX1.out.trans X17
      have hth := HTHQ.out.ext X17
      have hri := HRIQ.out.ext X17
      clear HPR HTR hw1 hw2 hl1 hl2 hl1b hl2b HW0 HW1 HW2 HREG HTHQ HRIQ HX1 X17
      have HX17 := Lib.hid X1
      have HTH := Lib.hid hth
      have HRI := Lib.hid hri
      have HSS : Hid (∀ W', Ext w17 W' → (W'.cell? ⟨w.heap.size, 0, none⟩ = some (.slice a1 c.tars.length c1) ∧ W'.cell? ⟨w.heap.size, 1, none⟩ = some (.int .i64 c.day) ∧ W'.cell? ⟨w.heap.size, 2, none⟩ = some (.int .i64 c.fee) ∧ W'.cell? ⟨w.heap.size, 3, none⟩ = some (.slice a2 c.flds.length c2)) ∧ (W'.cell? ⟨w5.heap.size, 0, none⟩ = some (.slice ar c.flds.length qr) ∧ W'.cell? ⟨w5.heap.size, 2, none⟩ = some (.int .i64 F) ∧ W'.cell? ⟨w5.heap.size, 3, none⟩ = some (.int .i64 S))) := Lib.hid (fun W' hx => ⟨⟨hx.keep q0, hx.keep q1, hx.keep q2, hx.keep q3⟩, hx.keep b0, hx.keep b2, hx.keep b3⟩)
      have HTL := Lib.hid htl
      clear hth hri q0 q1 q2 q3 b0 b1 b2 b3 X1
      go_wp2_with fail
      go_loopw [15, 16] (fun s15 s16 wr => ∃ k : Nat, k ≤ c.flds.length ∧ s16 = .int .i64 k ∧ s15 = .bool (calTo c t k) ∧ Ext w17 wr) (fun _ s _ => c.flds.length - (intOf s).toNat)
      case atStart => exact ⟨0, Nat.zero_le _, rfl, by rw [HC0.out], Ext.refl _⟩
      case round =>
        obtain ⟨k, hk, rfl, rfl, hz⟩ := hrel
        obtain ⟨wo, rfl⟩ : ∃ x, x = wr := ⟨_, rfl⟩
        obtain ⟨⟨q0, q1, q2, q3⟩, b0, b2, b3⟩ := HSS.out wo hz
        by_cases hlt : k < c.flds.length
        · have hlt2 : k < t.length := by omega
          have hlt3 : k < (countsT c.flds t).length := by rw [HLEN.out]; exact hlt
          obtain ⟨b, off, rfl, hce⟩ := HFA.out k hlt
          have hce := hce.ext (HX17.out.trans hz)
          obtain ⟨br, or, rfl, hcr⟩ := (HRI.out.ext hz).get k hlt3
          have hcr' : (countsT c.flds t).getD k 0 = settledS c.flds[k] t[k] := by rw [List.getD_eq_getElem?_getD, List.getElem?_eq_getElem hlt3]; exact HCT.out k hlt hlt2 hlt3
          rw [hcr'] at hcr
          obtain ⟨bt, ot, hbt, hct⟩ : ∃ bt ot, at' = some ⟨bt, ot, none⟩ ∧ Cell3 wo bt (ot + k * 3) (t[k]).c := by
            obtain ⟨a, cc, he, -, -, hc⟩ := HTH.out.ext hz
            simp only [Value.slice.injEq] at he
            obtain ⟨bt, ot, e, hcc⟩ := hc k (by simpa using hlt2)
            exact ⟨bt, ot, he.1.trans e, by simpa using hcc⟩
          obtain rfl := hbt
          obtain ⟨hfo, hxo⟩ := HFX.out k hlt hlt2
          have hHAS := field_has hfo hxo
          have hsb := settled_between (f := c.flds[k]) (x := t[k])
          have HYES := Lib.hid (field_yes hxo)
          have HNO := Lib.hid (field_no hxo)
          have HIN := calledV_in c.flds[k]
          have HN := Lib.hid (HNX.out k hlt hlt2)
          have HCN1 := Lib.hid (HCN.out k hlt)
          have HCD1 := Lib.hid (HCD.out k hlt)
          have HIC1 := Lib.hid (HIC.out k hlt hlt2)
          have HHS : Hid (∀ r W, IntsV W r (countsS c.flds[k]) → Calls Tryz.prog 35 #[r, .int .i64 (settledS c.flds[k] t[k])] W fun e w' => e = .returned (.bool true) ∧ Ext W w') := Lib.hid (fun r W h => (hasU_any r _ (settledS c.flds[k] t[k]) W h).mono (fun e w' ⟨h1, h2⟩ => ⟨by rw [h1, decide_eq_true hHAS], h2⟩))
          have HN1 := Lib.hid HN.out
          clear HN HCN HCD HIC HNX HCT HFX hfo hxo hHAS hcr' HTH HFA HLEN
          generalize hcn : calTo c t (k + 1) = cn at *
          have HCNE := Lib.hid hcn
          clear hcn
          generalize calTo c t k = ck at *
          generalize countsS c.flds[k] = lc at *
          generalize settledS c.flds[k] t[k] = n at *
          generalize calledV c.flds[k] = cv at *
          generalize calledB c.flds[k] t[k] = cb at *
          generalize c.flds[k] = f at *
          generalize t[k] = x at *
          obtain ⟨cr, va, ne, al, ah, bl, bh, ul, uh⟩ := f
          obtain ⟨A3, B3, U3⟩ := x
          simp only [Fld.c, Thr.c] at *
          obtain ⟨m0, m1, m2, m3, m4, m5, m6, m7, m8⟩ := hce
          obtain ⟨d0, d1, d2⟩ := hct
          have hk0 : (0 : Int) ≤ (k : Int) := by omega
          have hki : (k : Int) < (c.flds.length : Int) := by omega
          have XO := HX17.out.trans hz
          go_wp2_with fail
          (with_reducible refine (HCA.out _ XO).mono ?_)
          rintro e w18 ⟨vc, rfl, hv, hx⟩
          have hy : Ext wo w18 := by (repeat (first | exact Ext.refl _ | (with_reducible assumption) | (with_reducible refine Ext.drew ?_) | (with_reducible refine Ext.alloc ?_ _) | (with_reducible refine Ext.drewN ?_ _) | (with_reducible refine Ext.setCell ?_ (by omega) _) | (with_reducible refine Ext.trans ?_ (by with_reducible assumption))))
          replace XO := XO.trans hy
          replace q0 := hy.keep q0
          replace q1 := hy.keep q1
          replace q2 := hy.keep q2
          replace q3 := hy.keep q3
          replace b0 := hy.keep b0
          replace m0 := hy.keep m0
          replace m1 := hy.keep m1
          replace m2 := hy.keep m2
          replace m3 := hy.keep m3
          replace m4 := hy.keep m4
          replace m5 := hy.keep m5
          replace m6 := hy.keep m6
          replace m7 := hy.keep m7
          replace m8 := hy.keep m8
          replace d0 := hy.keep d0
          replace d1 := hy.keep d1
          replace d2 := hy.keep d2
          replace hcr := hy.keep hcr
          replace hz := hz.trans hy
          clear hx hy
          go_wp2_with fail
          (with_reducible refine (HCN1.out _ _ hv).mono ?_)
          rintro e w19 ⟨r, rfl, hrl, hx⟩
          have hy : Ext w18 w19 := by (repeat (first | exact Ext.refl _ | (with_reducible assumption) | (with_reducible refine Ext.drew ?_) | (with_reducible refine Ext.alloc ?_ _) | (with_reducible refine Ext.drewN ?_ _) | (with_reducible refine Ext.setCell ?_ (by omega) _) | (with_reducible refine Ext.trans ?_ (by with_reducible assumption))))
          replace XO := XO.trans hy
          replace q0 := hy.keep q0
          replace q1 := hy.keep q1
          replace q2 := hy.keep q2
          replace q3 := hy.keep q3
          replace b0 := hy.keep b0
          replace m0 := hy.keep m0
          replace m1 := hy.keep m1
          replace m2 := hy.keep m2
          replace m3 := hy.keep m3
          replace m4 := hy.keep m4
          replace m5 := hy.keep m5
          replace m6 := hy.keep m6
          replace m7 := hy.keep m7
          replace m8 := hy.keep m8
          replace d0 := hy.keep d0
          replace d1 := hy.keep d1
          replace d2 := hy.keep d2
          replace hcr := hy.keep hcr
          replace hz := hz.trans hy
          clear hx hy
          clear hv HCN1
          go_wp2_with fail
          (with_reducible refine (HCA.out _ XO).mono ?_)
          rintro e w20 ⟨vc, rfl, hv, hx⟩
          have hy : Ext w19 w20 := by (repeat (first | exact Ext.refl _ | (with_reducible assumption) | (with_reducible refine Ext.drew ?_) | (with_reducible refine Ext.alloc ?_ _) | (with_reducible refine Ext.drewN ?_ _) | (with_reducible refine Ext.setCell ?_ (by omega) _) | (with_reducible refine Ext.trans ?_ (by with_reducible assumption))))
          replace XO := XO.trans hy
          replace q0 := hy.keep q0
          replace q1 := hy.keep q1
          replace q2 := hy.keep q2
          replace q3 := hy.keep q3
          replace b0 := hy.keep b0
          replace m0 := hy.keep m0
          replace m1 := hy.keep m1
          replace m2 := hy.keep m2
          replace m3 := hy.keep m3
          replace m4 := hy.keep m4
          replace m5 := hy.keep m5
          replace m6 := hy.keep m6
          replace m7 := hy.keep m7
          replace m8 := hy.keep m8
          replace d0 := hy.keep d0
          replace d1 := hy.keep d1
          replace d2 := hy.keep d2
          replace hcr := hy.keep hcr
          replace hrl := hrl.ext hy
          replace hz := hz.trans hy
          clear hx hy
          go_wp2_with fail
          (with_reducible refine (HCD1.out _ _ hv).mono ?_)
          rintro e w21 ⟨rfl, hx⟩
          have hy : Ext w20 w21 := by (repeat (first | exact Ext.refl _ | (with_reducible assumption) | (with_reducible refine Ext.drew ?_) | (with_reducible refine Ext.alloc ?_ _) | (with_reducible refine Ext.drewN ?_ _) | (with_reducible refine Ext.setCell ?_ (by omega) _) | (with_reducible refine Ext.trans ?_ (by with_reducible assumption))))
          replace XO := XO.trans hy
          replace q0 := hy.keep q0
          replace q1 := hy.keep q1
          replace q2 := hy.keep q2
          replace q3 := hy.keep q3
          replace b0 := hy.keep b0
          replace m0 := hy.keep m0
          replace m1 := hy.keep m1
          replace m2 := hy.keep m2
          replace m3 := hy.keep m3
          replace m4 := hy.keep m4
          replace m5 := hy.keep m5
          replace m6 := hy.keep m6
          replace m7 := hy.keep m7
          replace m8 := hy.keep m8
          replace d0 := hy.keep d0
          replace d1 := hy.keep d1
          replace d2 := hy.keep d2
          replace hcr := hy.keep hcr
          replace hrl := hrl.ext hy
          replace hz := hz.trans hy
          clear hx hy
          clear hv HCD1 XO
          have HXQ := Lib.hid hz
          have HKK : Hid (∀ W', Ext w21 W' → (W'.cell? ⟨w.heap.size, 3, none⟩ = some (.slice (some ⟨b, off, none⟩) c.flds.length c2) ∧ W'.cell? ⟨w5.heap.size, 0, none⟩ = some (.slice (some ⟨br, or, none⟩) c.flds.length qr)) ∧ (W'.cell? ⟨b, off + k * 9, none⟩ = some (.int .i64 cr) ∧ W'.cell? ⟨b, off + k * 9 + 1, none⟩ = some (.int .i64 va) ∧ W'.cell? ⟨b, off + k * 9 + 2, none⟩ = some (.int .i64 ne) ∧ W'.cell? ⟨b, off + k * 9 + 3, none⟩ = some (.int .i64 al) ∧ W'.cell? ⟨b, off + k * 9 + 4, none⟩ = some (.int .i64 ah) ∧ W'.cell? ⟨b, off + k * 9 + 5, none⟩ = some (.int .i64 bl) ∧ W'.cell? ⟨b, off + k * 9 + 6, none⟩ = some (.int .i64 bh) ∧ W'.cell? ⟨b, off + k * 9 + 7, none⟩ = some (.int .i64 ul) ∧ W'.cell? ⟨b, off + k * 9 + 8, none⟩ = some (.int .i64 uh)) ∧ (W'.cell? ⟨bt, ot + k * 3, none⟩ = some (.int .i64 A3) ∧ W'.cell? ⟨bt, ot + k * 3 + 1, none⟩ = some (.int .i64 B3) ∧ W'.cell? ⟨bt, ot + k * 3 + 2, none⟩ = some (.int .i64 U3)) ∧ W'.cell? ⟨br, or + k, none⟩ = some (.int .i64 n)) := Lib.hid (fun W' hz => ⟨⟨hz.keep q3, hz.keep b0⟩, ⟨hz.keep m0, hz.keep m1, hz.keep m2, hz.keep m3, hz.keep m4, hz.keep m5, hz.keep m6, hz.keep m7, hz.keep m8⟩, ⟨hz.keep d0, hz.keep d1, hz.keep d2⟩, hz.keep hcr⟩)
          have HRL := Lib.hid hrl
          clear q0 q1 q2 q3 b0 b2 b3 m0 m1 m2 m3 m4 m5 m6 m7 m8 d0 d1 d2 hcr hrl hz HSS HRI HX17 HAW HEND HC0 HR9 HR10 HFS
          go_upto_region 16 with fail
          refine wp_region_quiet (C := Ext w21) (by kernel_rfl) (by kernel_rfl) (Ext.drew (by (repeat (first | exact Ext.refl _ | (with_reducible assumption) | (with_reducible refine Ext.drew ?_) | (with_reducible refine Ext.alloc ?_ _) | (with_reducible refine Ext.drewN ?_ _) | (with_reducible refine Ext.setCell ?_ (by omega) _) | (with_reducible refine Ext.trans ?_ (by with_reducible assumption)))))) ?_
          rw [show ∀ (l : List Oper), l.toArray.toList = l from fun l => rfl]
          repeat (first
            | go_big_quiet_skip
            | (go_big_quiet_want
               first
                | (go_big_quiet_op; go_big_quiet_on)
                | (apply Exists.intro
                   refine ⟨fun w' hxw => ?_, ?_⟩
                   focus (obtain ⟨⟨q3, b0⟩, ⟨m0, m1, m2, m3, m4, m5, m6, m7, m8⟩, ⟨d0, d1, d2⟩, dr⟩ := HKK.out w' hxw; go_simp; first | exact rfl | exact (HIC1.out w').mono (fun e w'' h => ⟨h.1, hxw.trans h.2⟩))
                   simp only [Act.put, List.setIfInBounds_toArray, List.set_cons_zero, List.set_cons_succ]
                   go_big_quiet_on)))
          refine wpQuiet_nil ?_
          intro w2 hx2
          obtain ⟨w22, rfl⟩ : ∃ x, x = w2 := ⟨_, rfl⟩
          obtain ⟨⟨q3, b0⟩, -, ⟨d0, d1, d2⟩, dr⟩ := HKK.out w22 hx2
          have X22 := HXQ.out.trans hx2
          obtain ⟨lw, hlw⟩ : ∃ lw, lw = min A3 B3 := ⟨_, rfl⟩
          obtain ⟨hg, hhg⟩ : ∃ hg, hg = max A3 B3 := ⟨_, rfl⟩
          have hmn : ∀ w, (Builtin.min_ #[3, 3] 3 #[.int .i64 A3, .int .i64 B3]).run Tryz.prog w = .ok (.int .i64 lw) w := fun w => umin_i64 (by split <;> omega) _ _ _
          have hmx : ∀ w, (Builtin.max_ #[3, 3] 3 #[.int .i64 A3, .int .i64 B3]).run Tryz.prog w = .ok (.int .i64 hg) w := fun w => umax_i64 (by split <;> omega) _ _ _
          have hle1 : lw ≤ n := by omega
          have hle2 : n ≤ hg := by omega
          have hl1b : decide (n < lw) = false := decide_eq_false (by omega)
          have hl2b : decide (hg < n) = false := decide_eq_false (by omega)
          have HHS1 := Lib.hid (fun W' (h : Ext w22 W') => HHS.out _ _ ((HRL.out.ext hx2).ext h))
          have HIN3 : Hid (∀ W, Calls Tryz.prog 49 #[.int .i64 cv, .int .i64 1, .int .i64 3] W fun e w' => e = .returned (.bool true) ∧ Ext W w') := Lib.hid (fun W => (In_any cv 1 3 W).mono (fun e w' ⟨h1, h2⟩ => ⟨by rw [h1]; rw [show inR cv 1 3 = true from inR_iff.2 (by omega)], h2 ▸ Ext.refl _⟩))
          clear hlw hhg hsb HKK HRL HHS hx2 HXQ HIN HIC1 HCA HTL
          have HCB1 : Hid (cb = true → ¬ cv = 2) := Lib.hid (fun h => HYES.out h)
          have HCB2 : Hid (cb = false → ¬ cv = 1) := Lib.hid (fun h => HNO.out h)
          clear HYES HNO
          have HN1' := Lib.hid HN1.out
          clear HN1
          go_upto_region 17 with fail
          go_cut [15] from 160 to 163 (fun s15 wx => s15 = .bool cn ∧ wx = w22)
          case first =>
            cases ck <;> cases cb
            all_goals
              go_wp2_with fail
              go_meet
              exact ⟨by rw [HN1'.out]; rfl, rfl⟩
          case rest =>
            obtain ⟨rfl, rfl⟩ := hcut
            clear HN1'
            cases cb with
            | true =>
              as_aux_lemma =>
                have hn2 := HCB1.out rfl
                have hn2b : (cv == 2) = false := by simp [hn2]
                clear HCB1 HCB2
                go_wp2_with fail
                simp only [List.append]
                refine wp_region_quiet (C := Ext wc) (by kernel_rfl) (by kernel_rfl) (Ext.drew (by (repeat (first | exact Ext.refl _ | (with_reducible assumption) | (with_reducible refine Ext.drew ?_) | (with_reducible refine Ext.alloc ?_ _) | (with_reducible refine Ext.drewN ?_ _) | (with_reducible refine Ext.setCell ?_ (by omega) _) | (with_reducible refine Ext.trans ?_ (by with_reducible assumption)))))) ?_
                rw [show ∀ (l : List Oper), l.toArray.toList = l from fun l => rfl]
                repeat (first
                  | go_big_quiet_skip
                  | (go_big_quiet_want
                     first
                      | (go_big_quiet_op; go_big_quiet_on)
                      | (apply Exists.intro
                         refine ⟨fun w' hxw => ?_, ?_⟩
                         focus (have q3 := hxw.keep q3; have b0 := hxw.keep b0; have d0 := hxw.keep d0; have d1 := hxw.keep d1; have dr := hxw.keep dr; go_simp; first | exact rfl | (first | (with_reducible refine (HHS1.out w' hxw).mono ?_; exact fun e w'' h => ⟨h.1, hxw.trans h.2⟩) | (with_reducible refine (HIN3.out w').mono ?_; exact fun e w'' h => ⟨h.1, hxw.trans h.2⟩)))
                         simp only [Act.put, List.setIfInBounds_toArray, List.set_cons_zero, List.set_cons_succ]
                         go_big_quiet_on)))
                refine wpQuiet_nil ?_
                intro w2 hx2
                go_wp2_with fail
                go_roundw
                case rel => exact ⟨k + 1, by omega, by go_num, by rw [HCNE.out], by (repeat (first | exact Ext.refl _ | (with_reducible assumption) | (with_reducible refine Ext.drew ?_) | (with_reducible refine Ext.alloc ?_ _) | (with_reducible refine Ext.drewN ?_ _) | (with_reducible refine Ext.setCell ?_ (by omega) _) | (with_reducible refine Ext.trans ?_ (by with_reducible assumption))))⟩
                case measure => simp [intOf]; omega
            | false =>
              as_aux_lemma =>
                have hn1 := HCB2.out rfl
                have hn1b : (cv == 1) = false := by simp [hn1]
                clear HCB1 HCB2
                go_wp2_with fail
                simp only [List.append]
                refine wp_region_quiet (C := Ext wc) (by kernel_rfl) (by kernel_rfl) (Ext.drew (by (repeat (first | exact Ext.refl _ | (with_reducible assumption) | (with_reducible refine Ext.drew ?_) | (with_reducible refine Ext.alloc ?_ _) | (with_reducible refine Ext.drewN ?_ _) | (with_reducible refine Ext.setCell ?_ (by omega) _) | (with_reducible refine Ext.trans ?_ (by with_reducible assumption)))))) ?_
                rw [show ∀ (l : List Oper), l.toArray.toList = l from fun l => rfl]
                repeat (first
                  | go_big_quiet_skip
                  | (go_big_quiet_want
                     first
                      | (go_big_quiet_op; go_big_quiet_on)
                      | (apply Exists.intro
                         refine ⟨fun w' hxw => ?_, ?_⟩
                         focus (have q3 := hxw.keep q3; have b0 := hxw.keep b0; have d0 := hxw.keep d0; have d1 := hxw.keep d1; have dr := hxw.keep dr; go_simp; first | exact rfl | (first | (with_reducible refine (HHS1.out w' hxw).mono ?_; exact fun e w'' h => ⟨h.1, hxw.trans h.2⟩) | (with_reducible refine (HIN3.out w').mono ?_; exact fun e w'' h => ⟨h.1, hxw.trans h.2⟩)))
                         simp only [Act.put, List.setIfInBounds_toArray, List.set_cons_zero, List.set_cons_succ]
                         go_big_quiet_on)))
                refine wpQuiet_nil ?_
                intro w2 hx2
                go_wp2_with fail
                go_roundw
                case rel => exact ⟨k + 1, by omega, by go_num, by rw [HCNE.out], by (repeat (first | exact Ext.refl _ | (with_reducible assumption) | (with_reducible refine Ext.drew ?_) | (with_reducible refine Ext.alloc ?_ _) | (with_reducible refine Ext.drewN ?_ _) | (with_reducible refine Ext.setCell ?_ (by omega) _) | (with_reducible refine Ext.trans ?_ (by with_reducible assumption))))⟩
                case measure => simp [intOf]; omega
        · have ek : k = c.flds.length := by omega
          subst ek
          rw [HEND.out]
          have XO := HX17.out.trans hz
          have hF := HFS.out.1
          have hS := HFS.out.2
          clear HFA HCT HEND HLEN HSS HRI HNX HFX HIC HCD HCN HTH hz
          cases cl with
          | true =>
            have hsum := HR9.out rfl
            have hsb : (F + S == c.fee) = true := by simp [hsum]
            clear HR9 HR10
            go_wp2_with fail
            (with_reducible refine (HAW.out _).mono ?_)
            rintro e w25 ⟨rfl, hx25⟩
            go_wp2_with fail
            go_ret
            exact ⟨rfl, by (repeat (first | exact Ext.refl _ | (with_reducible assumption) | (with_reducible refine Ext.drew ?_) | (with_reducible refine Ext.alloc ?_ _) | (with_reducible refine Ext.drewN ?_ _) | (with_reducible refine Ext.setCell ?_ (by omega) _) | (with_reducible refine Ext.trans ?_ (by with_reducible assumption))))⟩
          | false =>
            obtain ⟨eF, eS⟩ := HR10.out rfl
            subst eF eS
            clear HR9 HR10
            by_cases hz : c.fee = 0
            · have hzb : ((0 : Int) == c.fee) = true := by simp [hz]
              go_wp2_with fail
              (with_reducible refine (HAW.out _).mono ?_)
              rintro e w25 ⟨rfl, hx25⟩
              go_wp2_with fail
              go_ret
              exact ⟨rfl, by (repeat (first | exact Ext.refl _ | (with_reducible assumption) | (with_reducible refine Ext.drew ?_) | (with_reducible refine Ext.alloc ?_ _) | (with_reducible refine Ext.drewN ?_ _) | (with_reducible refine Ext.setCell ?_ (by omega) _) | (with_reducible refine Ext.trans ?_ (by with_reducible assumption))))⟩
            · have hzb : ((0 : Int) == c.fee) = false := by simp; omega
              go_wp2_with fail
              (with_reducible refine (HAW.out _).mono ?_)
              rintro e w25 ⟨rfl, hx25⟩
              go_wp2_with fail
              go_ret
              exact ⟨rfl, by (repeat (first | exact Ext.refl _ | (with_reducible assumption) | (with_reducible refine Ext.drew ?_) | (with_reducible refine Ext.alloc ?_ _) | (with_reducible refine Ext.drewN ?_ _) | (with_reducible refine Ext.setCell ?_ (by omega) _) | (with_reducible refine Ext.trans ?_ (by with_reducible assumption))))⟩
end Go.Proofs.YtbmjnilcinfdiaaGreat
