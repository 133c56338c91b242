/- The walk of UmpirePlays. Printed by gen_yp.py. -/
import Derived.Test.YtbmjnilcinfdiaaGreatKRF
import Derived.Test.YtbmjnilcinfdiaaGreatKVT
import Derived.Test.YtbmjnilcinfdiaaGreatKYB
set_option linter.unusedSimpArgs false
set_option linter.unusedVariables false
namespace Go.Proofs.YtbmjnilcinfdiaaGreat
open Go.RowKit Go.Hs
attribute [local irreducible] World.setCell World.alloc

set_option maxRecDepth 100000 in
set_option maxHeartbeats 16000000 in
theorem walk_UmpirePlays (v : Value) (c : Cas) (vt : Value) (t : List Thr) (n : Int) (w : World) (hv : CasW w v c) (ht : ThrsW w vt t) (_ : (Lit.int .i64 n).wf = true) :
    Calls Tryz.prog 13 #[v, vt, .int .i64 n] w fun e w' => e = .returned (.bool true) ∧ Ext w w' := by
  have HAW := Lib.hid awakeU_any
  have HTH : Hid (∀ W, Ext w W → Calls Tryz.prog 15 #[v] W fun e w' => e = .returned (.bool (thinCas c)) ∧ Ext W w') := Lib.hid (fun W hx => ThinU_any c v W (hv.ext hx))
  have HV := Lib.hid hv
  have HT := Lib.hid ht
  obtain ⟨vt', vf, rfl, htt', hf, -, -⟩ := hv
  obtain ⟨a1, c1, rfl, -⟩ := id htt'
  obtain ⟨a2, c2, rfl, -⟩ := id hf
  obtain ⟨at', qt, rfl, -⟩ := id ht
  clear htt' hf ht
  cases hr : thinCas c with
  | false =>
    rw [hr] at HTH
    clear HV HT hr
    go_enter Tryz.func13, Tryz.ntmps13
    go_wp2_with fail
    have X : Ext w (w.alloc (.cells #[.slice a1 c.tars.length c1, .int .i64 c.day, .int .i64 c.fee, .slice a2 c.flds.length c2] 25)) := by (repeat (first | exact Ext.refl _ | (with_reducible assumption) | (with_reducible refine Ext.drew ?_) | (with_reducible refine Ext.alloc ?_ _) | (with_reducible refine Ext.drewN ?_ _) | (with_reducible refine Ext.setCell ?_ (by omega) _) | (with_reducible refine Ext.trans ?_ (by with_reducible assumption))))
    have HS : Hid (∀ w', Ext (w.alloc (.cells #[.slice a1 c.tars.length c1, .int .i64 c.day, .int .i64 c.fee, .slice a2 c.flds.length c2] 25)) w' → (w'.cell? ⟨w.heap.size, 0, none⟩ = some (.slice a1 c.tars.length c1) ∧ w'.cell? ⟨w.heap.size, 1, none⟩ = some (.int .i64 c.day) ∧ w'.cell? ⟨w.heap.size, 2, none⟩ = some (.int .i64 c.fee) ∧ w'.cell? ⟨w.heap.size, 3, none⟩ = some (.slice a2 c.flds.length c2)) ∧ Ext (w.alloc (.cells #[.slice a1 c.tars.length c1, .int .i64 c.day, .int .i64 c.fee, .slice a2 c.flds.length c2] 25)) w') := Lib.hid (fun w' hx => ⟨⟨hx.keep (by simp [go_sem]), hx.keep (by simp [go_sem]), hx.keep (by simp [go_sem]), hx.keep (by simp [go_sem])⟩, hx⟩)
    have HSf : Hid (∀ w', Ext (w.alloc (.cells #[.slice a1 c.tars.length c1, .int .i64 c.day, .int .i64 c.fee, .slice a2 c.flds.length c2] 25)) w' → ∀ o, w'.frozen? ⟨w.heap.size, o, none⟩ = false) := Lib.hid (fun w' hx o => (hx.frozen (by simp)).trans (by simp [go_sem]))
    have HSz : w.heap.size + 1 ≤ (w.alloc (.cells #[.slice a1 c.tars.length c1, .int .i64 c.day, .int .i64 c.fee, .slice a2 c.flds.length c2] 25)).heap.size := by simp
    generalize (w.alloc (.cells #[.slice a1 c.tars.length c1, .int .i64 c.day, .int .i64 c.fee, .slice a2 c.flds.length c2] 25)) = W at *
    (with_reducible refine (HTH.out _ X).mono ?_)
    rintro e w1 ⟨rfl, hx1⟩
    have X1 := X.trans hx1
    obtain ⟨q0, q1, q2, q3⟩ := (HS.out w1 hx1).1
    clear X hx1 HTH HS HSf HSz
    go_wp2_with fail
    (with_reducible refine (HAW.out _).mono ?_)
    rintro e w2 ⟨rfl, hx⟩
    have hy : Ext w1 w2 := by (repeat (first | exact Ext.refl _ | (with_reducible assumption) | (with_reducible refine Ext.drew ?_) | (with_reducible refine Ext.alloc ?_ _) | (with_reducible refine Ext.drewN ?_ _) | (with_reducible refine Ext.setCell ?_ (by omega) _) | (with_reducible refine Ext.trans ?_ (by with_reducible assumption))))
    replace X1 := X1.trans hy
    clear hx hy
    go_wp2_with fail
    go_ret
    exact ⟨rfl, X1⟩
  | true =>
    rw [hr] at HTH
    have hcv := HV.out.toV hr
    have htt := thinCas_tars hr
    by_cases h6 : 6 < t.length
    · have hd1 : decide ((6 : Int) < (t.length : Int)) = true := decide_eq_true (by omega)
      have hd2 : decide (6 < t.length) = true := decide_eq_true h6
      have hd3 : (6 : Int) < (t.length : Int) := by omega
      clear HV HT hr hcv htt
      go_enter Tryz.func13, Tryz.ntmps13
      go_wp2_with fail
      have X : Ext w (w.alloc (.cells #[.slice a1 c.tars.length c1, .int .i64 c.day, .int .i64 c.fee, .slice a2 c.flds.length c2] 25)) := by (repeat (first | exact Ext.refl _ | (with_reducible assumption) | (with_reducible refine Ext.drew ?_) | (with_reducible refine Ext.alloc ?_ _) | (with_reducible refine Ext.drewN ?_ _) | (with_reducible refine Ext.setCell ?_ (by omega) _) | (with_reducible refine Ext.trans ?_ (by with_reducible assumption))))
      have HS : Hid (∀ w', Ext (w.alloc (.cells #[.slice a1 c.tars.length c1, .int .i64 c.day, .int .i64 c.fee, .slice a2 c.flds.length c2] 25)) w' → (w'.cell? ⟨w.heap.size, 0, none⟩ = some (.slice a1 c.tars.length c1) ∧ w'.cell? ⟨w.heap.size, 1, none⟩ = some (.int .i64 c.day) ∧ w'.cell? ⟨w.heap.size, 2, none⟩ = some (.int .i64 c.fee) ∧ w'.cell? ⟨w.heap.size, 3, none⟩ = some (.slice a2 c.flds.length c2)) ∧ Ext (w.alloc (.cells #[.slice a1 c.tars.length c1, .int .i64 c.day, .int .i64 c.fee, .slice a2 c.flds.length c2] 25)) w') := Lib.hid (fun w' hx => ⟨⟨hx.keep (by simp [go_sem]), hx.keep (by simp [go_sem]), hx.keep (by simp [go_sem]), hx.keep (by simp [go_sem])⟩, hx⟩)
      have HSf : Hid (∀ w', Ext (w.alloc (.cells #[.slice a1 c.tars.length c1, .int .i64 c.day, .int .i64 c.fee, .slice a2 c.flds.length c2] 25)) w' → ∀ o, w'.frozen? ⟨w.heap.size, o, none⟩ = false) := Lib.hid (fun w' hx o => (hx.frozen (by simp)).trans (by simp [go_sem]))
      have HSz : w.heap.size + 1 ≤ (w.alloc (.cells #[.slice a1 c.tars.length c1, .int .i64 c.day, .int .i64 c.fee, .slice a2 c.flds.length c2] 25)).heap.size := by simp
      generalize (w.alloc (.cells #[.slice a1 c.tars.length c1, .int .i64 c.day, .int .i64 c.fee, .slice a2 c.flds.length c2] 25)) = W at *
      (with_reducible refine (HTH.out _ X).mono ?_)
      rintro e w1 ⟨rfl, hx1⟩
      have X1 := X.trans hx1
      obtain ⟨q0, q1, q2, q3⟩ := (HS.out w1 hx1).1
      clear X hx1 HTH HS HSf HSz
      go_wp2_with fail
      (with_reducible refine (HAW.out _).mono ?_)
      rintro e w2 ⟨rfl, hx⟩
      have hy : Ext w1 w2 := by (repeat (first | exact Ext.refl _ | (with_reducible assumption) | (with_reducible refine Ext.drew ?_) | (with_reducible refine Ext.alloc ?_ _) | (with_reducible refine Ext.drewN ?_ _) | (with_reducible refine Ext.setCell ?_ (by omega) _) | (with_reducible refine Ext.trans ?_ (by with_reducible assumption))))
      replace X1 := X1.trans hy
      clear hx hy
      go_wp2_with fail
      go_ret
      exact ⟨rfl, X1⟩
    · have hd1 : decide ((6 : Int) < (t.length : Int)) = false := decide_eq_false (by omega)
      have hd2 : decide (6 < t.length) = false := decide_eq_false h6
      have hd3 : (t.length : Int) ≤ (6 : Int) := by omega
      have hth := HT.out.toV (by omega)
      have HTV := Lib.hid hth
      have HCA : Hid (∀ W, Ext w W → Calls Tryz.prog 18 #[.agg #[.slice a1 c.tars.length c1, .int .i64 c.day, .int .i64 c.fee, .slice a2 c.flds.length c2]] W fun e w' => ∃ v', e = .returned v' ∧ CasV w' v' c ∧ Ext W w') := Lib.hid (fun W hx => Case_any c _ W (hcv.ext hx) htt)
      have HTR : Hid (∀ W, Ext w W → Calls Tryz.prog 37 #[.slice at' t.length qt] W fun e w' => ∃ v', e = .returned v' ∧ ThrsV w' v' t ∧ Ext W w') := Lib.hid (fun W hx => TruthL_any t _ W (hth.ext hx))
      have HFT : Hid (∀ W, Ext w W → Calls Tryz.prog 28 #[.agg #[.slice a1 c.tars.length c1, .int .i64 c.day, .int .i64 c.fee, .slice a2 c.flds.length c2]] W fun e w' => e = .returned (.int .i64 (caseE c)) ∧ Ext W w') := Lib.hid (fun W hx => faultU_any c _ W (hcv.ext hx))
      have HCK : Hid (∀ v' W, CasV W v' c → Calls Tryz.prog 44 #[v'] W fun e w' => e = .returned (.int .i64 (caseE c)) ∧ Ext W w') := Lib.hid (fun v' W h => check_u c v' W h)
      have HIT : Hid (∀ W, Ext w W → Calls Tryz.prog 45 #[.agg #[.slice a1 c.tars.length c1, .int .i64 c.day, .int .i64 c.fee, .slice a2 c.flds.length c2], .slice at' t.length qt] W fun e w' => e = .returned (.bool (listedB c t)) ∧ Ext W w') := Lib.hid (fun W hx => IsTruth_any c _ t _ W (hcv.ext hx) (hth.ext hx))
      have HZS : Hid (∀ W, Calls Tryz.prog 46 #[.agg #[.slice none 0 0, .int .i64 0, .int .i64 0, .int .i64 0], .agg #[.slice none 0 0, .int .i64 0, .int .i64 0, .int .i64 0]] W fun e w' => e = .returned (.bool true) ∧ Ext W w') := Lib.hid (fun W => sameU_any _ _ [] [] 0 0 0 0 0 0 W (IntsV.nil W) (IntsV.nil W) (by simp) (by simp))
      clear HV HT hr
      by_cases hE : caseE c = 0
      · rw [hE] at HFT HCK
        cases hL : listedB c t with
        | true =>
          rw [hL] at HIT
          have hpl : playE c t = 0 := by unfold playE; rw [if_neg (by rw [hE]; simp), hL]; rfl
          have htr : TruthOf c.flds t := truthOf_iff.2 (listedB_iff.1 hL)
          have hok := caseE_zero hE
          have h0 := caseE_tars hE
          have htl := (truthOf_iff.1 htr).1
          have hn3 := hok.few
          have HPL : Hid (∀ v' u' W, CasV W v' c → ThrsV W u' t → Calls Tryz.prog 36 #[v', u'] W fun e w' => ∃ a q, e = .returned (.tuple #[.agg #[.slice a c.flds.length q, .int .i64 (sumT c c.flds t).award, .int .i64 (feeA c.fee (sumT c c.flds t)), .int .i64 (feeB c.fee (sumT c c.flds t))], .int .i64 0]) ∧ IntsV w' (.slice a c.flds.length q) (countsT c.flds t) ∧ Ext W w') := Lib.hid (fun v' u' W h1 h2 => (Play_good c v' _ u' W h1 h2 hpl).mono (fun e w' ⟨r, he, a, q, hr, hi, hx⟩ => ⟨a, q, by rw [he, hr], hi, hx⟩))
          have HRP : Hid (∀ W, Ext w W → Calls Tryz.prog 34 #[.agg #[.slice a1 c.tars.length c1, .int .i64 c.day, .int .i64 c.fee, .slice a2 c.flds.length c2], .slice at' t.length qt] W fun e w' => ∃ a q, e = .returned (.agg #[.slice a c.flds.length q, .int .i64 (sumT c c.flds t).award, .int .i64 (feeA c.fee (sumT c c.flds t)), .int .i64 (feeB c.fee (sumT c c.flds t))]) ∧ IntsV w' (.slice a c.flds.length q) (countsT c.flds t) ∧ Ext W w') := Lib.hid (fun W hx => RPlay_any c _ t _ W (hcv.ext hx) hok h0 (hth.ext hx) htr)
          have hcl3 : (countsT c.flds t).length ≤ 1000 := by rw [countsT_len htl]; omega
          have HPR : Hid (∀ v' u' W, CasV W v' c → ThrsV W u' t → Calls Tryz.prog 43 #[v', u', .int .i64 n] W fun e w' => e = .returned (.bool ((sumT c c.flds t).award == n)) ∧ Ext W w') := Lib.hid (fun v' u' W h1 h2 => by
            have := Prove_u c v' t u' n W h1 h2
            unfold proveB at this
            rw [hpl] at this
            simpa using this)
          have HSM : Hid (∀ va vb A F S W, IntsV W va (countsT c.flds t) → IntsV W vb (countsT c.flds t) → Calls Tryz.prog 46 #[.agg #[va, .int .i64 A, .int .i64 F, .int .i64 S], .agg #[vb, .int .i64 A, .int .i64 F, .int .i64 S]] W fun e w' => e = .returned (.bool true) ∧ Ext W w') := Lib.hid (fun va vb A F S W h1 h2 => by
            have := sameU_any va vb _ _ A F S A F S W h1 h2 hcl3 hcl3
            rw [sameI_self] at this
            simpa using this)
          clear hcv htt hth HTV hE hL hpl htr hok h0 htl hn3 hcl3 HZS
          generalize countsT c.flds t = cs at *
          generalize (sumT c c.flds t).award = A at *
          generalize feeA c.fee (sumT c c.flds t) = F at *
          generalize feeB c.fee (sumT c c.flds t) = S at *
          rcases Decidable.em (A = n) with hAn | hAn
          · subst hAn
            simp only [beq_self_eq_true] at HPR
            go_enter Tryz.func13, Tryz.ntmps13
            go_wp2_with fail
            have X : Ext w (w.alloc (.cells #[.slice a1 c.tars.length c1, .int .i64 c.day, .int .i64 c.fee, .slice a2 c.flds.length c2] 25)) := by (repeat (first | exact Ext.refl _ | (with_reducible assumption) | (with_reducible refine Ext.drew ?_) | (with_reducible refine Ext.alloc ?_ _) | (with_reducible refine Ext.drewN ?_ _) | (with_reducible refine Ext.setCell ?_ (by omega) _) | (with_reducible refine Ext.trans ?_ (by with_reducible assumption))))
            have HS : Hid (∀ w', Ext (w.alloc (.cells #[.slice a1 c.tars.length c1, .int .i64 c.day, .int .i64 c.fee, .slice a2 c.flds.length c2] 25)) w' → (w'.cell? ⟨w.heap.size, 0, none⟩ = some (.slice a1 c.tars.length c1) ∧ w'.cell? ⟨w.heap.size, 1, none⟩ = some (.int .i64 c.day) ∧ w'.cell? ⟨w.heap.size, 2, none⟩ = some (.int .i64 c.fee) ∧ w'.cell? ⟨w.heap.size, 3, none⟩ = some (.slice a2 c.flds.length c2)) ∧ Ext (w.alloc (.cells #[.slice a1 c.tars.length c1, .int .i64 c.day, .int .i64 c.fee, .slice a2 c.flds.length c2] 25)) w') := Lib.hid (fun w' hx => ⟨⟨hx.keep (by simp [go_sem]), hx.keep (by simp [go_sem]), hx.keep (by simp [go_sem]), hx.keep (by simp [go_sem])⟩, hx⟩)
            have HSf : Hid (∀ w', Ext (w.alloc (.cells #[.slice a1 c.tars.length c1, .int .i64 c.day, .int .i64 c.fee, .slice a2 c.flds.length c2] 25)) w' → ∀ o, w'.frozen? ⟨w.heap.size, o, none⟩ = false) := Lib.hid (fun w' hx o => (hx.frozen (by simp)).trans (by simp [go_sem]))
            have HSz : w.heap.size + 1 ≤ (w.alloc (.cells #[.slice a1 c.tars.length c1, .int .i64 c.day, .int .i64 c.fee, .slice a2 c.flds.length c2] 25)).heap.size := by simp
            generalize (w.alloc (.cells #[.slice a1 c.tars.length c1, .int .i64 c.day, .int .i64 c.fee, .slice a2 c.flds.length c2] 25)) = W at *
            (with_reducible refine (HTH.out _ X).mono ?_)
            rintro e w1 ⟨rfl, hx1⟩
            have X1 := X.trans hx1
            obtain ⟨q0, q1, q2, q3⟩ := (HS.out w1 hx1).1
            clear X hx1 HTH HS HSf HSz
            go_wp2_with fail
            (with_reducible refine (HCA.out _ X1).mono ?_)
            rintro e w2 ⟨vc, rfl, hv, hx⟩
            have hy : Ext w1 w2 := by (repeat (first | exact Ext.refl _ | (with_reducible assumption) | (with_reducible refine Ext.drew ?_) | (with_reducible refine Ext.alloc ?_ _) | (with_reducible refine Ext.drewN ?_ _) | (with_reducible refine Ext.setCell ?_ (by omega) _) | (with_reducible refine Ext.trans ?_ (by with_reducible assumption))))
            replace X1 := X1.trans hy
            replace q0 := hy.keep q0
            replace q1 := hy.keep q1
            replace q2 := hy.keep q2
            replace q3 := hy.keep q3
            clear hx hy
            go_wp2_with fail
            (with_reducible refine (HTR.out _ X1).mono ?_)
            rintro e w3 ⟨vq, rfl, hqv, hx⟩
            have hy : Ext w2 w3 := by (repeat (first | exact Ext.refl _ | (with_reducible assumption) | (with_reducible refine Ext.drew ?_) | (with_reducible refine Ext.alloc ?_ _) | (with_reducible refine Ext.drewN ?_ _) | (with_reducible refine Ext.setCell ?_ (by omega) _) | (with_reducible refine Ext.trans ?_ (by with_reducible assumption))))
            replace X1 := X1.trans hy
            replace q0 := hy.keep q0
            replace q1 := hy.keep q1
            replace q2 := hy.keep q2
            replace q3 := hy.keep q3
            replace hv := hv.ext hy
            clear hx hy
            go_wp2_with fail
            (with_reducible refine (HPL.out _ _ _ hv hqv).mono ?_)
            rintro e w4 ⟨ar, qr, rfl, hri, hx⟩
            have hy : Ext w3 w4 := by (repeat (first | exact Ext.refl _ | (with_reducible assumption) | (with_reducible refine Ext.drew ?_) | (with_reducible refine Ext.alloc ?_ _) | (with_reducible refine Ext.drewN ?_ _) | (with_reducible refine Ext.setCell ?_ (by omega) _) | (with_reducible refine Ext.trans ?_ (by with_reducible assumption))))
            replace X1 := X1.trans hy
            replace q0 := hy.keep q0
            try clear q0_a
            have q0_a := fun o => ((Ext.refl w4).alloc o).keep q0
            replace q1 := hy.keep q1
            try clear q1_a
            have q1_a := fun o => ((Ext.refl w4).alloc o).keep q1
            replace q2 := hy.keep q2
            try clear q2_a
            have q2_a := fun o => ((Ext.refl w4).alloc o).keep q2
            replace q3 := hy.keep q3
            try clear q3_a
            have q3_a := fun o => ((Ext.refl w4).alloc o).keep q3
            clear hx hy
            clear hv hqv HPL
            go_wp2_with fail
            (with_reducible refine (HCA.out _ (X1.trans (by (repeat (first | exact Ext.refl _ | (with_reducible assumption) | (with_reducible refine Ext.drew ?_) | (with_reducible refine Ext.alloc ?_ _) | (with_reducible refine Ext.drewN ?_ _) | (with_reducible refine Ext.setCell ?_ (by omega) _) | (with_reducible refine Ext.trans ?_ (by with_reducible assumption))))))).mono ?_)
            rintro e w5 ⟨vc, rfl, hv, hx⟩
            have hy : Ext w4 w5 := by (repeat (first | exact Ext.refl _ | (with_reducible assumption) | (with_reducible refine Ext.drew ?_) | (with_reducible refine Ext.alloc ?_ _) | (with_reducible refine Ext.drewN ?_ _) | (with_reducible refine Ext.setCell ?_ (by omega) _) | (with_reducible refine Ext.trans ?_ (by with_reducible assumption))))
            have b0 := hx.keep (k := w4.heap.size) (o := 0) (v := .slice ar c.flds.length qr) (by simp [go_sem])
            have b1 := hx.keep (k := w4.heap.size) (o := 1) (v := .int .i64 A) (by simp [go_sem])
            have b2 := hx.keep (k := w4.heap.size) (o := 2) (v := .int .i64 F) (by simp [go_sem])
            have b3 := hx.keep (k := w4.heap.size) (o := 3) (v := .int .i64 S) (by simp [go_sem])
            replace X1 := X1.trans hy
            replace q0 := hy.keep q0
            replace q1 := hy.keep q1
            replace q2 := hy.keep q2
            replace q3 := hy.keep q3
            replace hri := hri.ext hy
            clear hx hy
            clear q0_a q1_a q2_a q3_a
            go_wp2_with fail
            (with_reducible refine (HTR.out _ X1).mono ?_)
            rintro e w6 ⟨vq, rfl, hqv, hx⟩
            have hy : Ext w5 w6 := by (repeat (first | exact Ext.refl _ | (with_reducible assumption) | (with_reducible refine Ext.drew ?_) | (with_reducible refine Ext.alloc ?_ _) | (with_reducible refine Ext.drewN ?_ _) | (with_reducible refine Ext.setCell ?_ (by omega) _) | (with_reducible refine Ext.trans ?_ (by with_reducible assumption))))
            replace X1 := X1.trans hy
            replace q0 := hy.keep q0
            replace q1 := hy.keep q1
            replace q2 := hy.keep q2
            replace q3 := hy.keep q3
            replace hv := hv.ext hy
            replace hri := hri.ext hy
            replace b0 := hy.keep b0
            replace b1 := hy.keep b1
            replace b2 := hy.keep b2
            replace b3 := hy.keep b3
            clear hx hy
            go_wp2_with fail
            (with_reducible refine (HPR.out _ _ _ hv hqv).mono ?_)
            rintro e w7 ⟨rfl, hx⟩
            have hy : Ext w6 w7 := by (repeat (first | exact Ext.refl _ | (with_reducible assumption) | (with_reducible refine Ext.drew ?_) | (with_reducible refine Ext.alloc ?_ _) | (with_reducible refine Ext.drewN ?_ _) | (with_reducible refine Ext.setCell ?_ (by omega) _) | (with_reducible refine Ext.trans ?_ (by with_reducible assumption))))
            replace X1 := X1.trans hy
            replace q0 := hy.keep q0
            replace q1 := hy.keep q1
            replace q2 := hy.keep q2
            replace q3 := hy.keep q3
            replace hri := hri.ext hy
            replace b0 := hy.keep b0
            replace b1 := hy.keep b1
            replace b2 := hy.keep b2
            replace b3 := hy.keep b3
            clear hx hy
            clear hv hqv HPR HTR
            go_wp2_with fail
            (with_reducible refine (HFT.out _ X1).mono ?_)
            rintro e w8 ⟨rfl, hx⟩
            have hy : Ext w7 w8 := by (repeat (first | exact Ext.refl _ | (with_reducible assumption) | (with_reducible refine Ext.drew ?_) | (with_reducible refine Ext.alloc ?_ _) | (with_reducible refine Ext.drewN ?_ _) | (with_reducible refine Ext.setCell ?_ (by omega) _) | (with_reducible refine Ext.trans ?_ (by with_reducible assumption))))
            replace X1 := X1.trans hy
            replace q0 := hy.keep q0
            replace q1 := hy.keep q1
            replace q2 := hy.keep q2
            replace q3 := hy.keep q3
            replace hri := hri.ext hy
            replace b0 := hy.keep b0
            replace b1 := hy.keep b1
            replace b2 := hy.keep b2
            replace b3 := hy.keep b3
            clear hx hy
            go_wp2_with fail
            (with_reducible refine (HCA.out _ X1).mono ?_)
            rintro e w9 ⟨vc, rfl, hv, hx⟩
            have hy : Ext w8 w9 := by (repeat (first | exact Ext.refl _ | (with_reducible assumption) | (with_reducible refine Ext.drew ?_) | (with_reducible refine Ext.alloc ?_ _) | (with_reducible refine Ext.drewN ?_ _) | (with_reducible refine Ext.setCell ?_ (by omega) _) | (with_reducible refine Ext.trans ?_ (by with_reducible assumption))))
            replace X1 := X1.trans hy
            replace q0 := hy.keep q0
            replace q1 := hy.keep q1
            replace q2 := hy.keep q2
            replace q3 := hy.keep q3
            replace hri := hri.ext hy
            replace b0 := hy.keep b0
            replace b1 := hy.keep b1
            replace b2 := hy.keep b2
            replace b3 := hy.keep b3
            clear hx hy
            go_wp2_with fail
            (with_reducible refine (HCK.out _ _ hv).mono ?_)
            rintro e w10 ⟨rfl, hx⟩
            have hy : Ext w9 w10 := by (repeat (first | exact Ext.refl _ | (with_reducible assumption) | (with_reducible refine Ext.drew ?_) | (with_reducible refine Ext.alloc ?_ _) | (with_reducible refine Ext.drewN ?_ _) | (with_reducible refine Ext.setCell ?_ (by omega) _) | (with_reducible refine Ext.trans ?_ (by with_reducible assumption))))
            replace X1 := X1.trans hy
            replace q0 := hy.keep q0
            replace q1 := hy.keep q1
            replace q2 := hy.keep q2
            replace q3 := hy.keep q3
            replace hri := hri.ext hy
            replace b0 := hy.keep b0
            replace b1 := hy.keep b1
            replace b2 := hy.keep b2
            replace b3 := hy.keep b3
            clear hx hy
            clear hv HCK HCA HFT
            go_wp2_with fail
            (with_reducible refine (HIT.out _ X1).mono ?_)
            rintro e w11 ⟨rfl, hx⟩
            have hy : Ext w10 w11 := by (repeat (first | exact Ext.refl _ | (with_reducible assumption) | (with_reducible refine Ext.drew ?_) | (with_reducible refine Ext.alloc ?_ _) | (with_reducible refine Ext.drewN ?_ _) | (with_reducible refine Ext.setCell ?_ (by omega) _) | (with_reducible refine Ext.trans ?_ (by with_reducible assumption))))
            replace X1 := X1.trans hy
            replace q0 := hy.keep q0
            replace q1 := hy.keep q1
            replace q2 := hy.keep q2
            replace q3 := hy.keep q3
            replace hri := hri.ext hy
            replace b0 := hy.keep b0
            replace b1 := hy.keep b1
            replace b2 := hy.keep b2
            replace b3 := hy.keep b3
            clear hx hy
            go_wp2_with fail
            (with_reducible refine (HRP.out _ X1).mono ?_)
            rintro e w12 ⟨as', qs, rfl, hsi, hx⟩
            have hy : Ext w11 w12 := by (repeat (first | exact Ext.refl _ | (with_reducible assumption) | (with_reducible refine Ext.drew ?_) | (with_reducible refine Ext.alloc ?_ _) | (with_reducible refine Ext.drewN ?_ _) | (with_reducible refine Ext.setCell ?_ (by omega) _) | (with_reducible refine Ext.trans ?_ (by with_reducible assumption))))
            replace X1 := X1.trans hy
            replace hri := hri.ext hy
            replace b0 := hy.keep b0
            try clear b0_a
            have b0_a := fun o => ((Ext.refl w12).alloc o).keep b0
            replace b1 := hy.keep b1
            try clear b1_a
            have b1_a := fun o => ((Ext.refl w12).alloc o).keep b1
            replace b2 := hy.keep b2
            try clear b2_a
            have b2_a := fun o => ((Ext.refl w12).alloc o).keep b2
            replace b3 := hy.keep b3
            try clear b3_a
            have b3_a := fun o => ((Ext.refl w12).alloc o).keep b3
            clear hx hy
            clear q0 q1 q2 q3 HIT HRP
            go_wp2_with fail
            (with_reducible refine (HSM.out _ _ _ _ _ _ (hri.ext (by (repeat (first | exact Ext.refl _ | (with_reducible assumption) | (with_reducible refine Ext.drew ?_) | (with_reducible refine Ext.alloc ?_ _) | (with_reducible refine Ext.drewN ?_ _) | (with_reducible refine Ext.setCell ?_ (by omega) _) | (with_reducible refine Ext.trans ?_ (by with_reducible assumption)))))) (hsi.ext (by (repeat (first | exact Ext.refl _ | (with_reducible assumption) | (with_reducible refine Ext.drew ?_) | (with_reducible refine Ext.alloc ?_ _) | (with_reducible refine Ext.drewN ?_ _) | (with_reducible refine Ext.setCell ?_ (by omega) _) | (with_reducible refine Ext.trans ?_ (by with_reducible assumption))))))).mono ?_)
            rintro e w13 ⟨rfl, hx⟩
            have hy : Ext w12 w13 := by (repeat (first | exact Ext.refl _ | (with_reducible assumption) | (with_reducible refine Ext.drew ?_) | (with_reducible refine Ext.alloc ?_ _) | (with_reducible refine Ext.drewN ?_ _) | (with_reducible refine Ext.setCell ?_ (by omega) _) | (with_reducible refine Ext.trans ?_ (by with_reducible assumption))))
            have dd0 := hx.keep (k := w12.heap.size) (o := 0) (v := .slice as' c.flds.length qs) (by simp [go_sem])
            have dd1 := hx.keep (k := w12.heap.size) (o := 1) (v := .int .i64 A) (by simp [go_sem])
            have dd2 := hx.keep (k := w12.heap.size) (o := 2) (v := .int .i64 F) (by simp [go_sem])
            have dd3 := hx.keep (k := w12.heap.size) (o := 3) (v := .int .i64 S) (by simp [go_sem])
            replace X1 := X1.trans hy
            clear hx hy
            go_wp2_with fail
            (with_reducible refine (HAW.out _).mono ?_)
            rintro e w14 ⟨rfl, hx⟩
            have hy : Ext w13 w14 := by (repeat (first | exact Ext.refl _ | (with_reducible assumption) | (with_reducible refine Ext.drew ?_) | (with_reducible refine Ext.alloc ?_ _) | (with_reducible refine Ext.drewN ?_ _) | (with_reducible refine Ext.setCell ?_ (by omega) _) | (with_reducible refine Ext.trans ?_ (by with_reducible assumption))))
            replace X1 := X1.trans hy
            clear hx hy
            go_wp2_with fail
            go_ret
            exact ⟨rfl, X1⟩
          · have e1 : (A == n) = false := by simp [hAn]
            have e2 : (n == A) = false := by rw [beq_eq_false_iff_ne]; exact fun h => hAn h.symm
            rw [e1] at HPR
            clear e1
            go_enter Tryz.func13, Tryz.ntmps13
            go_wp2_with fail
            have X : Ext w (w.alloc (.cells #[.slice a1 c.tars.length c1, .int .i64 c.day, .int .i64 c.fee, .slice a2 c.flds.length c2] 25)) := by (repeat (first | exact Ext.refl _ | (with_reducible assumption) | (with_reducible refine Ext.drew ?_) | (with_reducible refine Ext.alloc ?_ _) | (with_reducible refine Ext.drewN ?_ _) | (with_reducible refine Ext.setCell ?_ (by omega) _) | (with_reducible refine Ext.trans ?_ (by with_reducible assumption))))
            have HS : Hid (∀ w', Ext (w.alloc (.cells #[.slice a1 c.tars.length c1, .int .i64 c.day, .int .i64 c.fee, .slice a2 c.flds.length c2] 25)) w' → (w'.cell? ⟨w.heap.size, 0, none⟩ = some (.slice a1 c.tars.length c1) ∧ w'.cell? ⟨w.heap.size, 1, none⟩ = some (.int .i64 c.day) ∧ w'.cell? ⟨w.heap.size, 2, none⟩ = some (.int .i64 c.fee) ∧ w'.cell? ⟨w.heap.size, 3, none⟩ = some (.slice a2 c.flds.length c2)) ∧ Ext (w.alloc (.cells #[.slice a1 c.tars.length c1, .int .i64 c.day, .int .i64 c.fee, .slice a2 c.flds.length c2] 25)) w') := Lib.hid (fun w' hx => ⟨⟨hx.keep (by simp [go_sem]), hx.keep (by simp [go_sem]), hx.keep (by simp [go_sem]), hx.keep (by simp [go_sem])⟩, hx⟩)
            have HSf : Hid (∀ w', Ext (w.alloc (.cells #[.slice a1 c.tars.length c1, .int .i64 c.day, .int .i64 c.fee, .slice a2 c.flds.length c2] 25)) w' → ∀ o, w'.frozen? ⟨w.heap.size, o, none⟩ = false) := Lib.hid (fun w' hx o => (hx.frozen (by simp)).trans (by simp [go_sem]))
            have HSz : w.heap.size + 1 ≤ (w.alloc (.cells #[.slice a1 c.tars.length c1, .int .i64 c.day, .int .i64 c.fee, .slice a2 c.flds.length c2] 25)).heap.size := by simp
            generalize (w.alloc (.cells #[.slice a1 c.tars.length c1, .int .i64 c.day, .int .i64 c.fee, .slice a2 c.flds.length c2] 25)) = W at *
            (with_reducible refine (HTH.out _ X).mono ?_)
            rintro e w1 ⟨rfl, hx1⟩
            have X1 := X.trans hx1
            obtain ⟨q0, q1, q2, q3⟩ := (HS.out w1 hx1).1
            clear X hx1 HTH HS HSf HSz
            go_wp2_with fail
            (with_reducible refine (HCA.out _ X1).mono ?_)
            rintro e w2 ⟨vc, rfl, hv, hx⟩
            have hy : Ext w1 w2 := by (repeat (first | exact Ext.refl _ | (with_reducible assumption) | (with_reducible refine Ext.drew ?_) | (with_reducible refine Ext.alloc ?_ _) | (with_reducible refine Ext.drewN ?_ _) | (with_reducible refine Ext.setCell ?_ (by omega) _) | (with_reducible refine Ext.trans ?_ (by with_reducible assumption))))
            replace X1 := X1.trans hy
            replace q0 := hy.keep q0
            replace q1 := hy.keep q1
            replace q2 := hy.keep q2
            replace q3 := hy.keep q3
            clear hx hy
            go_wp2_with fail
            (with_reducible refine (HTR.out _ X1).mono ?_)
            rintro e w3 ⟨vq, rfl, hqv, hx⟩
            have hy : Ext w2 w3 := by (repeat (first | exact Ext.refl _ | (with_reducible assumption) | (with_reducible refine Ext.drew ?_) | (with_reducible refine Ext.alloc ?_ _) | (with_reducible refine Ext.drewN ?_ _) | (with_reducible refine Ext.setCell ?_ (by omega) _) | (with_reducible refine Ext.trans ?_ (by with_reducible assumption))))
            replace X1 := X1.trans hy
            replace q0 := hy.keep q0
            replace q1 := hy.keep q1
            replace q2 := hy.keep q2
            replace q3 := hy.keep q3
            replace hv := hv.ext hy
            clear hx hy
            go_wp2_with fail
            (with_reducible refine (HPL.out _ _ _ hv hqv).mono ?_)
            rintro e w4 ⟨ar, qr, rfl, hri, hx⟩
            have hy : Ext w3 w4 := by (repeat (first | exact Ext.refl _ | (with_reducible assumption) | (with_reducible refine Ext.drew ?_) | (with_reducible refine Ext.alloc ?_ _) | (with_reducible refine Ext.drewN ?_ _) | (with_reducible refine Ext.setCell ?_ (by omega) _) | (with_reducible refine Ext.trans ?_ (by with_reducible assumption))))
            replace X1 := X1.trans hy
            replace q0 := hy.keep q0
            try clear q0_a
            have q0_a := fun o => ((Ext.refl w4).alloc o).keep q0
            replace q1 := hy.keep q1
            try clear q1_a
            have q1_a := fun o => ((Ext.refl w4).alloc o).keep q1
            replace q2 := hy.keep q2
            try clear q2_a
            have q2_a := fun o => ((Ext.refl w4).alloc o).keep q2
            replace q3 := hy.keep q3
            try clear q3_a
            have q3_a := fun o => ((Ext.refl w4).alloc o).keep q3
            clear hx hy
            clear hv hqv HPL
            go_wp2_with fail
            (with_reducible refine (HCA.out _ (X1.trans (by (repeat (first | exact Ext.refl _ | (with_reducible assumption) | (with_reducible refine Ext.drew ?_) | (with_reducible refine Ext.alloc ?_ _) | (with_reducible refine Ext.drewN ?_ _) | (with_reducible refine Ext.setCell ?_ (by omega) _) | (with_reducible refine Ext.trans ?_ (by with_reducible assumption))))))).mono ?_)
            rintro e w5 ⟨vc, rfl, hv, hx⟩
            have hy : Ext w4 w5 := by (repeat (first | exact Ext.refl _ | (with_reducible assumption) | (with_reducible refine Ext.drew ?_) | (with_reducible refine Ext.alloc ?_ _) | (with_reducible refine Ext.drewN ?_ _) | (with_reducible refine Ext.setCell ?_ (by omega) _) | (with_reducible refine Ext.trans ?_ (by with_reducible assumption))))
            have b0 := hx.keep (k := w4.heap.size) (o := 0) (v := .slice ar c.flds.length qr) (by simp [go_sem])
            have b1 := hx.keep (k := w4.heap.size) (o := 1) (v := .int .i64 A) (by simp [go_sem])
            have b2 := hx.keep (k := w4.heap.size) (o := 2) (v := .int .i64 F) (by simp [go_sem])
            have b3 := hx.keep (k := w4.heap.size) (o := 3) (v := .int .i64 S) (by simp [go_sem])
            replace X1 := X1.trans hy
            replace q0 := hy.keep q0
            replace q1 := hy.keep q1
            replace q2 := hy.keep q2
            replace q3 := hy.keep q3
            replace hri := hri.ext hy
            clear hx hy
            clear q0_a q1_a q2_a q3_a
            go_wp2_with fail
            (with_reducible refine (HTR.out _ X1).mono ?_)
            rintro e w6 ⟨vq, rfl, hqv, hx⟩
            have hy : Ext w5 w6 := by (repeat (first | exact Ext.refl _ | (with_reducible assumption) | (with_reducible refine Ext.drew ?_) | (with_reducible refine Ext.alloc ?_ _) | (with_reducible refine Ext.drewN ?_ _) | (with_reducible refine Ext.setCell ?_ (by omega) _) | (with_reducible refine Ext.trans ?_ (by with_reducible assumption))))
            replace X1 := X1.trans hy
            replace q0 := hy.keep q0
            replace q1 := hy.keep q1
            replace q2 := hy.keep q2
            replace q3 := hy.keep q3
            replace hv := hv.ext hy
            replace hri := hri.ext hy
            replace b0 := hy.keep b0
            replace b1 := hy.keep b1
            replace b2 := hy.keep b2
            replace b3 := hy.keep b3
            clear hx hy
            go_wp2_with fail
            (with_reducible refine (HPR.out _ _ _ hv hqv).mono ?_)
            rintro e w7 ⟨rfl, hx⟩
            have hy : Ext w6 w7 := by (repeat (first | exact Ext.refl _ | (with_reducible assumption) | (with_reducible refine Ext.drew ?_) | (with_reducible refine Ext.alloc ?_ _) | (with_reducible refine Ext.drewN ?_ _) | (with_reducible refine Ext.setCell ?_ (by omega) _) | (with_reducible refine Ext.trans ?_ (by with_reducible assumption))))
            replace X1 := X1.trans hy
            replace q0 := hy.keep q0
            replace q1 := hy.keep q1
            replace q2 := hy.keep q2
            replace q3 := hy.keep q3
            replace hri := hri.ext hy
            replace b0 := hy.keep b0
            replace b1 := hy.keep b1
            replace b2 := hy.keep b2
            replace b3 := hy.keep b3
            clear hx hy
            clear hv hqv HPR HTR
            go_wp2_with fail
            (with_reducible refine (HFT.out _ X1).mono ?_)
            rintro e w8 ⟨rfl, hx⟩
            have hy : Ext w7 w8 := by (repeat (first | exact Ext.refl _ | (with_reducible assumption) | (with_reducible refine Ext.drew ?_) | (with_reducible refine Ext.alloc ?_ _) | (with_reducible refine Ext.drewN ?_ _) | (with_reducible refine Ext.setCell ?_ (by omega) _) | (with_reducible refine Ext.trans ?_ (by with_reducible assumption))))
            replace X1 := X1.trans hy
            replace q0 := hy.keep q0
            replace q1 := hy.keep q1
            replace q2 := hy.keep q2
            replace q3 := hy.keep q3
            replace hri := hri.ext hy
            replace b0 := hy.keep b0
            replace b1 := hy.keep b1
            replace b2 := hy.keep b2
            replace b3 := hy.keep b3
            clear hx hy
            go_wp2_with fail
            (with_reducible refine (HCA.out _ X1).mono ?_)
            rintro e w9 ⟨vc, rfl, hv, hx⟩
            have hy : Ext w8 w9 := by (repeat (first | exact Ext.refl _ | (with_reducible assumption) | (with_reducible refine Ext.drew ?_) | (with_reducible refine Ext.alloc ?_ _) | (with_reducible refine Ext.drewN ?_ _) | (with_reducible refine Ext.setCell ?_ (by omega) _) | (with_reducible refine Ext.trans ?_ (by with_reducible assumption))))
            replace X1 := X1.trans hy
            replace q0 := hy.keep q0
            replace q1 := hy.keep q1
            replace q2 := hy.keep q2
            replace q3 := hy.keep q3
            replace hri := hri.ext hy
            replace b0 := hy.keep b0
            replace b1 := hy.keep b1
            replace b2 := hy.keep b2
            replace b3 := hy.keep b3
            clear hx hy
            go_wp2_with fail
            (with_reducible refine (HCK.out _ _ hv).mono ?_)
            rintro e w10 ⟨rfl, hx⟩
            have hy : Ext w9 w10 := by (repeat (first | exact Ext.refl _ | (with_reducible assumption) | (with_reducible refine Ext.drew ?_) | (with_reducible refine Ext.alloc ?_ _) | (with_reducible refine Ext.drewN ?_ _) | (with_reducible refine Ext.setCell ?_ (by omega) _) | (with_reducible refine Ext.trans ?_ (by with_reducible assumption))))
            replace X1 := X1.trans hy
            replace q0 := hy.keep q0
            replace q1 := hy.keep q1
            replace q2 := hy.keep q2
            replace q3 := hy.keep q3
            replace hri := hri.ext hy
            replace b0 := hy.keep b0
            replace b1 := hy.keep b1
            replace b2 := hy.keep b2
            replace b3 := hy.keep b3
            clear hx hy
            clear hv HCK HCA HFT
            go_wp2_with fail
            (with_reducible refine (HIT.out _ X1).mono ?_)
            rintro e w11 ⟨rfl, hx⟩
            have hy : Ext w10 w11 := by (repeat (first | exact Ext.refl _ | (with_reducible assumption) | (with_reducible refine Ext.drew ?_) | (with_reducible refine Ext.alloc ?_ _) | (with_reducible refine Ext.drewN ?_ _) | (with_reducible refine Ext.setCell ?_ (by omega) _) | (with_reducible refine Ext.trans ?_ (by with_reducible assumption))))
            replace X1 := X1.trans hy
            replace q0 := hy.keep q0
            replace q1 := hy.keep q1
            replace q2 := hy.keep q2
            replace q3 := hy.keep q3
            replace hri := hri.ext hy
            replace b0 := hy.keep b0
            replace b1 := hy.keep b1
            replace b2 := hy.keep b2
            replace b3 := hy.keep b3
            clear hx hy
            go_wp2_with fail
            (with_reducible refine (HRP.out _ X1).mono ?_)
            rintro e w12 ⟨as', qs, rfl, hsi, hx⟩
            have hy : Ext w11 w12 := by (repeat (first | exact Ext.refl _ | (with_reducible assumption) | (with_reducible refine Ext.drew ?_) | (with_reducible refine Ext.alloc ?_ _) | (with_reducible refine Ext.drewN ?_ _) | (with_reducible refine Ext.setCell ?_ (by omega) _) | (with_reducible refine Ext.trans ?_ (by with_reducible assumption))))
            replace X1 := X1.trans hy
            replace hri := hri.ext hy
            replace b0 := hy.keep b0
            try clear b0_a
            have b0_a := fun o => ((Ext.refl w12).alloc o).keep b0
            replace b1 := hy.keep b1
            try clear b1_a
            have b1_a := fun o => ((Ext.refl w12).alloc o).keep b1
            replace b2 := hy.keep b2
            try clear b2_a
            have b2_a := fun o => ((Ext.refl w12).alloc o).keep b2
            replace b3 := hy.keep b3
            try clear b3_a
            have b3_a := fun o => ((Ext.refl w12).alloc o).keep b3
            clear hx hy
            clear q0 q1 q2 q3 HIT HRP
            go_wp2_with fail
            (with_reducible refine (HSM.out _ _ _ _ _ _ (hri.ext (by (repeat (first | exact Ext.refl _ | (with_reducible assumption) | (with_reducible refine Ext.drew ?_) | (with_reducible refine Ext.alloc ?_ _) | (with_reducible refine Ext.drewN ?_ _) | (with_reducible refine Ext.setCell ?_ (by omega) _) | (with_reducible refine Ext.trans ?_ (by with_reducible assumption)))))) (hsi.ext (by (repeat (first | exact Ext.refl _ | (with_reducible assumption) | (with_reducible refine Ext.drew ?_) | (with_reducible refine Ext.alloc ?_ _) | (with_reducible refine Ext.drewN ?_ _) | (with_reducible refine Ext.setCell ?_ (by omega) _) | (with_reducible refine Ext.trans ?_ (by with_reducible assumption))))))).mono ?_)
            rintro e w13 ⟨rfl, hx⟩
            have hy : Ext w12 w13 := by (repeat (first | exact Ext.refl _ | (with_reducible assumption) | (with_reducible refine Ext.drew ?_) | (with_reducible refine Ext.alloc ?_ _) | (with_reducible refine Ext.drewN ?_ _) | (with_reducible refine Ext.setCell ?_ (by omega) _) | (with_reducible refine Ext.trans ?_ (by with_reducible assumption))))
            have dd0 := hx.keep (k := w12.heap.size) (o := 0) (v := .slice as' c.flds.length qs) (by simp [go_sem])
            have dd1 := hx.keep (k := w12.heap.size) (o := 1) (v := .int .i64 A) (by simp [go_sem])
            have dd2 := hx.keep (k := w12.heap.size) (o := 2) (v := .int .i64 F) (by simp [go_sem])
            have dd3 := hx.keep (k := w12.heap.size) (o := 3) (v := .int .i64 S) (by simp [go_sem])
            replace X1 := X1.trans hy
            clear hx hy
            go_wp2_with fail
            (with_reducible refine (HAW.out _).mono ?_)
            rintro e w14 ⟨rfl, hx⟩
            have hy : Ext w13 w14 := by (repeat (first | exact Ext.refl _ | (with_reducible assumption) | (with_reducible refine Ext.drew ?_) | (with_reducible refine Ext.alloc ?_ _) | (with_reducible refine Ext.drewN ?_ _) | (with_reducible refine Ext.setCell ?_ (by omega) _) | (with_reducible refine Ext.trans ?_ (by with_reducible assumption))))
            replace X1 := X1.trans hy
            clear hx hy
            go_wp2_with fail
            go_ret
            exact ⟨rfl, X1⟩
        | false =>
          rw [hL] at HIT
          have hpl : playE c t = 2 := by unfold playE; rw [if_neg (by rw [hE]; simp), hL]; rfl
          have HPL : Hid (∀ v' u' W, CasV W v' c → ThrsV W u' t → Calls Tryz.prog 36 #[v', u'] W fun e w' => e = .returned (.tuple #[.agg #[.slice none 0 0, .int .i64 0, .int .i64 0, .int .i64 0], .int .i64 2]) ∧ Ext W w') := Lib.hid (fun v' u' W h1 h2 => hpl ▸ Play_bad c v' _ u' W h1 h2 (by rw [hpl]; simp))
          have HPR : Hid (∀ v' u' W, CasV W v' c → ThrsV W u' t → Calls Tryz.prog 43 #[v', u', .int .i64 n] W fun e w' => e = .returned (.bool false) ∧ Ext W w') := Lib.hid (fun v' u' W h1 h2 => by
            have := Prove_u c v' t u' n W h1 h2
            unfold proveB at this
            rw [hpl] at this
            simpa using this)
          clear hcv htt hth HTV hE hL hpl
          go_enter Tryz.func13, Tryz.ntmps13
          go_wp2_with fail
          have X : Ext w (w.alloc (.cells #[.slice a1 c.tars.length c1, .int .i64 c.day, .int .i64 c.fee, .slice a2 c.flds.length c2] 25)) := by (repeat (first | exact Ext.refl _ | (with_reducible assumption) | (with_reducible refine Ext.drew ?_) | (with_reducible refine Ext.alloc ?_ _) | (with_reducible refine Ext.drewN ?_ _) | (with_reducible refine Ext.setCell ?_ (by omega) _) | (with_reducible refine Ext.trans ?_ (by with_reducible assumption))))
          have HS : Hid (∀ w', Ext (w.alloc (.cells #[.slice a1 c.tars.length c1, .int .i64 c.day, .int .i64 c.fee, .slice a2 c.flds.length c2] 25)) w' → (w'.cell? ⟨w.heap.size, 0, none⟩ = some (.slice a1 c.tars.length c1) ∧ w'.cell? ⟨w.heap.size, 1, none⟩ = some (.int .i64 c.day) ∧ w'.cell? ⟨w.heap.size, 2, none⟩ = some (.int .i64 c.fee) ∧ w'.cell? ⟨w.heap.size, 3, none⟩ = some (.slice a2 c.flds.length c2)) ∧ Ext (w.alloc (.cells #[.slice a1 c.tars.length c1, .int .i64 c.day, .int .i64 c.fee, .slice a2 c.flds.length c2] 25)) w') := Lib.hid (fun w' hx => ⟨⟨hx.keep (by simp [go_sem]), hx.keep (by simp [go_sem]), hx.keep (by simp [go_sem]), hx.keep (by simp [go_sem])⟩, hx⟩)
          have HSf : Hid (∀ w', Ext (w.alloc (.cells #[.slice a1 c.tars.length c1, .int .i64 c.day, .int .i64 c.fee, .slice a2 c.flds.length c2] 25)) w' → ∀ o, w'.frozen? ⟨w.heap.size, o, none⟩ = false) := Lib.hid (fun w' hx o => (hx.frozen (by simp)).trans (by simp [go_sem]))
          have HSz : w.heap.size + 1 ≤ (w.alloc (.cells #[.slice a1 c.tars.length c1, .int .i64 c.day, .int .i64 c.fee, .slice a2 c.flds.length c2] 25)).heap.size := by simp
          generalize (w.alloc (.cells #[.slice a1 c.tars.length c1, .int .i64 c.day, .int .i64 c.fee, .slice a2 c.flds.length c2] 25)) = W at *
          (with_reducible refine (HTH.out _ X).mono ?_)
          rintro e w1 ⟨rfl, hx1⟩
          have X1 := X.trans hx1
          obtain ⟨q0, q1, q2, q3⟩ := (HS.out w1 hx1).1
          clear X hx1 HTH HS HSf HSz
          go_wp2_with fail
          (with_reducible refine (HCA.out _ X1).mono ?_)
          rintro e w2 ⟨vc, rfl, hv, hx⟩
          have hy : Ext w1 w2 := by (repeat (first | exact Ext.refl _ | (with_reducible assumption) | (with_reducible refine Ext.drew ?_) | (with_reducible refine Ext.alloc ?_ _) | (with_reducible refine Ext.drewN ?_ _) | (with_reducible refine Ext.setCell ?_ (by omega) _) | (with_reducible refine Ext.trans ?_ (by with_reducible assumption))))
          replace X1 := X1.trans hy
          replace q0 := hy.keep q0
          replace q1 := hy.keep q1
          replace q2 := hy.keep q2
          replace q3 := hy.keep q3
          clear hx hy
          go_wp2_with fail
          (with_reducible refine (HTR.out _ X1).mono ?_)
          rintro e w3 ⟨vq, rfl, hqv, hx⟩
          have hy : Ext w2 w3 := by (repeat (first | exact Ext.refl _ | (with_reducible assumption) | (with_reducible refine Ext.drew ?_) | (with_reducible refine Ext.alloc ?_ _) | (with_reducible refine Ext.drewN ?_ _) | (with_reducible refine Ext.setCell ?_ (by omega) _) | (with_reducible refine Ext.trans ?_ (by with_reducible assumption))))
          replace X1 := X1.trans hy
          replace q0 := hy.keep q0
          replace q1 := hy.keep q1
          replace q2 := hy.keep q2
          replace q3 := hy.keep q3
          replace hv := hv.ext hy
          clear hx hy
          go_wp2_with fail
          (with_reducible refine (HPL.out _ _ _ hv hqv).mono ?_)
          rintro e w4 ⟨rfl, hx⟩
          have hy : Ext w3 w4 := by (repeat (first | exact Ext.refl _ | (with_reducible assumption) | (with_reducible refine Ext.drew ?_) | (with_reducible refine Ext.alloc ?_ _) | (with_reducible refine Ext.drewN ?_ _) | (with_reducible refine Ext.setCell ?_ (by omega) _) | (with_reducible refine Ext.trans ?_ (by with_reducible assumption))))
          replace X1 := X1.trans hy
          replace q0 := hy.keep q0
          try clear q0_a
          have q0_a := fun o => ((Ext.refl w4).alloc o).keep q0
          replace q1 := hy.keep q1
          try clear q1_a
          have q1_a := fun o => ((Ext.refl w4).alloc o).keep q1
          replace q2 := hy.keep q2
          try clear q2_a
          have q2_a := fun o => ((Ext.refl w4).alloc o).keep q2
          replace q3 := hy.keep q3
          try clear q3_a
          have q3_a := fun o => ((Ext.refl w4).alloc o).keep q3
          clear hx hy
          clear hv hqv HPL
          go_wp2_with fail
          (with_reducible refine (HCA.out _ (X1.trans (by (repeat (first | exact Ext.refl _ | (with_reducible assumption) | (with_reducible refine Ext.drew ?_) | (with_reducible refine Ext.alloc ?_ _) | (with_reducible refine Ext.drewN ?_ _) | (with_reducible refine Ext.setCell ?_ (by omega) _) | (with_reducible refine Ext.trans ?_ (by with_reducible assumption))))))).mono ?_)
          rintro e w5 ⟨vc, rfl, hv, hx⟩
          have hy : Ext w4 w5 := by (repeat (first | exact Ext.refl _ | (with_reducible assumption) | (with_reducible refine Ext.drew ?_) | (with_reducible refine Ext.alloc ?_ _) | (with_reducible refine Ext.drewN ?_ _) | (with_reducible refine Ext.setCell ?_ (by omega) _) | (with_reducible refine Ext.trans ?_ (by with_reducible assumption))))
          have b0 := hx.keep (k := w4.heap.size) (o := 0) (v := .slice none 0 0) (by simp [go_sem])
          have b1 := hx.keep (k := w4.heap.size) (o := 1) (v := .int .i64 0) (by simp [go_sem])
          have b2 := hx.keep (k := w4.heap.size) (o := 2) (v := .int .i64 0) (by simp [go_sem])
          have b3 := hx.keep (k := w4.heap.size) (o := 3) (v := .int .i64 0) (by simp [go_sem])
          replace X1 := X1.trans hy
          replace q0 := hy.keep q0
          replace q1 := hy.keep q1
          replace q2 := hy.keep q2
          replace q3 := hy.keep q3
          clear hx hy
          clear q0_a q1_a q2_a q3_a
          go_wp2_with fail
          (with_reducible refine (HTR.out _ X1).mono ?_)
          rintro e w6 ⟨vq, rfl, hqv, hx⟩
          have hy : Ext w5 w6 := by (repeat (first | exact Ext.refl _ | (with_reducible assumption) | (with_reducible refine Ext.drew ?_) | (with_reducible refine Ext.alloc ?_ _) | (with_reducible refine Ext.drewN ?_ _) | (with_reducible refine Ext.setCell ?_ (by omega) _) | (with_reducible refine Ext.trans ?_ (by with_reducible assumption))))
          replace X1 := X1.trans hy
          replace q0 := hy.keep q0
          replace q1 := hy.keep q1
          replace q2 := hy.keep q2
          replace q3 := hy.keep q3
          replace hv := hv.ext hy
          replace b0 := hy.keep b0
          replace b1 := hy.keep b1
          replace b2 := hy.keep b2
          replace b3 := hy.keep b3
          clear hx hy
          go_wp2_with fail
          (with_reducible refine (HPR.out _ _ _ hv hqv).mono ?_)
          rintro e w7 ⟨rfl, hx⟩
          have hy : Ext w6 w7 := by (repeat (first | exact Ext.refl _ | (with_reducible assumption) | (with_reducible refine Ext.drew ?_) | (with_reducible refine Ext.alloc ?_ _) | (with_reducible refine Ext.drewN ?_ _) | (with_reducible refine Ext.setCell ?_ (by omega) _) | (with_reducible refine Ext.trans ?_ (by with_reducible assumption))))
          replace X1 := X1.trans hy
          replace q0 := hy.keep q0
          replace q1 := hy.keep q1
          replace q2 := hy.keep q2
          replace q3 := hy.keep q3
          replace b0 := hy.keep b0
          replace b1 := hy.keep b1
          replace b2 := hy.keep b2
          replace b3 := hy.keep b3
          clear hx hy
          clear hv hqv HPR HTR
          go_wp2_with fail
          (with_reducible refine (HFT.out _ X1).mono ?_)
          rintro e w8 ⟨rfl, hx⟩
          have hy : Ext w7 w8 := by (repeat (first | exact Ext.refl _ | (with_reducible assumption) | (with_reducible refine Ext.drew ?_) | (with_reducible refine Ext.alloc ?_ _) | (with_reducible refine Ext.drewN ?_ _) | (with_reducible refine Ext.setCell ?_ (by omega) _) | (with_reducible refine Ext.trans ?_ (by with_reducible assumption))))
          replace X1 := X1.trans hy
          replace q0 := hy.keep q0
          replace q1 := hy.keep q1
          replace q2 := hy.keep q2
          replace q3 := hy.keep q3
          replace b0 := hy.keep b0
          replace b1 := hy.keep b1
          replace b2 := hy.keep b2
          replace b3 := hy.keep b3
          clear hx hy
          go_wp2_with fail
          (with_reducible refine (HCA.out _ X1).mono ?_)
          rintro e w9 ⟨vc, rfl, hv, hx⟩
          have hy : Ext w8 w9 := by (repeat (first | exact Ext.refl _ | (with_reducible assumption) | (with_reducible refine Ext.drew ?_) | (with_reducible refine Ext.alloc ?_ _) | (with_reducible refine Ext.drewN ?_ _) | (with_reducible refine Ext.setCell ?_ (by omega) _) | (with_reducible refine Ext.trans ?_ (by with_reducible assumption))))
          replace X1 := X1.trans hy
          replace q0 := hy.keep q0
          replace q1 := hy.keep q1
          replace q2 := hy.keep q2
          replace q3 := hy.keep q3
          replace b0 := hy.keep b0
          replace b1 := hy.keep b1
          replace b2 := hy.keep b2
          replace b3 := hy.keep b3
          clear hx hy
          go_wp2_with fail
          (with_reducible refine (HCK.out _ _ hv).mono ?_)
          rintro e w10 ⟨rfl, hx⟩
          have hy : Ext w9 w10 := by (repeat (first | exact Ext.refl _ | (with_reducible assumption) | (with_reducible refine Ext.drew ?_) | (with_reducible refine Ext.alloc ?_ _) | (with_reducible refine Ext.drewN ?_ _) | (with_reducible refine Ext.setCell ?_ (by omega) _) | (with_reducible refine Ext.trans ?_ (by with_reducible assumption))))
          replace X1 := X1.trans hy
          replace q0 := hy.keep q0
          replace q1 := hy.keep q1
          replace q2 := hy.keep q2
          replace q3 := hy.keep q3
          replace b0 := hy.keep b0
          replace b1 := hy.keep b1
          replace b2 := hy.keep b2
          replace b3 := hy.keep b3
          clear hx hy
          clear hv HCK HCA HFT
          go_wp2_with fail
          (with_reducible refine (HIT.out _ X1).mono ?_)
          rintro e w11 ⟨rfl, hx⟩
          have hy : Ext w10 w11 := by (repeat (first | exact Ext.refl _ | (with_reducible assumption) | (with_reducible refine Ext.drew ?_) | (with_reducible refine Ext.alloc ?_ _) | (with_reducible refine Ext.drewN ?_ _) | (with_reducible refine Ext.setCell ?_ (by omega) _) | (with_reducible refine Ext.trans ?_ (by with_reducible assumption))))
          replace X1 := X1.trans hy
          replace b0 := hy.keep b0
          replace b1 := hy.keep b1
          replace b2 := hy.keep b2
          replace b3 := hy.keep b3
          clear hx hy
          go_wp2_with fail
          (with_reducible refine (HZS.out _).mono ?_)
          rintro e w12 ⟨rfl, hx⟩
          have hy : Ext w11 w12 := by (repeat (first | exact Ext.refl _ | (with_reducible assumption) | (with_reducible refine Ext.drew ?_) | (with_reducible refine Ext.alloc ?_ _) | (with_reducible refine Ext.drewN ?_ _) | (with_reducible refine Ext.setCell ?_ (by omega) _) | (with_reducible refine Ext.trans ?_ (by with_reducible assumption))))
          replace X1 := X1.trans hy
          clear hx hy
          go_wp2_with fail
          (with_reducible refine (HAW.out _).mono ?_)
          rintro e w13 ⟨rfl, hx⟩
          have hy : Ext w12 w13 := by (repeat (first | exact Ext.refl _ | (with_reducible assumption) | (with_reducible refine Ext.drew ?_) | (with_reducible refine Ext.alloc ?_ _) | (with_reducible refine Ext.drewN ?_ _) | (with_reducible refine Ext.setCell ?_ (by omega) _) | (with_reducible refine Ext.trans ?_ (by with_reducible assumption))))
          replace X1 := X1.trans hy
          clear hx hy
          go_wp2_with fail
          go_ret
          exact ⟨rfl, X1⟩
      · have hEb : (caseE c == 0) = false := by rw [beq_eq_false_iff_ne]; exact hE
        have hEn : (caseE c != 0) = true := by rw [bne_iff_ne]; exact hE
        have hpl : playE c t = caseE c := by unfold playE; rw [if_pos hE]
        have HPL : Hid (∀ v' u' W, CasV W v' c → ThrsV W u' t → Calls Tryz.prog 36 #[v', u'] W fun e w' => e = .returned (.tuple #[.agg #[.slice none 0 0, .int .i64 0, .int .i64 0, .int .i64 0], .int .i64 (caseE c)]) ∧ Ext W w') := Lib.hid (fun v' u' W h1 h2 => hpl ▸ Play_bad c v' _ u' W h1 h2 (by rw [hpl]; exact hE))
        have HPR : Hid (∀ v' u' W, CasV W v' c → ThrsV W u' t → Calls Tryz.prog 43 #[v', u', .int .i64 n] W fun e w' => e = .returned (.bool false) ∧ Ext W w') := Lib.hid (fun v' u' W h1 h2 => by
          have := Prove_u c v' t u' n W h1 h2
          unfold proveB at this
          rw [hpl, hEb] at this
          simpa using this)
        clear hcv htt hth HTV hpl HIT
        generalize caseE c = E at *
        go_enter Tryz.func13, Tryz.ntmps13
        go_wp2_with fail
        have X : Ext w (w.alloc (.cells #[.slice a1 c.tars.length c1, .int .i64 c.day, .int .i64 c.fee, .slice a2 c.flds.length c2] 25)) := by (repeat (first | exact Ext.refl _ | (with_reducible assumption) | (with_reducible refine Ext.drew ?_) | (with_reducible refine Ext.alloc ?_ _) | (with_reducible refine Ext.drewN ?_ _) | (with_reducible refine Ext.setCell ?_ (by omega) _) | (with_reducible refine Ext.trans ?_ (by with_reducible assumption))))
        have HS : Hid (∀ w', Ext (w.alloc (.cells #[.slice a1 c.tars.length c1, .int .i64 c.day, .int .i64 c.fee, .slice a2 c.flds.length c2] 25)) w' → (w'.cell? ⟨w.heap.size, 0, none⟩ = some (.slice a1 c.tars.length c1) ∧ w'.cell? ⟨w.heap.size, 1, none⟩ = some (.int .i64 c.day) ∧ w'.cell? ⟨w.heap.size, 2, none⟩ = some (.int .i64 c.fee) ∧ w'.cell? ⟨w.heap.size, 3, none⟩ = some (.slice a2 c.flds.length c2)) ∧ Ext (w.alloc (.cells #[.slice a1 c.tars.length c1, .int .i64 c.day, .int .i64 c.fee, .slice a2 c.flds.length c2] 25)) w') := Lib.hid (fun w' hx => ⟨⟨hx.keep (by simp [go_sem]), hx.keep (by simp [go_sem]), hx.keep (by simp [go_sem]), hx.keep (by simp [go_sem])⟩, hx⟩)
        have HSf : Hid (∀ w', Ext (w.alloc (.cells #[.slice a1 c.tars.length c1, .int .i64 c.day, .int .i64 c.fee, .slice a2 c.flds.length c2] 25)) w' → ∀ o, w'.frozen? ⟨w.heap.size, o, none⟩ = false) := Lib.hid (fun w' hx o => (hx.frozen (by simp)).trans (by simp [go_sem]))
        have HSz : w.heap.size + 1 ≤ (w.alloc (.cells #[.slice a1 c.tars.length c1, .int .i64 c.day, .int .i64 c.fee, .slice a2 c.flds.length c2] 25)).heap.size := by simp
        generalize (w.alloc (.cells #[.slice a1 c.tars.length c1, .int .i64 c.day, .int .i64 c.fee, .slice a2 c.flds.length c2] 25)) = W at *
        (with_reducible refine (HTH.out _ X).mono ?_)
        rintro e w1 ⟨rfl, hx1⟩
        have X1 := X.trans hx1
        obtain ⟨q0, q1, q2, q3⟩ := (HS.out w1 hx1).1
        clear X hx1 HTH HS HSf HSz
        go_wp2_with fail
        (with_reducible refine (HCA.out _ X1).mono ?_)
        rintro e w2 ⟨vc, rfl, hv, hx⟩
        have hy : Ext w1 w2 := by (repeat (first | exact Ext.refl _ | (with_reducible assumption) | (with_reducible refine Ext.drew ?_) | (with_reducible refine Ext.alloc ?_ _) | (with_reducible refine Ext.drewN ?_ _) | (with_reducible refine Ext.setCell ?_ (by omega) _) | (with_reducible refine Ext.trans ?_ (by with_reducible assumption))))
        replace X1 := X1.trans hy
        replace q0 := hy.keep q0
        replace q1 := hy.keep q1
        replace q2 := hy.keep q2
        replace q3 := hy.keep q3
        clear hx hy
        go_wp2_with fail
        (with_reducible refine (HTR.out _ X1).mono ?_)
        rintro e w3 ⟨vq, rfl, hqv, hx⟩
        have hy : Ext w2 w3 := by (repeat (first | exact Ext.refl _ | (with_reducible assumption) | (with_reducible refine Ext.drew ?_) | (with_reducible refine Ext.alloc ?_ _) | (with_reducible refine Ext.drewN ?_ _) | (with_reducible refine Ext.setCell ?_ (by omega) _) | (with_reducible refine Ext.trans ?_ (by with_reducible assumption))))
        replace X1 := X1.trans hy
        replace q0 := hy.keep q0
        replace q1 := hy.keep q1
        replace q2 := hy.keep q2
        replace q3 := hy.keep q3
        replace hv := hv.ext hy
        clear hx hy
        go_wp2_with fail
        (with_reducible refine (HPL.out _ _ _ hv hqv).mono ?_)
        rintro e w4 ⟨rfl, hx⟩
        have hy : Ext w3 w4 := by (repeat (first | exact Ext.refl _ | (with_reducible assumption) | (with_reducible refine Ext.drew ?_) | (with_reducible refine Ext.alloc ?_ _) | (with_reducible refine Ext.drewN ?_ _) | (with_reducible refine Ext.setCell ?_ (by omega) _) | (with_reducible refine Ext.trans ?_ (by with_reducible assumption))))
        replace X1 := X1.trans hy
        replace q0 := hy.keep q0
        try clear q0_a
        have q0_a := fun o => ((Ext.refl w4).alloc o).keep q0
        replace q1 := hy.keep q1
        try clear q1_a
        have q1_a := fun o => ((Ext.refl w4).alloc o).keep q1
        replace q2 := hy.keep q2
        try clear q2_a
        have q2_a := fun o => ((Ext.refl w4).alloc o).keep q2
        replace q3 := hy.keep q3
        try clear q3_a
        have q3_a := fun o => ((Ext.refl w4).alloc o).keep q3
        clear hx hy
        clear hv hqv HPL
        go_wp2_with fail
        (with_reducible refine (HCA.out _ (X1.trans (by (repeat (first | exact Ext.refl _ | (with_reducible assumption) | (with_reducible refine Ext.drew ?_) | (with_reducible refine Ext.alloc ?_ _) | (with_reducible refine Ext.drewN ?_ _) | (with_reducible refine Ext.setCell ?_ (by omega) _) | (with_reducible refine Ext.trans ?_ (by with_reducible assumption))))))).mono ?_)
        rintro e w5 ⟨vc, rfl, hv, hx⟩
        have hy : Ext w4 w5 := by (repeat (first | exact Ext.refl _ | (with_reducible assumption) | (with_reducible refine Ext.drew ?_) | (with_reducible refine Ext.alloc ?_ _) | (with_reducible refine Ext.drewN ?_ _) | (with_reducible refine Ext.setCell ?_ (by omega) _) | (with_reducible refine Ext.trans ?_ (by with_reducible assumption))))
        have b0 := hx.keep (k := w4.heap.size) (o := 0) (v := .slice none 0 0) (by simp [go_sem])
        have b1 := hx.keep (k := w4.heap.size) (o := 1) (v := .int .i64 0) (by simp [go_sem])
        have b2 := hx.keep (k := w4.heap.size) (o := 2) (v := .int .i64 0) (by simp [go_sem])
        have b3 := hx.keep (k := w4.heap.size) (o := 3) (v := .int .i64 0) (by simp [go_sem])
        replace X1 := X1.trans hy
        replace q0 := hy.keep q0
        replace q1 := hy.keep q1
        replace q2 := hy.keep q2
        replace q3 := hy.keep q3
        clear hx hy
        clear q0_a q1_a q2_a q3_a
        go_wp2_with fail
        (with_reducible refine (HTR.out _ X1).mono ?_)
        rintro e w6 ⟨vq, rfl, hqv, hx⟩
        have hy : Ext w5 w6 := by (repeat (first | exact Ext.refl _ | (with_reducible assumption) | (with_reducible refine Ext.drew ?_) | (with_reducible refine Ext.alloc ?_ _) | (with_reducible refine Ext.drewN ?_ _) | (with_reducible refine Ext.setCell ?_ (by omega) _) | (with_reducible refine Ext.trans ?_ (by with_reducible assumption))))
        replace X1 := X1.trans hy
        replace q0 := hy.keep q0
        replace q1 := hy.keep q1
        replace q2 := hy.keep q2
        replace q3 := hy.keep q3
        replace hv := hv.ext hy
        replace b0 := hy.keep b0
        replace b1 := hy.keep b1
        replace b2 := hy.keep b2
        replace b3 := hy.keep b3
        clear hx hy
        go_wp2_with fail
        (with_reducible refine (HPR.out _ _ _ hv hqv).mono ?_)
        rintro e w7 ⟨rfl, hx⟩
        have hy : Ext w6 w7 := by (repeat (first | exact Ext.refl _ | (with_reducible assumption) | (with_reducible refine Ext.drew ?_) | (with_reducible refine Ext.alloc ?_ _) | (with_reducible refine Ext.drewN ?_ _) | (with_reducible refine Ext.setCell ?_ (by omega) _) | (with_reducible refine Ext.trans ?_ (by with_reducible assumption))))
        replace X1 := X1.trans hy
        replace q0 := hy.keep q0
        replace q1 := hy.keep q1
        replace q2 := hy.keep q2
        replace q3 := hy.keep q3
        replace b0 := hy.keep b0
        replace b1 := hy.keep b1
        replace b2 := hy.keep b2
        replace b3 := hy.keep b3
        clear hx hy
        clear hv hqv HPR HTR
        go_wp2_with fail
        (with_reducible refine (HFT.out _ X1).mono ?_)
        rintro e w8 ⟨rfl, hx⟩
        have hy : Ext w7 w8 := by (repeat (first | exact Ext.refl _ | (with_reducible assumption) | (with_reducible refine Ext.drew ?_) | (with_reducible refine Ext.alloc ?_ _) | (with_reducible refine Ext.drewN ?_ _) | (with_reducible refine Ext.setCell ?_ (by omega) _) | (with_reducible refine Ext.trans ?_ (by with_reducible assumption))))
        replace X1 := X1.trans hy
        replace q0 := hy.keep q0
        replace q1 := hy.keep q1
        replace q2 := hy.keep q2
        replace q3 := hy.keep q3
        replace b0 := hy.keep b0
        replace b1 := hy.keep b1
        replace b2 := hy.keep b2
        replace b3 := hy.keep b3
        clear hx hy
        go_wp2_with fail
        (with_reducible refine (HCA.out _ X1).mono ?_)
        rintro e w9 ⟨vc, rfl, hv, hx⟩
        have hy : Ext w8 w9 := by (repeat (first | exact Ext.refl _ | (with_reducible assumption) | (with_reducible refine Ext.drew ?_) | (with_reducible refine Ext.alloc ?_ _) | (with_reducible refine Ext.drewN ?_ _) | (with_reducible refine Ext.setCell ?_ (by omega) _) | (with_reducible refine Ext.trans ?_ (by with_reducible assumption))))
        replace X1 := X1.trans hy
        replace q0 := hy.keep q0
        replace q1 := hy.keep q1
        replace q2 := hy.keep q2
        replace q3 := hy.keep q3
        replace b0 := hy.keep b0
        replace b1 := hy.keep b1
        replace b2 := hy.keep b2
        replace b3 := hy.keep b3
        clear hx hy
        go_wp2_with fail
        (with_reducible refine (HCK.out _ _ hv).mono ?_)
        rintro e w10 ⟨rfl, hx⟩
        have hy : Ext w9 w10 := by (repeat (first | exact Ext.refl _ | (with_reducible assumption) | (with_reducible refine Ext.drew ?_) | (with_reducible refine Ext.alloc ?_ _) | (with_reducible refine Ext.drewN ?_ _) | (with_reducible refine Ext.setCell ?_ (by omega) _) | (with_reducible refine Ext.trans ?_ (by with_reducible assumption))))
        replace X1 := X1.trans hy
        replace q0 := hy.keep q0
        replace q1 := hy.keep q1
        replace q2 := hy.keep q2
        replace q3 := hy.keep q3
        replace b0 := hy.keep b0
        replace b1 := hy.keep b1
        replace b2 := hy.keep b2
        replace b3 := hy.keep b3
        clear hx hy
        clear hv HCK HCA HFT
        go_wp2_with fail
        (with_reducible refine (HZS.out _).mono ?_)
        rintro e w11 ⟨rfl, hx⟩
        have hy : Ext w10 w11 := by (repeat (first | exact Ext.refl _ | (with_reducible assumption) | (with_reducible refine Ext.drew ?_) | (with_reducible refine Ext.alloc ?_ _) | (with_reducible refine Ext.drewN ?_ _) | (with_reducible refine Ext.setCell ?_ (by omega) _) | (with_reducible refine Ext.trans ?_ (by with_reducible assumption))))
        replace X1 := X1.trans hy
        clear hx hy
        go_wp2_with fail
        (with_reducible refine (HAW.out _).mono ?_)
        rintro e w12 ⟨rfl, hx⟩
        have hy : Ext w11 w12 := by (repeat (first | exact Ext.refl _ | (with_reducible assumption) | (with_reducible refine Ext.drew ?_) | (with_reducible refine Ext.alloc ?_ _) | (with_reducible refine Ext.drewN ?_ _) | (with_reducible refine Ext.setCell ?_ (by omega) _) | (with_reducible refine Ext.trans ?_ (by with_reducible assumption))))
        replace X1 := X1.trans hy
        clear hx hy
        go_wp2_with fail
        go_ret
        exact ⟨rfl, X1⟩
end Go.Proofs.YtbmjnilcinfdiaaGreat
